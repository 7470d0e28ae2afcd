/- What the bound on bulk gives. -/
/- What the package-level variables hold, as a fact of the world that stays as the world grows: strconv's table of tens, its two errors; internal/bytealg.MaxLen. -/
/- What the listed tables and sentinels of a row over script give. -/
/- What a type's reading as data gives of a value: a value of the printed kinds, well formed, no bulkier than the datum. -/
/- What the struct types' readings give (by rowgen.py). -/
/- script.number, script.words: contracts. -/
/- Plain law: decimal numerals: what is printed is read as itself. -/
/- script.words, script.Print: contracts. -/
/- strings.Split, strings.CutPrefix, strings.IndexByte, script.number in the print's form, out of the shelf's contracts. -/
/- script.kind, script.hex: contracts. -/
/- script.hex: its contract. -/
import Derived.Test.YteooddfilnijgaaDoorRows
import Derived.Test.YteooddfilnijgaaDoorProg
import Derived.Below
import Derived.Deep.Draws
import Derived.Deep.AppendLies
import Derived.Maps.AppendAt
import Derived.OwnWalk
import Derived.Laws.BytesArg
import Derived.Laws.MakeOwn
import Derived.Laws.OwnMore
import Derived.Deep.OwnRows
import Derived.Tactics
import Derived.Lib.ConvBytes
import Derived.Laws.Slices
import Derived.WalkKit
import Derived.KernelRfl
import Derived.RowKit3
import Derived.Deep.LoopGhost
import Derived.Deep.QuietTactic
import Derived.BigQuiet
import Derived.WideLaws
import Derived.Deep.DeepCutAuto
import Derived.Deep.CutBlock
import Derived.Deep.RegionHeld3
import Derived.Laws.Rows
import Derived.Lib.AppendStr
import Derived.ArgAppend
import Derived.Laws.IdiomCopy
import Derived.OrdersHeld
import Derived.Laws.BitsLemmas
import Derived.RowKit
import Derived.Test.YteooddfilnijgaaDoorWWords
import Derived.Test.YteooddfilnijgaaDoorWLast
import Derived.Test.YteooddfilnijgaaDoorWTab
import Derived.Test.YteooddfilnijgaaDoorWFour
import Derived.Test.YteooddfilnijgaaDoorWQPut
import Derived.Test.YteooddfilnijgaaDoorWApart
import Derived.Test.YteooddfilnijgaaDoorWArr
import Derived.Test.YteooddfilnijgaaDoorWZeros
import Derived.Test.YteooddfilnijgaaDoorWFoot
import Derived.Test.YteooddfilnijgaaDoorWKept
import Derived.Test.YteooddfilnijgaaDoorWShare
import Derived.Test.YteooddfilnijgaaDoorWN
import Derived.Test.YteooddfilnijgaaDoorWFootNe
import Derived.Test.YteooddfilnijgaaDoorWAt
import Derived.Test.YteooddfilnijgaaDoorWEqStruct
import Derived.Test.YteooddfilnijgaaDoorWRepsOne
import Derived.Test.YteooddfilnijgaaDoorWInv
import Derived.Test.YteooddfilnijgaaDoorWInvWords
import Derived.Test.YteooddfilnijgaaDoorWGuard
import Derived.Test.YteooddfilnijgaaDoorWNEv
import Derived.Test.YteooddfilnijgaaDoorWMore
import Derived.Test.YteooddfilnijgaaDoorShelf
import Derived.Test.YteooddfilnijgaaDoorWSized
import Derived.ProofKit
import Derived.OpenShut
import Derived.ShutString
import Derived.Stop.LaidErr
import Derived.Lib.LaidTab
import Derived.Lib.LaidIn
import Derived.MakeChecks
import Derived.ChangeArms
import Derived.ChangeOld
import Derived.Lib.ItoaNum
import Derived.Lib.ParseIntB
import Derived.Lib.Strings
import Derived.Lib.ItoaLen
import Derived.Lib.SplitLaws
import Derived.Lib.OthersKept
import Derived.Lib.Bytealg
import Derived.Lib.IndexLaws
import Derived.Lib.RuneCount
namespace Go.Proofs.YteooddfilnijgaaDoor.Px
set_option linter.unusedVariables false
theorem bulk_one {H : Type} (d : DataW H) : 1 ≤ Rows.uptoBulk d := by
  cases d with
  | lit l => cases l <;> simp [Rows.uptoBulk]
  | nil => simp [Rows.uptoBulk]
  | ptr d => simp [Rows.uptoBulk]
  | slice elems spare => simp [Rows.uptoBulk]
  | agg parts => simp [Rows.uptoBulk]
  | iface t d => simp [Rows.uptoBulk]
  | map entries => simp [Rows.uptoBulk]
  | held h => simp [Rows.uptoBulk]
theorem bulk_part_le {H : Type} {d : DataW H} {l : List (DataW H)} (h : d ∈ l) : Rows.uptoBulk d ≤ Rows.uptoBulkAll l := by
  induction l with
  | nil => cases h
  | cons x r ih =>
    simp only [Rows.uptoBulkAll]
    rcases List.mem_cons.1 h with e | e
    · subst e; omega
    · have := ih e; omega
theorem bulk_length {H : Type} (l : List (DataW H)) : l.length ≤ Rows.uptoBulkAll l := by
  induction l with
  | nil => simp [Rows.uptoBulkAll]
  | cons x r ih => have := bulk_one x; simp only [Rows.uptoBulkAll, List.length_cons]; omega
theorem bulk_part {H : Type} {ds gs : List (DataW H)} {d : DataW H} (hk : Rows.uptoSmall H (ds ++ gs) = true) (hm : d ∈ ds) : Rows.uptoBulk d ≤ 1048576 := by
  have h : Rows.uptoBulkAll (ds ++ gs) ≤ 1048576 := of_decide_eq_true hk
  exact Nat.le_trans (bulk_part_le (List.mem_append_left _ hm)) h
theorem string_small {H : Type} {a : ByteArray} {B : Nat} (h : Rows.uptoBulk (DataW.lit (H := H) (.string a.data.toList)) ≤ B) : a.size ≤ B := by
  simp only [Rows.uptoBulk] at h
  have e : a.data.toList.length = a.size := by rw [Array.length_toList]; rfl
  omega
end Go.Proofs.YteooddfilnijgaaDoor.Px
namespace Go.Proofs.YteooddfilnijgaaDoor.Px
open Go.RowKit Go.Proofs.YteooddfilnijgaaDoorW.PrintWords Go.Proofs.YteooddfilnijgaaDoorW.PrintLast Go.Proofs.YteooddfilnijgaaDoorW.PrintMore
attribute [local go_sem] max2_int min2_int max_two min_two max_three min_three max_four min_four
set_option linter.unusedVariables false
set_option linter.unusedSimpArgs false
def errW:Option Int→Value
 | none => .nilIface
 | some c => .iface 0 (.int .i64 c)
theorem errW_none:errW none=.nilIface:=rfl
theorem errW_some (c:Int):errW (some c)=.iface 0 (.int .i64 c):=rfl
theorem info2:(Tryd.prog.info? 2).map (fun i => (i.zero,i.size,i.bytes))=some (some (.int .i64 0),1,8):=by kernel_rfl
theorem info9:(Tryd.prog.info? 9).map (fun i => (i.zero,i.size,i.bytes))=some (some (.string ⟨#[]⟩),1,16):=by kernel_rfl
end Go.Proofs.YteooddfilnijgaaDoor.Px
namespace Go.Proofs.YteooddfilnijgaaDoor.Px
open Go.RowKit Go.Lib Go.Proofs.YteooddfilnijgaaDoorW.PrintWords Go.Proofs.YteooddfilnijgaaDoorW.PrintLast Go.Proofs.YteooddfilnijgaaDoorW.PrintMore
theorem tab_below {P:Program} {w w':World} {name:String} {k:IntKind} {zs:List Int} (h:Lib.TabIs P w name k zs) (hb:Below w.heap.size w w'):Lib.TabIs P w' name k zs:=by
 unfold Lib.TabIs World.var? at h ⊢
 cases hg:P.globalNamed name with
 | none => rw [hg] at h;cases h
 | some g =>
  rw [hg] at h
  simp only [Option.bind_some] at h ⊢
  cases hh:w.heap[g]? with
  | none => rw [hh] at h;cases h
  | some o => rw [hb.block g (blk_lt hh),hh];rw [hh] at h;exact h
theorem grow_below (w:World) (os:Array Obj):Below w.heap.size w (Go.Sort.grow w os):=by
 refine ⟨rfl,rfl,rfl,?_,?_⟩
 ·show w.heap.size≤(w.heap++os).size
  rw [Array.size_append];omega
 ·intro i hi
  show (w.heap++os)[i]?=w.heap[i]?
  exact Array.getElem?_append_left hi
structure GG (w:World):Prop where mk ::
 tab : Lib.TabIs Tryd.prog w "internal/strconv.uint64pow10" .u64 Lib.pow10Tab
 es:∃ t p,w.cell? ⟨1,0,none⟩=some (.iface t p)
 er:∃ t p,w.cell? ⟨2,0,none⟩=some (.iface t p)
 ml:∃ m,w.cell? ⟨5,0,none⟩=some (.int .i64 m)
theorem GG.below {w w':World} (h:GG w) (hb:Below w.heap.size w w'):GG w':=by
 obtain ⟨t1,p1,h1⟩:=h.es
 obtain ⟨t2,p2,h2⟩:=h.er
 obtain ⟨m,hm⟩:=h.ml
 exact ⟨tab_below h.tab hb,⟨t1,p1,pw_cell_below hb h1⟩,⟨t2,p2,pw_cell_below hb h2⟩,⟨m,pw_cell_below hb hm⟩⟩
end Go.Proofs.YteooddfilnijgaaDoor.Px
namespace Go.Proofs.YteooddfilnijgaaDoor.Px
open Go.RowKit Go.ChangeShapes Go.WideShapes Go.ChangeAt Go.Lib Go.Proofs.YteooddfilnijgaaDoorW.PrintWords Go.Proofs.YteooddfilnijgaaDoorW.PrintLast Go.Proofs.YteooddfilnijgaaDoorW.PrintMore
set_option linter.unusedVariables false
theorem laid_head {P : Program} {w : World} : ∀ {l : List (String × DataW Unit)}, laidMet P l w → ∀ {x : String × DataW Unit}, x ∈ l → ∃ r, laidMet P (x :: r) w := by
  intro l
  induction l with
  | nil => intro _ x hx; cases hx
  | cons y r ih =>
    intro h x hx
    rcases List.mem_cons.1 hx with e | e
    · subst e; exact ⟨r, h⟩
    · exact ih h.tail e
theorem errorRow (u : TypeId) (h : Tryd.prog.typeName? 3 u = some "*errors.errorString") : u = 99 :=
  typeName_ptr_named (nm := "errors.errorString") (by rw [show ("*" ++ "errors.errorString" : String) = "*errors.errorString" from by decide]; kernel_rfl) (by kernel_rfl) (by decide) u (by rw [show ("*" ++ "errors.errorString" : String) = "*errors.errorString" from by decide]; exact h)
theorem GG.of_laid {l : List (String × DataW Unit)} {W : World} (h : laidMet Tryd.prog l W) (h1 : ("internal/strconv.uint64pow10", Rows.laid_internal_strconv_uint64pow10) ∈ l) (h2 : ("strconv.ErrSyntax", Rows.laid_strconv_ErrSyntax) ∈ l) (h3 : ("strconv.ErrRange", Rows.laid_strconv_ErrRange) ∈ l) (hS : W.ShapedOpen Tryd.prog) : GG W := by
  obtain ⟨r1, g1⟩ := laid_head h h1
  obtain ⟨r2, g2⟩ := laid_head h h2
  obtain ⟨r3, g3⟩ := laid_head h h3
  obtain ⟨a2, s2, hv2, -⟩ := laid_sentinel (g := 1) (tp := 99) g2 (by kernel_rfl) (by kernel_rfl) Tryd.underlying51 errorRow Tryd.underlying99 Tryd.underlying101 rfl rfl Tryd.underlying9 (by kernel_rfl) (by kernel_rfl)
  obtain ⟨a3, s3, hv3, -⟩ := laid_sentinel (g := 2) (tp := 99) g3 (by kernel_rfl) (by kernel_rfl) Tryd.underlying51 errorRow Tryd.underlying99 Tryd.underlying101 rfl rfl Tryd.underlying9 (by kernel_rfl) (by kernel_rfl)
  obtain ⟨m, hm⟩ := Tryd.laysM146.s1_3 W hS
  refine ⟨Lib.tabIs_of_head (g := 0) (t := 73) (e := 61) (n := 20) (by kernel_rfl) (by kernel_rfl) (by kernel_rfl) (by kernel_rfl) (by kernel_rfl) (by kernel_rfl) (show laidMet Tryd.prog (("internal/strconv.uint64pow10", Lib.tabData .u64 Lib.pow10Tab) :: r1) W from g1), ?_, ?_, ?_⟩
  · exact ⟨_, _, (World.var?_cell (g := 1) (by kernel_rfl) hv2 0).trans rfl⟩
  · exact ⟨_, _, (World.var?_cell (g := 2) (by kernel_rfl) hv3 0).trans rfl⟩
  · exact ⟨m, hm⟩
end Go.Proofs.YteooddfilnijgaaDoor.Px
namespace Go.Proofs.YteooddfilnijgaaDoor.Px
open Go.RowKit Go.ChangeShapes Go.WideShapes Go.ChangeAt Go.Proofs.YteooddfilnijgaaDoorW.PrintWords Go.Proofs.YteooddfilnijgaaDoorW.PrintLast Go.Proofs.YteooddfilnijgaaDoorW.PrintMore
set_option linter.unusedVariables false
def Fits {α:Type} {H:Type} (enc:TypeId × Value→H) (P:Program) (W:World) (t:TypeId) (d:Kd α) (Q:Nat→α→Prop):Prop :=
 ∀ (fuel:Nat) (cs:List Value) (x:DataW H) (p:List MemPlace),DataW.trod enc P W 0 (fun _ => true) true fuel t cs=some (x,p)→∃ a:α,d.K W a cs∧Q (Rows.uptoBulk x) a
section
variable {α β:Type} {H:Type} {enc:TypeId × Value→H} {P:Program} {W:World} {t e:TypeId}
def Qint (k:IntKind) (_:Nat) (a:Int):Prop:=(Lit.int k a).wf=true
def Qbool (_:Nat) (_:Bool):Prop:=True
def Qstr (b:Nat) (a:ByteArray):Prop:=a.size < b
theorem Qint.mono (k:IntKind):∀ b b' a,b≤b'→Qint k b a→Qint k b' a:=fun _ _ _ _ h => h
theorem Qbool.mono:∀ b b' a,b≤b'→Qbool b a→Qbool b' a:=fun _ _ _ _ h => h
theorem Qstr.mono:∀ b b' a,b≤b'→Qstr b a→Qstr b' a:=fun _ _ _ h1 h2 => Nat.lt_of_lt_of_le h2 h1
theorem Fits.int {k:IntKind} (ht:P.underlying t=some (.int k)):Fits enc P W t (Kd.int k) (Qint k):=by
 intro fuel cs x p h
 obtain ⟨n,hc,hx,hw⟩:=DataW.trod_int ht h
 exact ⟨n,hc,hw⟩
theorem Fits.bool (ht:P.underlying t=some .bool):Fits enc P W t Kd.bool Qbool:=by
 intro fuel cs x p h
 obtain ⟨b,hc,hx⟩:=DataW.trod_bool ht h
 exact ⟨b,hc,trivial⟩
theorem Fits.string (ht:P.underlying t=some .string):Fits enc P W t Kd.string Qstr:=by
 intro fuel cs x p h
 obtain ⟨s,hc,hx⟩:=DataW.trod_string ht h
 refine ⟨s,hc,?_⟩
 unfold Qstr
 have hx:=(Prod.mk.inj hx.1).1
 subst hx
 simp only [Rows.uptoBulk]
 have e:s.data.toList.length=s.size:=by rw [Array.length_toList];rfl
 omega
theorem fits_add (a:Addr) (x j:Nat):(a.add x).add j=a.add (x + j):=by
 unfold Addr.add
 by_cases h1:x=0 <;> by_cases h2:j=0 <;> simp [h1,h2,Nat.add_assoc]
def QAll (Q:Nat→α→Prop) (b:Nat) (l:List α):Prop:=l.length < b∧∀ x ∈ l,Q b x
theorem QAll.mono {Q:Nat→α→Prop} (hQ:∀ b b' a,b≤b'→Q b a→Q b' a):∀ b b' l,b≤b'→QAll Q b l→QAll Q b' l:=fun b b' l h hq => ⟨Nat.lt_of_lt_of_le hq.1 h,fun x hx => hQ _ _ _ h (hq.2 x hx)⟩
theorem Fits.slice {d:Kd α} {Q:Nat→α→Prop} (hQ:∀ b b' a,b≤b'→Q b a→Q b' a) (ht:P.underlying t=some (.slice e)) (hsz:P.cellsOf e=d.sz) (hd:Fits enc P W e d Q):Fits enc P W t (Kd.slice e d) (QAll Q):=by
 intro fuel cs x p h
 rcases DataW.trod_slice ht h with ⟨hcs,hx⟩|⟨a,len,cap,elems,rest,n,_,hcs,hx,_,hl,hm,hlen,hel,_,_⟩
 ·refine ⟨[],⟨none,0,hcs,Nat.le_refl _,rfl,by simp,fun hh => absurd hh (by simp)⟩,?_,fun y hy => by cases hy⟩
  exact bulk_one x
 ·have hx1:=(Prod.mk.inj hx).1
  have each:∀ i,i < len→∃ y:α,∃ c:List Value,d.K W y c∧c.length=d.sz∧(∀ j u,c[j]?=some u→W.cell? (a.add (i * d.sz + j))=some u)∧Q (Rows.uptoBulk x) y:=by
   intro i hi
   have h1:=hel i hi
   obtain ⟨z,hz⟩:∃ z,elems[i]?=some z:=⟨elems[i]'(by omega),List.getElem?_eq_getElem (by omega)⟩
   rw [hz] at h1
   obtain ⟨c,hc,hk⟩:=Option.bind_eq_some_iff.1 h1
   obtain ⟨_,hcl,hcc⟩:=World.cells?_some hc
   obtain ⟨y,hy,hq⟩:=hd n c z.1 z.2 hk
   refine ⟨y,c,hy,by rw [hcl,hsz],?_,hQ _ _ _ ?_ hq⟩
   ·intro j u hj
    have hjl:j < c.length:=(List.getElem?_eq_some_iff.1 hj).1
    have:=hcc j (by omega)
    rw [hj] at this
    rw [← this,hsz,fits_add]
   ·rw [hx1]
    simp only [Rows.uptoBulk]
    have:z.1 ∈ elems.map (·.1):=List.mem_map_of_mem (List.mem_of_getElem? hz)
    have:=bulk_part_le this
    omega
  have hf:∀ i:Fin len,∃ c:List Value,d.K W (Classical.choose (each i.1 i.2)) c∧c.length=d.sz∧(∀ j u,c[j]?=some u→W.cell? (a.add (i.1 * d.sz + j))=some u)∧Q (Rows.uptoBulk x) (Classical.choose (each i.1 i.2)):=fun i => Classical.choose_spec (each i.1 i.2)
  generalize hF:(fun i:Fin len => Classical.choose (each i.1 i.2))=f at hf
  replace hf:∀ i:Fin len,∃ c:List Value,d.K W (f i) c∧c.length=d.sz∧(∀ j u,c[j]?=some u→W.cell? (a.add (i.1 * d.sz + j))=some u)∧Q (Rows.uptoBulk x) (f i):=fun i => by
   have:=hf i
   rw [← hF]
   exact this
  have hxs:(List.ofFn f).length=len:=by simp
  refine ⟨List.ofFn f,⟨some a,cap,by rw [hxs];exact hcs,by rw [hxs];exact hl,rfl,?_,fun _ => ⟨a,rfl,?_⟩⟩,?_,?_⟩
  ·rw [hxs];unfold maxLen at hm;omega
  ·intro j q hj
   have hjl:j < len:=by
    have:=(List.getElem?_eq_some_iff.1 hj).1
    omega
   have hq:f ⟨j,hjl⟩=q:=by
    rw [List.getElem?_ofFn,dif_pos hjl] at hj
    exact Option.some.inj hj
   obtain ⟨c,h1,h2,h3,_⟩:=hf ⟨j,hjl⟩
   subst hq
   exact ⟨c,h2,h1,h3⟩
  ·rw [hxs,hx1]
   simp only [Rows.uptoBulk]
   have:=bulk_length (elems.map (·.1))
   rw [List.length_map] at this
   omega
  ·intro y hy
   obtain ⟨i,rfl⟩:=(List.mem_ofFn).1 hy
   obtain ⟨_,_,_,_,hq⟩:=hf i
   exact hq
end
end Go.Proofs.YteooddfilnijgaaDoor.Px
namespace Go.Proofs.YteooddfilnijgaaDoor.Px
open Go.RowKit Go.ChangeShapes Go.WideShapes Go.ChangeAt Go.Proofs.YteooddfilnijgaaDoorW.PrintWords Go.Proofs.YteooddfilnijgaaDoorW.PrintLast Go.Proofs.YteooddfilnijgaaDoorW.PrintMore
set_option linter.unusedVariables false
set_option maxRecDepth 100000
theorem open23 {H:Type} (enc:TypeId × Value→H) (W:World) (fuel:Nat) (cs:List Value) (x:DataW H) (p:List MemPlace) (h:DataW.trod enc Tryd.prog W 0 (fun _ => true) true fuel 23 cs=some (x,p)) (b:Nat) (hbb:Rows.uptoBulk x≤b):∃ (a0:Int) (a1:Int) (a2:Int) (a3:Int),cs=[.int .i64 a0,.int .i64 a1,.int .i64 a2,.int .i64 a3]∧((Qint .i64) b a0)∧((Qint .i64) b a1)∧((Qint .i64) b a2)∧((Qint .i64) b a3):=by
 obtain ⟨xs,n,rfl,hx,hlen,hxl,hall⟩:=DataW.trod_struct Tryd.underlying23 h
 have hx1:=(Prod.mk.inj hx).1
 have hb:∀ z ∈ xs,Rows.uptoBulk z.1≤Rows.uptoBulk x:=by
  intro z hz
  rw [hx1]
  simp only [Rows.uptoBulk]
  have:=bulk_part_le (List.mem_map_of_mem (f:=(·.1)) hz)
  omega
 have hl:cs.length=4:=hlen.trans (by kernel_rfl)
 have hxl':xs.length=4:=hxl
 obtain ⟨y0,y1,y2,y3,rfl⟩:∃ y0 y1 y2 y3,cs=[y0,y1,y2,y3]:=by
  match cs,hl with
  | [y0,y1,y2,y3],_ => exact ⟨y0,y1,y2,y3,rfl⟩
 have e0:=hall 0 _ rfl
 obtain ⟨z0,hz0⟩:∃ z,xs[0]?=some z:=⟨xs[0]'(by omega),List.getElem?_eq_getElem (by omega)⟩
 rw [hz0] at e0
 have k0:Tryd.prog.cellsOf 3=1:=by kernel_rfl
 replace e0:DataW.trod enc Tryd.prog W 0 (fun _ => true) true n 3 [y0]=some z0:=by first|exact e0|(rw [k0] at e0;exact e0)
 obtain ⟨a0,hc0,q0⟩:=(Fits.int Tryd.underlying3) n _ z0.1 z0.2 e0
 replace q0:=(Qint.mono .i64) _ b _ (Nat.le_trans (hb z0 (List.mem_of_getElem? hz0)) hbb) q0
 obtain rfl:y0=_:=List.head_eq_of_cons_eq hc0
 have e1:=hall 1 _ rfl
 obtain ⟨z1,hz1⟩:∃ z,xs[1]?=some z:=⟨xs[1]'(by omega),List.getElem?_eq_getElem (by omega)⟩
 rw [hz1] at e1
 have k1:Tryd.prog.cellsOf 3=1:=by kernel_rfl
 replace e1:DataW.trod enc Tryd.prog W 0 (fun _ => true) true n 3 [y1]=some z1:=by first|exact e1|(rw [k1] at e1;exact e1)
 obtain ⟨a1,hc1,q1⟩:=(Fits.int Tryd.underlying3) n _ z1.1 z1.2 e1
 replace q1:=(Qint.mono .i64) _ b _ (Nat.le_trans (hb z1 (List.mem_of_getElem? hz1)) hbb) q1
 obtain rfl:y1=_:=List.head_eq_of_cons_eq hc1
 have e2:=hall 2 _ rfl
 obtain ⟨z2,hz2⟩:∃ z,xs[2]?=some z:=⟨xs[2]'(by omega),List.getElem?_eq_getElem (by omega)⟩
 rw [hz2] at e2
 have k2:Tryd.prog.cellsOf 3=1:=by kernel_rfl
 replace e2:DataW.trod enc Tryd.prog W 0 (fun _ => true) true n 3 [y2]=some z2:=by first|exact e2|(rw [k2] at e2;exact e2)
 obtain ⟨a2,hc2,q2⟩:=(Fits.int Tryd.underlying3) n _ z2.1 z2.2 e2
 replace q2:=(Qint.mono .i64) _ b _ (Nat.le_trans (hb z2 (List.mem_of_getElem? hz2)) hbb) q2
 obtain rfl:y2=_:=List.head_eq_of_cons_eq hc2
 have e3:=hall 3 _ rfl
 obtain ⟨z3,hz3⟩:∃ z,xs[3]?=some z:=⟨xs[3]'(by omega),List.getElem?_eq_getElem (by omega)⟩
 rw [hz3] at e3
 have k3:Tryd.prog.cellsOf 2=1:=by kernel_rfl
 replace e3:DataW.trod enc Tryd.prog W 0 (fun _ => true) true n 2 [y3]=some z3:=by first|exact e3|(rw [k3] at e3;exact e3)
 obtain ⟨a3,hc3,q3⟩:=(Fits.int Tryd.underlying2) n _ z3.1 z3.2 e3
 replace q3:=(Qint.mono .i64) _ b _ (Nat.le_trans (hb z3 (List.mem_of_getElem? hz3)) hbb) q3
 obtain rfl:y3=_:=List.head_eq_of_cons_eq hc3
 exact ⟨a0,a1,a2,a3,rfl,q0,q1,q2,q3⟩
end Go.Proofs.YteooddfilnijgaaDoor.Px
namespace Go.Proofs.YteooddfilnijgaaDoor.Px
open Go.RowKit Go.Proofs.YteooddfilnijgaaDoorW.PrintWords Go.Proofs.YteooddfilnijgaaDoorW.PrintLast Go.Proofs.YteooddfilnijgaaDoorW.PrintMore
attribute [local go_sem] max2_int min2_int max_two min_two max_three min_three max_four min_four
set_option linter.unusedVariables false
set_option linter.unusedSimpArgs false
theorem eqA23 (d:Nat) (w:World) (x0 y0:Int) (x1 y1:Int) (x2 y2:Int) (x3 y3:Int) :
  (Op.equalIn (d + 2) 23 (.agg #[.int .i64 x0,.int .i64 x1,.int .i64 x2,.int .i64 x3]) (.agg #[.int .i64 y0,.int .i64 y1,.int .i64 y2,.int .i64 y3])).run Tryd.prog w=.ok (x0==y0 && (x1==y1 && (x2==y2 && (x3==y3)))) w:=by
 refine eqA_of Tryd.underlying23 (by kernel_rfl) ?_
 refine eqf_cons (by rfl) (by go_simp;rfl) (by go_simp;rfl) (by go_simp) ?_
 refine eqf_cons (by rfl) (by go_simp;rfl) (by go_simp;rfl) (by go_simp) ?_
 refine eqf_cons (by rfl) (by go_simp;rfl) (by go_simp;rfl) (by go_simp) ?_
 exact eqf_last (by rfl) (by go_simp;rfl) (by go_simp;rfl) (by go_simp)
end Go.Proofs.YteooddfilnijgaaDoor.Px
namespace Go.Proofs.YteooddfilnijgaaDoor.Px
open Go.RowKit Go.Proofs.YteooddfilnijgaaDoorW.PrintWords Go.Proofs.YteooddfilnijgaaDoorW.PrintLast Go.Proofs.YteooddfilnijgaaDoorW.PrintMore
attribute [local go_sem] max2_int min2_int max_two min_two max_three min_three max_four min_four
set_option linter.unusedVariables false
set_option linter.unusedSimpArgs false
def understudyref23_names.f :Option (List ByteArray):=some (([(⟨#[114,117,110]⟩:ByteArray),(⟨#[105,110,112,117,116]⟩:ByteArray),(⟨#[99,108,111,99,107]⟩:ByteArray),(⟨#[116,105,99,107]⟩:ByteArray),(⟨#[100,101,108,105,118,101,114]⟩:ByteArray),(⟨#[100,114,111,112]⟩:ByteArray),(⟨#[116,119,105,99,101]⟩:ByteArray),(⟨#[99,114,97,115,104]⟩:ByteArray)]:List ByteArray))
set_option maxHeartbeats 80000000 in
set_option maxRecDepth 100000 in
theorem understudyref23_names.calls  (r:List ByteArray) (w:World) (h:understudyref23_names.f =some r) :
  Calls Tryd.prog 13 #[] w fun e w' => ∃ v0_:Value,e=.returned (v0_)∧Kd.R Kd.string 9 w' w.heap.size (fun _ => True) v0_ r∧Below w.heap.size w w':=by
 have HB:=Aside0.mk (Below.refl w.heap.size w)
 have H:(some (([(⟨#[114,117,110]⟩:ByteArray),(⟨#[105,110,112,117,116]⟩:ByteArray),(⟨#[99,108,111,99,107]⟩:ByteArray),(⟨#[116,105,99,107]⟩:ByteArray),(⟨#[100,101,108,105,118,101,114]⟩:ByteArray),(⟨#[100,114,111,112]⟩:ByteArray),(⟨#[116,119,105,99,101]⟩:ByteArray),(⟨#[99,114,97,115,104]⟩:ByteArray)]:List ByteArray)))=some r:=h
 clear h
 obtain ⟨y101,hy101⟩:∃ y_:List ByteArray,y_=(([(⟨#[114,117,110]⟩:ByteArray),(⟨#[105,110,112,117,116]⟩:ByteArray),(⟨#[99,108,111,99,107]⟩:ByteArray),(⟨#[116,105,99,107]⟩:ByteArray),(⟨#[100,101,108,105,118,101,114]⟩:ByteArray),(⟨#[100,114,111,112]⟩:ByteArray),(⟨#[116,119,105,99,101]⟩:ByteArray),(⟨#[99,114,97,115,104]⟩:ByteArray)]:List ByteArray)):=⟨_,rfl⟩
 replace H:(some y101)=some r:=by first|(rw [hy101];with_reducible exact H)|(have H2_:=(Option.bind_some _ _).symm.trans H;rw [hy101];with_reducible exact H2_)|(have H2_:=(Option.bind_some _ _).symm.trans H;with_reducible exact H2_)|with_reducible exact H|(rw [hy101];exact H)|exact H
 have Ny101:=Aside0.mk hy101
 clear hy101
 obtain rfl:=Option.some.inj H
 go_enter Tryd.func13,Tryd.ntmps13
 go_wp2_with (first|((with_reducible refine gate_dst (N:=1) rfl ?_);refine Kd.R_lit Kd.string _ 9 ?hg (N:=1) ?hd (xs:=([(⟨#[114,117,110]⟩:ByteArray),(⟨#[105,110,112,117,116]⟩:ByteArray),(⟨#[99,108,111,99,107]⟩:ByteArray),(⟨#[116,105,99,107]⟩:ByteArray),(⟨#[100,101,108,105,118,101,114]⟩:ByteArray),(⟨#[100,114,111,112]⟩:ByteArray),(⟨#[116,119,105,99,101]⟩:ByteArray),(⟨#[99,114,97,115,104]⟩:ByteArray)]:List ByteArray)) (inner:=[.string (⟨#[114,117,110]⟩:ByteArray),.string (⟨#[105,110,112,117,116]⟩:ByteArray),.string (⟨#[99,108,111,99,107]⟩:ByteArray),.string (⟨#[116,105,99,107]⟩:ByteArray),.string (⟨#[100,101,108,105,118,101,114]⟩:ByteArray),.string (⟨#[100,114,111,112]⟩:ByteArray),.string (⟨#[116,119,105,99,101]⟩:ByteArray),.string (⟨#[99,114,97,115,104]⟩:ByteArray)]) (ok:=fun _ => True) (okp:=fun _ => True) ?hr ?hp (fun _ hk => hk) trivial (Below.refl _ _) (Nat.le_refl _) (by simp) ?_;(case hd => rfl);(case hg => rfl);(case hr => first|(go_simp;done)|(go_simp;rfl));(case hp => exact (Reps.one (show Kd.M Kd.string _ _ _ (⟨#[114,117,110]⟩:ByteArray) [.string (⟨#[114,117,110]⟩:ByteArray)] from rfl) (Reps.one (show Kd.M Kd.string _ _ _ (⟨#[105,110,112,117,116]⟩:ByteArray) [.string (⟨#[105,110,112,117,116]⟩:ByteArray)] from rfl) (Reps.one (show Kd.M Kd.string _ _ _ (⟨#[99,108,111,99,107]⟩:ByteArray) [.string (⟨#[99,108,111,99,107]⟩:ByteArray)] from rfl) (Reps.one (show Kd.M Kd.string _ _ _ (⟨#[116,105,99,107]⟩:ByteArray) [.string (⟨#[116,105,99,107]⟩:ByteArray)] from rfl) (Reps.one (show Kd.M Kd.string _ _ _ (⟨#[100,101,108,105,118,101,114]⟩:ByteArray) [.string (⟨#[100,101,108,105,118,101,114]⟩:ByteArray)] from rfl) (Reps.one (show Kd.M Kd.string _ _ _ (⟨#[100,114,111,112]⟩:ByteArray) [.string (⟨#[100,114,111,112]⟩:ByteArray)] from rfl) (Reps.one (show Kd.M Kd.string _ _ _ (⟨#[116,119,105,99,101]⟩:ByteArray) [.string (⟨#[116,119,105,99,101]⟩:ByteArray)] from rfl) (Reps.one (show Kd.M Kd.string _ _ _ (⟨#[99,114,97,115,104]⟩:ByteArray) [.string (⟨#[99,114,97,115,104]⟩:ByteArray)] from rfl) (Reps.none _ _))))))))));intro v102 w1 ho2 hb hg_ hnew_;clear hg_ hnew_;(first|rw [← Ny101.out] at ho2|(simp only [Int.reduceToNat] at ho2;rw [← Ny101.out] at ho2));have n0_:=Aside0.mk (Kd.R_lower ho2 (below_size (by repeat (first|(with_reducible first|exact HB.out|apply below_alloc|apply pw_below_drewN|apply below_drew1)|exact HB.out))));have n1_:=Aside0.mk (below_step (by repeat (first|(with_reducible first|exact HB.out|apply below_alloc|apply pw_below_drewN|apply below_drew1)|exact HB.out)) hb);clear HB;have HO103:=n0_;have HB:=n1_;clear n0_ n1_;clear hb ho2))
 go_ret
 exact ⟨_,by first|rfl|(simp [errW_none,errW_some] <;> rfl)|(simp [*,errW_none,errW_some] <;> rfl),by (with_reducible repeat (first|apply Kd.R_alloc|apply Kd.R_drewN|apply Kd.R_drew));exact HO103.out,by repeat (first|(with_reducible first|exact HB.out|apply below_alloc|apply pw_below_drewN|apply below_drew1)|exact HB.out)⟩
def understudyref23_fits.f (a0:Int):Option (Bool):=if a0 ≥ (-999999999999999999) then (some (decide (a0≤999999999999999999))) else (some false)
set_option maxHeartbeats 80000000 in
set_option maxRecDepth 100000 in
theorem understudyref23_fits.calls (a0:Int) (r:Bool) (w:World) (h:understudyref23_fits.f a0=some r) :
  Calls Tryd.prog 14 #[.int .i64 a0] w fun e w' => e=.returned (.bool r)∧Drawn0 w w':=by
 have H:(if a0 ≥ (-999999999999999999) then (some (decide (a0≤999999999999999999))) else (some false))=some r:=h
 clear h
 by_cases c2:a0 ≥ (-999999999999999999)
 ·rw [if_pos c2] at H
  have c2b0:decide ((-999999999999999999)≤a0)=true:=decide_eq_true c2
  clear c2
  obtain rfl:=Option.some.inj H
  go_enter Tryd.func14,Tryd.ntmps14
  go_wp2
  go_ret
  exact ⟨by first|rfl|(simp;done)|(simp [*];done),by repeat (first|exact Drawn0.refl _|apply Drawn0.step)⟩
 ·rw [if_neg c2] at H
  have c2b0:decide ((-999999999999999999)≤a0)=false:=decide_eq_false c2
  clear c2
  obtain rfl:=Option.some.inj H
  go_enter Tryd.func14,Tryd.ntmps14
  go_wp2
  go_ret
  exact ⟨by first|rfl|(simp;done)|(simp [*];done),by repeat (first|exact Drawn0.refl _|apply Drawn0.step)⟩
def understudyref23_told.f:Nat→Int→Option (ByteArray)
 | 0,_ => none
 | k + 1,a0 => if a0 < 0 then (if a0 < (-9) then ((understudyref23_told.f k (wrap64 (-(wrap64 (Int.tdiv a0 10))))).bind fun t104 => (if 1 + t104.size≤9223372036854775807 then ((understudyref23_told.f k (wrap64 (-(Int.tmod a0 10)))).bind fun t105 => (if ((⟨#[45]⟩:ByteArray)++t104).size + t105.size≤9223372036854775807 then (some (((⟨#[45]⟩:ByteArray)++t104)++t105)) else (none))) else (none))) else ((understudyref23_told.f k (wrap64 (-a0))).bind fun t106 => (if 1 + t106.size≤9223372036854775807 then (some ((⟨#[45]⟩:ByteArray)++t106)) else (none)))) else ((some (([(wrap64 (48 + (Int.tmod a0 10))) % 256]:List Int):List Int)).bind fun y107 => (if a0 ≥ 10 then ((understudyref23_told.f k (wrap64 (Int.tdiv a0 10))).bind fun t110 => (if t110.size + (strOfNums y107).size≤9223372036854775807 then (some (t110++(strOfNums y107))) else (none))) else (some (strOfNums y107))))
theorem understudyref23_told.mono_l:∀ k,(∀ y0,LeO (understudyref23_told.f k y0) (understudyref23_told.f (k + 1) y0))
 | 0 => fun _ r h => by simp [understudyref23_told.f] at h
 | k + 1 => by
  have ih0:=understudyref23_told.mono_l k
  ·intro y0
   unfold understudyref23_told.f
   repeat' first
   | (with_reducible exact ih0 _)
   | (with_reducible exact LeO.refl _)
   | (with_reducible exact LeO.none _)
   | (with_reducible refine LeO.ite ?_ ?_)
   | (with_reducible refine LeO.bind ?_ (fun _ => ?_))
   | exact ih0 _
   | exact LeO.none _
   | refine LeO.ite ?_ ?_
   | refine LeO.bind ?_ (fun _ => ?_)
theorem understudyref23_told.mono:∀ a0 k,LeO (understudyref23_told.f k a0) (understudyref23_told.f (k + 1) a0):=by
 intro a0 k
 have ih0:=understudyref23_told.mono_l k
 exact ih0 a0
set_option maxHeartbeats 80000000 in
set_option maxRecDepth 100000 in
theorem understudyref23_told.calls (k:Nat):∀ (a0:Int) (r:ByteArray) (w:World) (h:understudyref23_told.f k a0=some r),
  Calls Tryd.prog 15 #[.int .i64 a0] w fun e w' => e=.returned (.string r)∧Below w.heap.size w w':=by
 induction k using Nat.strongRecOn with
 | _ k ih =>
 intro a0 r w h
 cases k with
 | zero => exact absurd h (by simp [understudyref23_told.f])
 | succ k =>
 simp only [understudyref23_told.f] at h
 have HB:=Aside0.mk (Below.refl w.heap.size w)
 have H:(if a0 < 0 then (if a0 < (-9) then ((understudyref23_told.f k (wrap64 (-(wrap64 (Int.tdiv a0 10))))).bind fun t104 => (if 1 + t104.size≤9223372036854775807 then ((understudyref23_told.f k (wrap64 (-(Int.tmod a0 10)))).bind fun t105 => (if ((⟨#[45]⟩:ByteArray)++t104).size + t105.size≤9223372036854775807 then (some (((⟨#[45]⟩:ByteArray)++t104)++t105)) else (none))) else (none))) else ((understudyref23_told.f k (wrap64 (-a0))).bind fun t106 => (if 1 + t106.size≤9223372036854775807 then (some ((⟨#[45]⟩:ByteArray)++t106)) else (none)))) else ((some (([(wrap64 (48 + (Int.tmod a0 10))) % 256]:List Int):List Int)).bind fun y107 => (if a0 ≥ 10 then ((understudyref23_told.f k (wrap64 (Int.tdiv a0 10))).bind fun t110 => (if t110.size + (strOfNums y107).size≤9223372036854775807 then (some (t110++(strOfNums y107))) else (none))) else (some (strOfNums y107)))))=some r:=h
 clear h
 by_cases c2:a0 < 0
 ·rw [if_pos c2] at H
  have c2b0:decide (a0 < 0)=true:=decide_eq_true c2
  clear c2
  by_cases c3:a0 < (-9)
  ·rw [if_pos c3] at H
   have c3b0:decide (a0 < (-9))=true:=decide_eq_true c3
   clear c3
   replace H:=Option.bind_eq_some_iff.mp H
   obtain ⟨t104,A40,H⟩:=H
   replace H:(if 1 + t104.size≤9223372036854775807 then ((understudyref23_told.f k (wrap64 (-(Int.tmod a0 10)))).bind fun t105 => (if ((⟨#[45]⟩:ByteArray)++t104).size + t105.size≤9223372036854775807 then (some (((⟨#[45]⟩:ByteArray)++t104)++t105)) else (none))) else (none))=some r:=H
   have A4:=Aside0.mk A40
   clear A40
   by_cases c5:1 + t104.size≤9223372036854775807
   ·rw [if_pos c5] at H
    have c5b0:=eq_true c5
    have c5b1:decide (1 + t104.size≤9223372036854775807)=true:=decide_eq_true c5
    try have c5b2:(9223372036854775807 < 1 + t104.size)=False:=eq_false (Nat.not_lt.2 c5)
    replace H:=Option.bind_eq_some_iff.mp H
    obtain ⟨t105,A60,H⟩:=H
    replace H:(if ((⟨#[45]⟩:ByteArray)++t104).size + t105.size≤9223372036854775807 then (some (((⟨#[45]⟩:ByteArray)++t104)++t105)) else (none))=some r:=H
    have A6:=Aside0.mk A60
    clear A60
    by_cases c7:((⟨#[45]⟩:ByteArray)++t104).size + t105.size≤9223372036854775807
    ·rw [if_pos c7] at H
     have c7b0:=eq_true c7
     have c7b1:decide (((⟨#[45]⟩:ByteArray)++t104).size + t105.size≤9223372036854775807)=true:=decide_eq_true c7
     have c7n:1 + t104.size + t105.size≤9223372036854775807:=by have h_:=c7;rw [ByteArray.size_append] at h_;exact h_
     have c7n0:=eq_true c7n
     have c7n1:decide (1 + t104.size + t105.size≤9223372036854775807)=true:=decide_eq_true c7n
     try have c7n2:(9223372036854775807 < 1 + t104.size + t105.size)=False:=eq_false (Nat.not_lt.2 c7n)
     try have c7b2:(9223372036854775807 < ((⟨#[45]⟩:ByteArray)++t104).size + t105.size)=False:=eq_false (Nat.not_lt.2 c7)
     obtain rfl:=Option.some.inj H
     go_enter Tryd.func15,Tryd.ntmps15
     go_wp2_with (first|((with_reducible refine gate_callee (f:=15) rfl ?_);refine goesL_ (some 11) rfl rfl Tryd.func15 (by kernel_rfl) rfl #[.int .i64 (wrap64 (-(wrap64 (Int.tdiv a0 10))))] rfl (by (try simp only [List.map_toArray,List.map_cons,List.map_nil]);first|done|rfl|(simp only [List.length_drop,List.length_take];rfl)) ?_;(with_reducible refine (ih k (by omega) (wrap64 (-(wrap64 (Int.tdiv a0 10)))) t104 _ A4.out).mono ?_);rintro e w8 ⟨rfl,hb⟩;refine ⟨_,rfl,?_⟩;have n0_:=Aside0.mk (below_step (by repeat (first|(with_reducible first|exact HB.out|apply below_alloc|apply pw_below_drewN|apply below_drew1)|exact HB.out)) hb);clear HB;have HB:=n0_;clear n0_;(try clear hb);(try clear hb2);(try clear hk);(try clear hi))|((with_reducible refine gate_callee (f:=15) rfl ?_);refine goesL_ (some 16) rfl rfl Tryd.func15 (by kernel_rfl) rfl #[.int .i64 (wrap64 (-(Int.tmod a0 10)))] rfl (by (try simp only [List.map_toArray,List.map_cons,List.map_nil]);first|done|rfl|(simp only [List.length_drop,List.length_take];rfl)) ?_;(with_reducible refine (ih k (by omega) (wrap64 (-(Int.tmod a0 10))) t105 _ A6.out).mono ?_);rintro e w9 ⟨rfl,hb⟩;refine ⟨_,rfl,?_⟩;have n0_:=Aside0.mk (below_step (by repeat (first|(with_reducible first|exact HB.out|apply below_alloc|apply pw_below_drewN|apply below_drew1)|exact HB.out)) hb);clear HB;have HB:=n0_;clear n0_;(try clear hb);(try clear hb2);(try clear hk);(try clear hi)))
     go_ret
     exact ⟨by first|rfl|(simp [errW_none,errW_some] <;> rfl)|(simp [*,errW_none,errW_some] <;> rfl),by repeat (first|(with_reducible first|exact HB.out|apply below_alloc|apply pw_below_drewN|apply below_drew1)|exact HB.out)⟩
    ·rw [if_neg c7] at H
     exact absurd H (by simp)
   ·rw [if_neg c5] at H
    exact absurd H (by simp)
  ·rw [if_neg c3] at H
   have c3b0:decide (a0 < (-9))=false:=decide_eq_false c3
   clear c3
   replace H:=Option.bind_eq_some_iff.mp H
   obtain ⟨t106,A100,H⟩:=H
   replace H:(if 1 + t106.size≤9223372036854775807 then (some ((⟨#[45]⟩:ByteArray)++t106)) else (none))=some r:=H
   have A10:=Aside0.mk A100
   clear A100
   by_cases c11:1 + t106.size≤9223372036854775807
   ·rw [if_pos c11] at H
    have c11b0:=eq_true c11
    have c11b1:decide (1 + t106.size≤9223372036854775807)=true:=decide_eq_true c11
    try have c11b2:(9223372036854775807 < 1 + t106.size)=False:=eq_false (Nat.not_lt.2 c11)
    obtain rfl:=Option.some.inj H
    go_enter Tryd.func15,Tryd.ntmps15
    go_wp2_with (first|((with_reducible refine gate_callee (f:=15) rfl ?_);refine goesL_ (some 20) rfl rfl Tryd.func15 (by kernel_rfl) rfl #[.int .i64 (wrap64 (-a0))] rfl (by (try simp only [List.map_toArray,List.map_cons,List.map_nil]);first|done|rfl|(simp only [List.length_drop,List.length_take];rfl)) ?_;(with_reducible refine (ih k (by omega) (wrap64 (-a0)) t106 _ A10.out).mono ?_);rintro e w12 ⟨rfl,hb⟩;refine ⟨_,rfl,?_⟩;have n0_:=Aside0.mk (below_step (by repeat (first|(with_reducible first|exact HB.out|apply below_alloc|apply pw_below_drewN|apply below_drew1)|exact HB.out)) hb);clear HB;have HB:=n0_;clear n0_;(try clear hb);(try clear hb2);(try clear hk);(try clear hi)))
    go_ret
    exact ⟨by first|rfl|(simp [errW_none,errW_some] <;> rfl)|(simp [*,errW_none,errW_some] <;> rfl),by repeat (first|(with_reducible first|exact HB.out|apply below_alloc|apply pw_below_drewN|apply below_drew1)|exact HB.out)⟩
   ·rw [if_neg c11] at H
    exact absurd H (by simp)
 ·rw [if_neg c2] at H
  have c2b0:decide (a0 < 0)=false:=decide_eq_false c2
  clear c2
  obtain ⟨y107,hy107⟩:∃ y_:List Int,y_=(([(wrap64 (48 + (Int.tmod a0 10))) % 256]:List Int)):=⟨_,rfl⟩
  replace H:(if a0 ≥ 10 then ((understudyref23_told.f k (wrap64 (Int.tdiv a0 10))).bind fun t110 => (if t110.size + (strOfNums y107).size≤9223372036854775807 then (some (t110++(strOfNums y107))) else (none))) else (some (strOfNums y107)))=some r:=by first|(rw [hy107];with_reducible exact H)|(have H2_:=(Option.bind_some _ _).symm.trans H;rw [hy107];with_reducible exact H2_)|(have H2_:=(Option.bind_some _ _).symm.trans H;with_reducible exact H2_)|with_reducible exact H|(rw [hy107];exact H)|exact H
  have Ny107:=Aside0.mk hy107
  clear hy107
  by_cases c13:a0 ≥ 10
  ·rw [if_pos c13] at H
   have c13b0:decide (10≤a0)=true:=decide_eq_true c13
   clear c13
   replace H:=Option.bind_eq_some_iff.mp H
   obtain ⟨t110,A140,H⟩:=H
   replace H:(if t110.size + (strOfNums y107).size≤9223372036854775807 then (some (t110++(strOfNums y107))) else (none))=some r:=H
   have A14:=Aside0.mk A140
   clear A140
   by_cases c15:t110.size + (strOfNums y107).size≤9223372036854775807
   ·rw [if_pos c15] at H
    have c15b0:=eq_true c15
    have c15b1:decide (t110.size + (strOfNums y107).size≤9223372036854775807)=true:=decide_eq_true c15
    try have c15b2:(9223372036854775807 < t110.size + (strOfNums y107).size)=False:=eq_false (Nat.not_lt.2 c15)
    obtain rfl:=Option.some.inj H
    go_enter Tryd.func15,Tryd.ntmps15
    go_wp2_with (first|((with_reducible refine gate_dst (N:=26) rfl ?_);refine Kd.R_lit (Kd.int .u8) _ 5 ?hg (N:=26) ?hd (xs:=([(wrap64 (48 + (Int.tmod a0 10))) % 256]:List Int)) (inner:=[.int .u8 ((wrap64 (48 + (Int.tmod a0 10))) % 256)]) (ok:=fun _ => True) (okp:=fun _ => True) ?hr ?hp (fun _ hk => hk) trivial (Below.refl _ _) (Nat.le_refl _) (by simp) ?_;(case hd => rfl);(case hg => rfl);(case hr => first|(go_simp;done)|(go_simp;rfl));(case hp => exact (Reps.one (show Kd.M (Kd.int .u8) _ _ _ ((wrap64 (48 + (Int.tmod a0 10))) % 256) [.int .u8 ((wrap64 (48 + (Int.tmod a0 10))) % 256)] from rfl) (Reps.none _ _)));intro v108 w16 ho17 hb hg_ hnew_;clear hg_ hnew_;(first|rw [← Ny107.out] at ho17|(simp only [Int.reduceToNat] at ho17;rw [← Ny107.out] at ho17));have n0_:=Aside0.mk (Kd.R_lower ho17 (below_size (by repeat (first|(with_reducible first|exact HB.out|apply below_alloc|apply pw_below_drewN|apply below_drew1)|exact HB.out))));have n1_:=Aside0.mk (below_step (by repeat (first|(with_reducible first|exact HB.out|apply below_alloc|apply pw_below_drewN|apply below_drew1)|exact HB.out)) hb);clear HB;have HO109:=n0_;have HB:=n1_;clear n0_ n1_;clear hb ho17;have hcv18:=own_string (P:=Tryd.prog) Tryd.underlying46 Tryd.underlying5 Tryd.underlying9 (Kd.own_of_R HO109.out))|((with_reducible refine gate_callee (f:=15) rfl ?_);refine goesL_ (some 32) rfl rfl Tryd.func15 (by kernel_rfl) rfl #[.int .i64 (wrap64 (Int.tdiv a0 10))] rfl (by (try simp only [List.map_toArray,List.map_cons,List.map_nil]);first|done|rfl|(simp only [List.length_drop,List.length_take];rfl)) ?_;(with_reducible refine (ih k (by omega) (wrap64 (Int.tdiv a0 10)) t110 _ A14.out).mono ?_);rintro e w19 ⟨rfl,hb⟩;refine ⟨_,rfl,?_⟩;have n0_:=Aside0.mk (Kd.R_below (by (with_reducible repeat (first|apply Kd.R_alloc|apply Kd.R_drewN|apply Kd.R_drew));exact HO109.out) hb);have n1_:=Aside0.mk (below_step (by repeat (first|(with_reducible first|exact HB.out|apply below_alloc|apply pw_below_drewN|apply below_drew1)|exact HB.out)) hb);clear HO109;clear HB;have HO109:=n0_;have HB:=n1_;clear n0_ n1_;(try clear hb);(try clear hb2);(try clear hk);(try clear hi)))
    go_ret
    exact ⟨by first|rfl|(simp [errW_none,errW_some] <;> rfl)|(simp [*,errW_none,errW_some] <;> rfl),by repeat (first|(with_reducible first|exact HB.out|apply below_alloc|apply pw_below_drewN|apply below_drew1)|exact HB.out)⟩
   ·rw [if_neg c15] at H
    exact absurd H (by simp)
  ·rw [if_neg c13] at H
   have c13b0:decide (10≤a0)=false:=decide_eq_false c13
   clear c13
   obtain rfl:=Option.some.inj H
   go_enter Tryd.func15,Tryd.ntmps15
   go_wp2_with (first|((with_reducible refine gate_dst (N:=26) rfl ?_);refine Kd.R_lit (Kd.int .u8) _ 5 ?hg (N:=26) ?hd (xs:=([(wrap64 (48 + (Int.tmod a0 10))) % 256]:List Int)) (inner:=[.int .u8 ((wrap64 (48 + (Int.tmod a0 10))) % 256)]) (ok:=fun _ => True) (okp:=fun _ => True) ?hr ?hp (fun _ hk => hk) trivial (Below.refl _ _) (Nat.le_refl _) (by simp) ?_;(case hd => rfl);(case hg => rfl);(case hr => first|(go_simp;done)|(go_simp;rfl));(case hp => exact (Reps.one (show Kd.M (Kd.int .u8) _ _ _ ((wrap64 (48 + (Int.tmod a0 10))) % 256) [.int .u8 ((wrap64 (48 + (Int.tmod a0 10))) % 256)] from rfl) (Reps.none _ _)));intro v108 w20 ho21 hb hg_ hnew_;clear hg_ hnew_;(first|rw [← Ny107.out] at ho21|(simp only [Int.reduceToNat] at ho21;rw [← Ny107.out] at ho21));have n0_:=Aside0.mk (Kd.R_lower ho21 (below_size (by repeat (first|(with_reducible first|exact HB.out|apply below_alloc|apply pw_below_drewN|apply below_drew1)|exact HB.out))));have n1_:=Aside0.mk (below_step (by repeat (first|(with_reducible first|exact HB.out|apply below_alloc|apply pw_below_drewN|apply below_drew1)|exact HB.out)) hb);clear HB;have HO109:=n0_;have HB:=n1_;clear n0_ n1_;clear hb ho21;have hcv22:=own_string (P:=Tryd.prog) Tryd.underlying46 Tryd.underlying5 Tryd.underlying9 (Kd.own_of_R HO109.out)))
   go_ret
   exact ⟨by first|rfl|(simp [errW_none,errW_some] <;> rfl)|(simp [*,errW_none,errW_some] <;> rfl),by repeat (first|(with_reducible first|exact HB.out|apply below_alloc|apply pw_below_drewN|apply below_drew1)|exact HB.out)⟩
end Go.Proofs.YteooddfilnijgaaDoor.Px
namespace Go.Proofs.YteooddfilnijgaaDoor.Px
open Go.RowKit Go.Proofs.YteooddfilnijgaaDoorW.PrintWords Go.Proofs.YteooddfilnijgaaDoorW.PrintLast Go.Proofs.YteooddfilnijgaaDoorW.PrintMore
attribute [local go_sem] max2_int min2_int max_two min_two max_three min_three max_four min_four
set_option linter.unusedVariables false
set_option linter.unusedSimpArgs false
def understudyref23_Print.j0:Nat→List ByteArray→Bool→Int→Int→Int→Int→Option (ByteArray × Int)
 | 0,_,_,_,_,_,_ => none
 | k + 1,x4,x54,x112000,x112001,x112002,x112003 => if x54=true then (some ((⟨#[]⟩:ByteArray),1)) else (if 0≤x112000 then (if x112000 < (x4.length:Int) then (if (rdOf ByteArray.empty x4 x112000).size + 1≤9223372036854775807 then ((understudyref23_told.f k x112001).bind fun t119 => (if ((rdOf ByteArray.empty x4 x112000)++(⟨#[32]⟩:ByteArray)).size + t119.size≤9223372036854775807 then (if x112000=0 then (if (((rdOf ByteArray.empty x4 x112000)++(⟨#[32]⟩:ByteArray))++t119).size + 1≤9223372036854775807 then ((understudyref23_told.f k x112002).bind fun t120 => (if ((((rdOf ByteArray.empty x4 x112000)++(⟨#[32]⟩:ByteArray))++t119)++(⟨#[32]⟩:ByteArray)).size + t120.size≤9223372036854775807 then (if x112000≤2 then (if (((((rdOf ByteArray.empty x4 x112000)++(⟨#[32]⟩:ByteArray))++t119)++(⟨#[32]⟩:ByteArray))++t120).size + 1≤9223372036854775807 then ((understudyref23_told.f k x112003).bind fun t121 => (if ((((((rdOf ByteArray.empty x4 x112000)++(⟨#[32]⟩:ByteArray))++t119)++(⟨#[32]⟩:ByteArray))++t120)++(⟨#[32]⟩:ByteArray)).size + t121.size≤9223372036854775807 then (some (((((((rdOf ByteArray.empty x4 x112000)++(⟨#[32]⟩:ByteArray))++t119)++(⟨#[32]⟩:ByteArray))++t120)++(⟨#[32]⟩:ByteArray))++t121,0)) else (none))) else (none)) else (some (((((rdOf ByteArray.empty x4 x112000)++(⟨#[32]⟩:ByteArray))++t119)++(⟨#[32]⟩:ByteArray))++t120,0))) else (none))) else (none)) else (if x112000≤2 then (if (((rdOf ByteArray.empty x4 x112000)++(⟨#[32]⟩:ByteArray))++t119).size + 1≤9223372036854775807 then ((understudyref23_told.f k x112003).bind fun t122 => (if ((((rdOf ByteArray.empty x4 x112000)++(⟨#[32]⟩:ByteArray))++t119)++(⟨#[32]⟩:ByteArray)).size + t122.size≤9223372036854775807 then (some (((((rdOf ByteArray.empty x4 x112000)++(⟨#[32]⟩:ByteArray))++t119)++(⟨#[32]⟩:ByteArray))++t122,0)) else (none))) else (none)) else (some (((rdOf ByteArray.empty x4 x112000)++(⟨#[32]⟩:ByteArray))++t119,0)))) else (none))) else (none)) else (none)) else (none))
def understudyref23_Print.f (k:Nat) (a0_0:Int) (a0_1:Int) (a0_2:Int) (a0_3:Int):Option (ByteArray × Int):=(understudyref23_names.f).bind fun t112 => (if a0_0 < 0 then (understudyref23_Print.j0 k t112 true a0_0 a0_1 a0_2 a0_3) else (if a0_0 ≥ (t112.length:Int) then (understudyref23_Print.j0 k t112 true a0_0 a0_1 a0_2 a0_3) else ((understudyref23_fits.f a0_1).bind fun t115 => (if t115=true then ((understudyref23_fits.f a0_2).bind fun t116 => (if t116=true then ((understudyref23_fits.f a0_3).bind fun t117 => (if t117=true then (if a0_0=0 then (if a0_0 > 2 then (understudyref23_Print.j0 k t112 (a0_3 != 0) a0_0 a0_1 a0_2 a0_3) else (understudyref23_Print.j0 k t112 false a0_0 a0_1 a0_2 a0_3)) else (if a0_2=0 then (if a0_0 > 2 then (understudyref23_Print.j0 k t112 (a0_3 != 0) a0_0 a0_1 a0_2 a0_3) else (understudyref23_Print.j0 k t112 false a0_0 a0_1 a0_2 a0_3)) else (understudyref23_Print.j0 k t112 true a0_0 a0_1 a0_2 a0_3))) else (understudyref23_Print.j0 k t112 true a0_0 a0_1 a0_2 a0_3))) else (understudyref23_Print.j0 k t112 true a0_0 a0_1 a0_2 a0_3))) else (understudyref23_Print.j0 k t112 true a0_0 a0_1 a0_2 a0_3)))))
theorem understudyref23_Print.mono_l:∀ k,(∀ y0 y1 y2 y3 y4 y5,LeO (understudyref23_Print.j0 k y0 y1 y2 y3 y4 y5) (understudyref23_Print.j0 (k + 1) y0 y1 y2 y3 y4 y5))
 | 0 => fun _ _ _ _ _ _ r h => by simp [understudyref23_Print.j0] at h
 | k + 1 => by
  have ih0:=understudyref23_Print.mono_l k
  ·intro y0 y1 y2 y3 y4 y5
   unfold understudyref23_Print.j0
   repeat' first
   | (with_reducible exact ih0 _ _ _ _ _ _)
   | (with_reducible exact understudyref23_told.mono _ _)
   | (with_reducible exact LeO.refl _)
   | (with_reducible exact LeO.none _)
   | (with_reducible refine LeO.ite ?_ ?_)
   | (with_reducible refine LeO.bind ?_ (fun _ => ?_))
   | exact ih0 _ _ _ _ _ _
   | exact understudyref23_told.mono _ _
   | exact LeO.none _
   | refine LeO.ite ?_ ?_
   | refine LeO.bind ?_ (fun _ => ?_)
theorem understudyref23_Print.mono:∀ a0 a1 a2 a3 k,LeO (understudyref23_Print.f k a0 a1 a2 a3) (understudyref23_Print.f (k + 1) a0 a1 a2 a3):=by
 intro a0 a1 a2 a3 k
 have ih0:=understudyref23_Print.mono_l k
 unfold understudyref23_Print.f
 repeat' first
   | (with_reducible exact ih0 _ _ _ _ _ _)
   | (with_reducible exact understudyref23_told.mono _ _)
   | (with_reducible exact LeO.refl _)
   | (with_reducible exact LeO.none _)
   | (with_reducible refine LeO.ite ?_ ?_)
   | (with_reducible refine LeO.bind ?_ (fun _ => ?_))
   | exact ih0 _ _ _ _ _ _
   | exact understudyref23_told.mono _ _
   | exact LeO.none _
   | refine LeO.ite ?_ ?_
   | refine LeO.bind ?_ (fun _ => ?_)
def understudyref23_Print.T4:Bool × List (List Nat × List Nat):=(true,[([],[]),([],[]),([1],[1]),([0,2],[0,2]),([3],[3]),([4],[4]),([],[]),([6],[6]),([7],[7]),([5,8],[5,8]),([9,8,0,1,2,3,4,5,6,7,8,9],[9])])
def understudyref23_Print.B4:List Nat:=[0,0,2,7,15,31,0,64,192,511,1023]
theorem understudyref23_Print.tab4:rtab .any (opsOf Tryd.f6 4)=understudyref23_Print.T4:=by kernel_rfl
theorem understudyref23_Print.bits4:waitsOk understudyref23_Print.T4.2 understudyref23_Print.B4=true:=by kernel_rfl
set_option maxHeartbeats 80000000 in
set_option maxRecDepth 100000 in
theorem understudyref23_Print.calls (k:Nat) (a0_0:Int) (a0_1:Int) (a0_2:Int) (a0_3:Int) (r1:ByteArray) (r2:Int) (w:World) (h:understudyref23_Print.f k a0_0 a0_1 a0_2 a0_3=some (r1,r2)) :
  Calls Tryd.prog 6 #[.agg #[.int .i64 a0_0,.int .i64 a0_1,.int .i64 a0_2,.int .i64 a0_3]] w fun e w' => e=.returned (.tuple #[.string r1,.int .i64 r2])∧Below w.heap.size w w':=by
 have hu23:=Tryd.underlying23
 have HB:=Aside0.mk (Below.refl w.heap.size w)
 have H:((understudyref23_names.f).bind fun t112 => (if a0_0 < 0 then (understudyref23_Print.j0 k t112 true a0_0 a0_1 a0_2 a0_3) else (if a0_0 ≥ (t112.length:Int) then (understudyref23_Print.j0 k t112 true a0_0 a0_1 a0_2 a0_3) else ((understudyref23_fits.f a0_1).bind fun t115 => (if t115=true then ((understudyref23_fits.f a0_2).bind fun t116 => (if t116=true then ((understudyref23_fits.f a0_3).bind fun t117 => (if t117=true then (if a0_0=0 then (if a0_0 > 2 then (understudyref23_Print.j0 k t112 (a0_3 != 0) a0_0 a0_1 a0_2 a0_3) else (understudyref23_Print.j0 k t112 false a0_0 a0_1 a0_2 a0_3)) else (if a0_2=0 then (if a0_0 > 2 then (understudyref23_Print.j0 k t112 (a0_3 != 0) a0_0 a0_1 a0_2 a0_3) else (understudyref23_Print.j0 k t112 false a0_0 a0_1 a0_2 a0_3)) else (understudyref23_Print.j0 k t112 true a0_0 a0_1 a0_2 a0_3))) else (understudyref23_Print.j0 k t112 true a0_0 a0_1 a0_2 a0_3))) else (understudyref23_Print.j0 k t112 true a0_0 a0_1 a0_2 a0_3))) else (understudyref23_Print.j0 k t112 true a0_0 a0_1 a0_2 a0_3))))))=some (r1,r2):=h
 clear h
 replace H:=Option.bind_eq_some_iff.mp H
 obtain ⟨t112,A20,H⟩:=H
 replace H:(if a0_0 < 0 then (understudyref23_Print.j0 k t112 true a0_0 a0_1 a0_2 a0_3) else (if a0_0 ≥ (t112.length:Int) then (understudyref23_Print.j0 k t112 true a0_0 a0_1 a0_2 a0_3) else ((understudyref23_fits.f a0_1).bind fun t115 => (if t115=true then ((understudyref23_fits.f a0_2).bind fun t116 => (if t116=true then ((understudyref23_fits.f a0_3).bind fun t117 => (if t117=true then (if a0_0=0 then (if a0_0 > 2 then (understudyref23_Print.j0 k t112 (a0_3 != 0) a0_0 a0_1 a0_2 a0_3) else (understudyref23_Print.j0 k t112 false a0_0 a0_1 a0_2 a0_3)) else (if a0_2=0 then (if a0_0 > 2 then (understudyref23_Print.j0 k t112 (a0_3 != 0) a0_0 a0_1 a0_2 a0_3) else (understudyref23_Print.j0 k t112 false a0_0 a0_1 a0_2 a0_3)) else (understudyref23_Print.j0 k t112 true a0_0 a0_1 a0_2 a0_3))) else (understudyref23_Print.j0 k t112 true a0_0 a0_1 a0_2 a0_3))) else (understudyref23_Print.j0 k t112 true a0_0 a0_1 a0_2 a0_3))) else (understudyref23_Print.j0 k t112 true a0_0 a0_1 a0_2 a0_3)))))=some (r1,r2):=H
 have A2:=Aside0.mk A20
 clear A20
 have HC3:=Aside0.mk H
 clear H
 go_enter Tryd.func6,Tryd.ntmps6
 go_upto_region 2 with (first|((with_reducible refine gate_dst (N:=1) rfl ?_);(try (refine gate_guard (by rfl) ?_;dsimp only));refine box_event ?hg (N:=1) ?hd (cs:=#[.int .i64 a0_0,.int .i64 a0_1,.int .i64 a0_2,.int .i64 a0_3]) (t:=23) ?hr ?_;(case hd => rfl);(case hg => rfl);(case hr => first|(go_simp;done)|(go_simp;rfl));intro gb111 hg w4 hbox hb;have n0_:=Aside0.mk (below_step (by repeat (first|(with_reducible first|exact HB.out|apply below_alloc|apply pw_below_drewN|apply below_drew1)|exact HB.out)) hb);have n1_:=Aside0.mk (hbox);have n2_:=Aside0.mk ((by rw [hg];exact (below_size (by repeat (first|(with_reducible first|exact HB.out|apply below_alloc|apply pw_below_drewN|apply below_drew1)|exact HB.out))):w.heap.size≤gb111));have n3_:=Aside0.mk ((by rw [hg];exact (below_size (by repeat (first|(with_reducible first|exact HB.out|apply below_alloc|apply pw_below_drewN|apply below_drew1)|exact HB.out))):w.heap.size≤gb111));clear HB;have HB:=n0_;have BK111:=n1_;have GW111:=n2_;have GE111:=n3_;clear n0_ n1_ n2_ n3_;clear hb hbox hg)|((with_reducible refine gate_callee (f:=13) rfl ?_);refine goesL_ (some 6) rfl rfl Tryd.func13 (by kernel_rfl) rfl #[] rfl (by (try simp only [List.map_toArray,List.map_cons,List.map_nil]);first|done|rfl|(simp only [List.length_drop,List.length_take];rfl)) ?_;(with_reducible refine (understudyref23_names.calls  t112 _ A2.out).mono ?_);rintro e w5 ⟨v113,rfl,ho0,hb⟩;refine ⟨_,rfl,?_⟩;have n0_:=Aside0.mk (Kd.R_lower ho0 (below_size (by repeat (first|(with_reducible first|exact HB.out|apply below_alloc|apply pw_below_drewN|apply below_drew1|refine below_set ?_ GE111.out)|exact HB.out))));have n1_:=Aside0.mk (blk_below (g:=gb111) (o:=.cells #[.int .i64 a0_0,.int .i64 a0_1,.int .i64 a0_2,.int .i64 a0_3] 23 (0,0)) (by (with_reducible repeat (first|refine blk_drewN ?_ _|refine blk_drew ?_|refine blk_alloc ?_ _));exact BK111.out) hb);have n2_:=Aside0.mk (below_step (by repeat (first|(with_reducible first|exact HB.out|apply below_alloc|apply pw_below_drewN|apply below_drew1|refine below_set ?_ GE111.out)|exact HB.out)) hb);clear BK111;clear HB;have HO114:=n0_;have BK111:=n1_;have HB:=n2_;clear n0_ n1_ n2_;(try clear hb);(try clear hb2);(try clear hk);(try clear hi);(try clear ho0)))
 (try simp only [Act.put,List.setIfInBounds_toArray,List.set_cons_zero,List.set_cons_succ])
 go_cut [54] (fun v54 wc => ∃ (kq:Nat) (x54_2:Bool),v54=.bool x54_2∧Aside0 (understudyref23_Print.j0 kq t112 x54_2 a0_0 a0_1 a0_2 a0_3=some (r1,r2))∧Aside0 (kq≤k)∧Aside0 (Kd.R Kd.string 9 wc w.heap.size (fun _ => True) v113 t112)∧Aside0 (wc.heap[gb111]?=some (.cells #[.int .i64 a0_0,.int .i64 a0_1,.int .i64 a0_2,.int .i64 a0_3] 23 (0,0)))∧Aside0 (Below w.heap.size w wc))
 case first =>
  have H:=HC3.out
  clear HC3
  by_cases c6:a0_0 < 0
  ·rw [if_pos c6] at H
   have c6b0:decide (a0_0 < 0)=true:=decide_eq_true c6
   clear c6
   (first|rw [c6b0]|(simp only [i64_w,i32_w];rw [c6b0])|skip)
   have H':=Aside0.mk H
   clear H
   have hcz7_0:w5.cell? ⟨gb111,0,none⟩=some (.int .i64 a0_0):=(blk_cell BK111.out 0).trans rfl
   have hcz7_1:w5.cell? ⟨gb111,1,none⟩=some (.int .i64 a0_1):=(blk_cell BK111.out 1).trans rfl
   have hcz7_2:w5.cell? ⟨gb111,2,none⟩=some (.int .i64 a0_2):=(blk_cell BK111.out 2).trans rfl
   have hcz7_3:w5.cell? ⟨gb111,3,none⟩=some (.int .i64 a0_3):=(blk_cell BK111.out 3).trans rfl
   have hfz7_0:=blk_frozen BK111.out 0
   have hfz7_1:=blk_frozen BK111.out 1
   have hfz7_2:=blk_frozen BK111.out 2
   have hfz7_3:=blk_frozen BK111.out 3
   go_wp2
   go_meet
   case rel => exact ⟨_,(true),(by first|rfl|(simp;done)|(simp [*];done)),H',⟨by first|omega|exact Nat.le_refl _⟩,⟨by (with_reducible repeat (first|apply Kd.R_alloc|apply Kd.R_drewN|apply Kd.R_drew));exact HO114.out⟩,⟨by (with_reducible repeat (first|refine blk_drewN ?_ _|refine blk_drew ?_|refine blk_alloc ?_ _));exact BK111.out⟩,⟨by repeat (first|(with_reducible first|exact HB.out|apply below_alloc|apply pw_below_drewN|apply below_drew1|refine below_set ?_ GE111.out)|exact HB.out)⟩⟩
  ·rw [if_neg c6] at H
   have c6b0:decide (a0_0 < 0)=false:=decide_eq_false c6
   clear c6
   (first|rw [c6b0]|(simp only [i64_w,i32_w];rw [c6b0])|skip)
   by_cases c8:a0_0 ≥ (t112.length:Int)
   ·rw [if_pos c8] at H
    have c8b0:decide ((t112.length:Int)≤a0_0)=true:=decide_eq_true c8
    clear c8
    have H':=Aside0.mk H
    clear H
    have hcz9_0:w5.cell? ⟨gb111,0,none⟩=some (.int .i64 a0_0):=(blk_cell BK111.out 0).trans rfl
    have hcz9_1:w5.cell? ⟨gb111,1,none⟩=some (.int .i64 a0_1):=(blk_cell BK111.out 1).trans rfl
    have hcz9_2:w5.cell? ⟨gb111,2,none⟩=some (.int .i64 a0_2):=(blk_cell BK111.out 2).trans rfl
    have hcz9_3:w5.cell? ⟨gb111,3,none⟩=some (.int .i64 a0_3):=(blk_cell BK111.out 3).trans rfl
    have hfz9_0:=blk_frozen BK111.out 0
    have hfz9_1:=blk_frozen BK111.out 1
    have hfz9_2:=blk_frozen BK111.out 2
    have hfz9_3:=blk_frozen BK111.out 3
    obtain ⟨Ao10,co10,eo10⟩:=Kd.R_slice HO114.out
    subst eo10
    go_wp2
    go_meet
    case rel => exact ⟨_,(true),(by first|rfl|(simp;done)|(simp [*];done)),H',⟨by first|omega|exact Nat.le_refl _⟩,⟨by (with_reducible repeat (first|apply Kd.R_alloc|apply Kd.R_drewN|apply Kd.R_drew));exact HO114.out⟩,⟨by (with_reducible repeat (first|refine blk_drewN ?_ _|refine blk_drew ?_|refine blk_alloc ?_ _));exact BK111.out⟩,⟨by repeat (first|(with_reducible first|exact HB.out|apply below_alloc|apply pw_below_drewN|apply below_drew1|refine below_set ?_ GE111.out)|exact HB.out)⟩⟩
   ·rw [if_neg c8] at H
    have c8b0:decide ((t112.length:Int)≤a0_0)=false:=decide_eq_false c8
    clear c8
    replace H:=Option.bind_eq_some_iff.mp H
    obtain ⟨t115,A110,H⟩:=H
    replace H:(if t115=true then ((understudyref23_fits.f a0_2).bind fun t116 => (if t116=true then ((understudyref23_fits.f a0_3).bind fun t117 => (if t117=true then (if a0_0=0 then (if a0_0 > 2 then (understudyref23_Print.j0 k t112 (a0_3 != 0) a0_0 a0_1 a0_2 a0_3) else (understudyref23_Print.j0 k t112 false a0_0 a0_1 a0_2 a0_3)) else (if a0_2=0 then (if a0_0 > 2 then (understudyref23_Print.j0 k t112 (a0_3 != 0) a0_0 a0_1 a0_2 a0_3) else (understudyref23_Print.j0 k t112 false a0_0 a0_1 a0_2 a0_3)) else (understudyref23_Print.j0 k t112 true a0_0 a0_1 a0_2 a0_3))) else (understudyref23_Print.j0 k t112 true a0_0 a0_1 a0_2 a0_3))) else (understudyref23_Print.j0 k t112 true a0_0 a0_1 a0_2 a0_3))) else (understudyref23_Print.j0 k t112 true a0_0 a0_1 a0_2 a0_3))=some (r1,r2):=H
    have A11:=Aside0.mk A110
    clear A110
    by_cases c12:t115=true
    ·subst c12
     have H1:((understudyref23_fits.f a0_2).bind fun t116 => (if t116=true then ((understudyref23_fits.f a0_3).bind fun t117 => (if t117=true then (if a0_0=0 then (if a0_0 > 2 then (understudyref23_Print.j0 k t112 (a0_3 != 0) a0_0 a0_1 a0_2 a0_3) else (understudyref23_Print.j0 k t112 false a0_0 a0_1 a0_2 a0_3)) else (if a0_2=0 then (if a0_0 > 2 then (understudyref23_Print.j0 k t112 (a0_3 != 0) a0_0 a0_1 a0_2 a0_3) else (understudyref23_Print.j0 k t112 false a0_0 a0_1 a0_2 a0_3)) else (understudyref23_Print.j0 k t112 true a0_0 a0_1 a0_2 a0_3))) else (understudyref23_Print.j0 k t112 true a0_0 a0_1 a0_2 a0_3))) else (understudyref23_Print.j0 k t112 true a0_0 a0_1 a0_2 a0_3)))=some (r1,r2):=by rw [if_pos rfl] at H;exact H
     clear H
     have H:=H1
     clear H1
     replace H:=Option.bind_eq_some_iff.mp H
     obtain ⟨t116,A130,H⟩:=H
     replace H:(if t116=true then ((understudyref23_fits.f a0_3).bind fun t117 => (if t117=true then (if a0_0=0 then (if a0_0 > 2 then (understudyref23_Print.j0 k t112 (a0_3 != 0) a0_0 a0_1 a0_2 a0_3) else (understudyref23_Print.j0 k t112 false a0_0 a0_1 a0_2 a0_3)) else (if a0_2=0 then (if a0_0 > 2 then (understudyref23_Print.j0 k t112 (a0_3 != 0) a0_0 a0_1 a0_2 a0_3) else (understudyref23_Print.j0 k t112 false a0_0 a0_1 a0_2 a0_3)) else (understudyref23_Print.j0 k t112 true a0_0 a0_1 a0_2 a0_3))) else (understudyref23_Print.j0 k t112 true a0_0 a0_1 a0_2 a0_3))) else (understudyref23_Print.j0 k t112 true a0_0 a0_1 a0_2 a0_3))=some (r1,r2):=H
     have A13:=Aside0.mk A130
     clear A130
     by_cases c14:t116=true
     ·subst c14
      have H1:((understudyref23_fits.f a0_3).bind fun t117 => (if t117=true then (if a0_0=0 then (if a0_0 > 2 then (understudyref23_Print.j0 k t112 (a0_3 != 0) a0_0 a0_1 a0_2 a0_3) else (understudyref23_Print.j0 k t112 false a0_0 a0_1 a0_2 a0_3)) else (if a0_2=0 then (if a0_0 > 2 then (understudyref23_Print.j0 k t112 (a0_3 != 0) a0_0 a0_1 a0_2 a0_3) else (understudyref23_Print.j0 k t112 false a0_0 a0_1 a0_2 a0_3)) else (understudyref23_Print.j0 k t112 true a0_0 a0_1 a0_2 a0_3))) else (understudyref23_Print.j0 k t112 true a0_0 a0_1 a0_2 a0_3)))=some (r1,r2):=by rw [if_pos rfl] at H;exact H
      clear H
      have H:=H1
      clear H1
      replace H:=Option.bind_eq_some_iff.mp H
      obtain ⟨t117,A150,H⟩:=H
      replace H:(if t117=true then (if a0_0=0 then (if a0_0 > 2 then (understudyref23_Print.j0 k t112 (a0_3 != 0) a0_0 a0_1 a0_2 a0_3) else (understudyref23_Print.j0 k t112 false a0_0 a0_1 a0_2 a0_3)) else (if a0_2=0 then (if a0_0 > 2 then (understudyref23_Print.j0 k t112 (a0_3 != 0) a0_0 a0_1 a0_2 a0_3) else (understudyref23_Print.j0 k t112 false a0_0 a0_1 a0_2 a0_3)) else (understudyref23_Print.j0 k t112 true a0_0 a0_1 a0_2 a0_3))) else (understudyref23_Print.j0 k t112 true a0_0 a0_1 a0_2 a0_3))=some (r1,r2):=H
      have A15:=Aside0.mk A150
      clear A150
      by_cases c16:t117=true
      ·subst c16
       have H1:(if a0_0=0 then (if a0_0 > 2 then (understudyref23_Print.j0 k t112 (a0_3 != 0) a0_0 a0_1 a0_2 a0_3) else (understudyref23_Print.j0 k t112 false a0_0 a0_1 a0_2 a0_3)) else (if a0_2=0 then (if a0_0 > 2 then (understudyref23_Print.j0 k t112 (a0_3 != 0) a0_0 a0_1 a0_2 a0_3) else (understudyref23_Print.j0 k t112 false a0_0 a0_1 a0_2 a0_3)) else (understudyref23_Print.j0 k t112 true a0_0 a0_1 a0_2 a0_3)))=some (r1,r2):=by rw [if_pos rfl] at H;exact H
       clear H
       have H:=H1
       clear H1
       by_cases c17:a0_0=0
       ·rw [if_pos c17] at H
        have c17b0:(a0_0==0)=true:=beq_iff_eq.mpr c17
        have c17b1:(a0_0 != 0)=false:=bne_eq_false_iff_eq.mpr c17
        clear c17
        by_cases c18:a0_0 > 2
        ·rw [if_pos c18] at H
         have c18b0:decide (2 < a0_0)=true:=decide_eq_true c18
         clear c18
         have H':=Aside0.mk H
         clear H
         have hcz19_0:w5.cell? ⟨gb111,0,none⟩=some (.int .i64 a0_0):=(blk_cell BK111.out 0).trans rfl
         have hcz19_1:w5.cell? ⟨gb111,1,none⟩=some (.int .i64 a0_1):=(blk_cell BK111.out 1).trans rfl
         have hcz19_2:w5.cell? ⟨gb111,2,none⟩=some (.int .i64 a0_2):=(blk_cell BK111.out 2).trans rfl
         have hcz19_3:w5.cell? ⟨gb111,3,none⟩=some (.int .i64 a0_3):=(blk_cell BK111.out 3).trans rfl
         have hfz19_0:=blk_frozen BK111.out 0
         have hfz19_1:=blk_frozen BK111.out 1
         have hfz19_2:=blk_frozen BK111.out 2
         have hfz19_3:=blk_frozen BK111.out 3
         obtain ⟨Ao20,co20,eo20⟩:=Kd.R_slice HO114.out
         subst eo20
         go_wp2_with (first|(go_at_call 14;(with_reducible refine (understudyref23_fits.calls a0_1 true _ A11.out).mono ?_);rintro e w' ⟨rfl,⟨nd,rfl⟩⟩)|(go_at_call 14;(with_reducible refine (understudyref23_fits.calls a0_2 true _ A13.out).mono ?_);rintro e w' ⟨rfl,⟨nd,rfl⟩⟩)|(go_at_call 14;(with_reducible refine (understudyref23_fits.calls a0_3 true _ A15.out).mono ?_);rintro e w' ⟨rfl,⟨nd,rfl⟩⟩))
         go_meet
         case rel => exact ⟨_,((a0_3 != 0)),(by first|rfl|(simp;done)|(simp [*];done)),H',⟨by first|omega|exact Nat.le_refl _⟩,⟨by (with_reducible repeat (first|apply Kd.R_alloc|apply Kd.R_drewN|apply Kd.R_drew));exact HO114.out⟩,⟨by (with_reducible repeat (first|refine blk_drewN ?_ _|refine blk_drew ?_|refine blk_alloc ?_ _));exact BK111.out⟩,⟨by repeat (first|(with_reducible first|exact HB.out|apply below_alloc|apply pw_below_drewN|apply below_drew1|refine below_set ?_ GE111.out)|exact HB.out)⟩⟩
        ·rw [if_neg c18] at H
         have c18b0:decide (2 < a0_0)=false:=decide_eq_false c18
         clear c18
         have H':=Aside0.mk H
         clear H
         have hcz21_0:w5.cell? ⟨gb111,0,none⟩=some (.int .i64 a0_0):=(blk_cell BK111.out 0).trans rfl
         have hcz21_1:w5.cell? ⟨gb111,1,none⟩=some (.int .i64 a0_1):=(blk_cell BK111.out 1).trans rfl
         have hcz21_2:w5.cell? ⟨gb111,2,none⟩=some (.int .i64 a0_2):=(blk_cell BK111.out 2).trans rfl
         have hcz21_3:w5.cell? ⟨gb111,3,none⟩=some (.int .i64 a0_3):=(blk_cell BK111.out 3).trans rfl
         have hfz21_0:=blk_frozen BK111.out 0
         have hfz21_1:=blk_frozen BK111.out 1
         have hfz21_2:=blk_frozen BK111.out 2
         have hfz21_3:=blk_frozen BK111.out 3
         obtain ⟨Ao22,co22,eo22⟩:=Kd.R_slice HO114.out
         subst eo22
         go_wp2_with (first|(go_at_call 14;(with_reducible refine (understudyref23_fits.calls a0_1 true _ A11.out).mono ?_);rintro e w' ⟨rfl,⟨nd,rfl⟩⟩)|(go_at_call 14;(with_reducible refine (understudyref23_fits.calls a0_2 true _ A13.out).mono ?_);rintro e w' ⟨rfl,⟨nd,rfl⟩⟩)|(go_at_call 14;(with_reducible refine (understudyref23_fits.calls a0_3 true _ A15.out).mono ?_);rintro e w' ⟨rfl,⟨nd,rfl⟩⟩))
         go_meet
         case rel => exact ⟨_,(false),(by first|rfl|(simp;done)|(simp [*];done)),H',⟨by first|omega|exact Nat.le_refl _⟩,⟨by (with_reducible repeat (first|apply Kd.R_alloc|apply Kd.R_drewN|apply Kd.R_drew));exact HO114.out⟩,⟨by (with_reducible repeat (first|refine blk_drewN ?_ _|refine blk_drew ?_|refine blk_alloc ?_ _));exact BK111.out⟩,⟨by repeat (first|(with_reducible first|exact HB.out|apply below_alloc|apply pw_below_drewN|apply below_drew1|refine below_set ?_ GE111.out)|exact HB.out)⟩⟩
       ·rw [if_neg c17] at H
        have c17b0:(a0_0==0)=false:=beq_eq_false_iff_ne.mpr c17
        have c17b1:(a0_0 != 0)=true:=bne_iff_ne.mpr c17
        by_cases c23:a0_2=0
        ·rw [if_pos c23] at H
         have c23b0:(a0_2==0)=true:=beq_iff_eq.mpr c23
         have c23b1:(a0_2 != 0)=false:=bne_eq_false_iff_eq.mpr c23
         clear c23
         by_cases c24:a0_0 > 2
         ·rw [if_pos c24] at H
          have c24b0:decide (2 < a0_0)=true:=decide_eq_true c24
          clear c24
          have H':=Aside0.mk H
          clear H
          have hcz25_0:w5.cell? ⟨gb111,0,none⟩=some (.int .i64 a0_0):=(blk_cell BK111.out 0).trans rfl
          have hcz25_1:w5.cell? ⟨gb111,1,none⟩=some (.int .i64 a0_1):=(blk_cell BK111.out 1).trans rfl
          have hcz25_2:w5.cell? ⟨gb111,2,none⟩=some (.int .i64 a0_2):=(blk_cell BK111.out 2).trans rfl
          have hcz25_3:w5.cell? ⟨gb111,3,none⟩=some (.int .i64 a0_3):=(blk_cell BK111.out 3).trans rfl
          have hfz25_0:=blk_frozen BK111.out 0
          have hfz25_1:=blk_frozen BK111.out 1
          have hfz25_2:=blk_frozen BK111.out 2
          have hfz25_3:=blk_frozen BK111.out 3
          obtain ⟨Ao26,co26,eo26⟩:=Kd.R_slice HO114.out
          subst eo26
          go_wp2_with (first|(go_at_call 14;(with_reducible refine (understudyref23_fits.calls a0_1 true _ A11.out).mono ?_);rintro e w' ⟨rfl,⟨nd,rfl⟩⟩)|(go_at_call 14;(with_reducible refine (understudyref23_fits.calls a0_2 true _ A13.out).mono ?_);rintro e w' ⟨rfl,⟨nd,rfl⟩⟩)|(go_at_call 14;(with_reducible refine (understudyref23_fits.calls a0_3 true _ A15.out).mono ?_);rintro e w' ⟨rfl,⟨nd,rfl⟩⟩))
          go_meet
          case rel => exact ⟨_,((a0_3 != 0)),(by first|rfl|(simp;done)|(simp [*];done)),H',⟨by first|omega|exact Nat.le_refl _⟩,⟨by (with_reducible repeat (first|apply Kd.R_alloc|apply Kd.R_drewN|apply Kd.R_drew));exact HO114.out⟩,⟨by (with_reducible repeat (first|refine blk_drewN ?_ _|refine blk_drew ?_|refine blk_alloc ?_ _));exact BK111.out⟩,⟨by repeat (first|(with_reducible first|exact HB.out|apply below_alloc|apply pw_below_drewN|apply below_drew1|refine below_set ?_ GE111.out)|exact HB.out)⟩⟩
         ·rw [if_neg c24] at H
          have c24b0:decide (2 < a0_0)=false:=decide_eq_false c24
          clear c24
          have H':=Aside0.mk H
          clear H
          have hcz27_0:w5.cell? ⟨gb111,0,none⟩=some (.int .i64 a0_0):=(blk_cell BK111.out 0).trans rfl
          have hcz27_1:w5.cell? ⟨gb111,1,none⟩=some (.int .i64 a0_1):=(blk_cell BK111.out 1).trans rfl
          have hcz27_2:w5.cell? ⟨gb111,2,none⟩=some (.int .i64 a0_2):=(blk_cell BK111.out 2).trans rfl
          have hcz27_3:w5.cell? ⟨gb111,3,none⟩=some (.int .i64 a0_3):=(blk_cell BK111.out 3).trans rfl
          have hfz27_0:=blk_frozen BK111.out 0
          have hfz27_1:=blk_frozen BK111.out 1
          have hfz27_2:=blk_frozen BK111.out 2
          have hfz27_3:=blk_frozen BK111.out 3
          obtain ⟨Ao28,co28,eo28⟩:=Kd.R_slice HO114.out
          subst eo28
          go_wp2_with (first|(go_at_call 14;(with_reducible refine (understudyref23_fits.calls a0_1 true _ A11.out).mono ?_);rintro e w' ⟨rfl,⟨nd,rfl⟩⟩)|(go_at_call 14;(with_reducible refine (understudyref23_fits.calls a0_2 true _ A13.out).mono ?_);rintro e w' ⟨rfl,⟨nd,rfl⟩⟩)|(go_at_call 14;(with_reducible refine (understudyref23_fits.calls a0_3 true _ A15.out).mono ?_);rintro e w' ⟨rfl,⟨nd,rfl⟩⟩))
          go_meet
          case rel => exact ⟨_,(false),(by first|rfl|(simp;done)|(simp [*];done)),H',⟨by first|omega|exact Nat.le_refl _⟩,⟨by (with_reducible repeat (first|apply Kd.R_alloc|apply Kd.R_drewN|apply Kd.R_drew));exact HO114.out⟩,⟨by (with_reducible repeat (first|refine blk_drewN ?_ _|refine blk_drew ?_|refine blk_alloc ?_ _));exact BK111.out⟩,⟨by repeat (first|(with_reducible first|exact HB.out|apply below_alloc|apply pw_below_drewN|apply below_drew1|refine below_set ?_ GE111.out)|exact HB.out)⟩⟩
        ·rw [if_neg c23] at H
         have c23b0:(a0_2==0)=false:=beq_eq_false_iff_ne.mpr c23
         have c23b1:(a0_2 != 0)=true:=bne_iff_ne.mpr c23
         have H':=Aside0.mk H
         clear H
         have hcz29_0:w5.cell? ⟨gb111,0,none⟩=some (.int .i64 a0_0):=(blk_cell BK111.out 0).trans rfl
         have hcz29_1:w5.cell? ⟨gb111,1,none⟩=some (.int .i64 a0_1):=(blk_cell BK111.out 1).trans rfl
         have hcz29_2:w5.cell? ⟨gb111,2,none⟩=some (.int .i64 a0_2):=(blk_cell BK111.out 2).trans rfl
         have hcz29_3:w5.cell? ⟨gb111,3,none⟩=some (.int .i64 a0_3):=(blk_cell BK111.out 3).trans rfl
         have hfz29_0:=blk_frozen BK111.out 0
         have hfz29_1:=blk_frozen BK111.out 1
         have hfz29_2:=blk_frozen BK111.out 2
         have hfz29_3:=blk_frozen BK111.out 3
         obtain ⟨Ao30,co30,eo30⟩:=Kd.R_slice HO114.out
         subst eo30
         go_wp2_with (first|(go_at_call 14;(with_reducible refine (understudyref23_fits.calls a0_1 true _ A11.out).mono ?_);rintro e w' ⟨rfl,⟨nd,rfl⟩⟩)|(go_at_call 14;(with_reducible refine (understudyref23_fits.calls a0_2 true _ A13.out).mono ?_);rintro e w' ⟨rfl,⟨nd,rfl⟩⟩)|(go_at_call 14;(with_reducible refine (understudyref23_fits.calls a0_3 true _ A15.out).mono ?_);rintro e w' ⟨rfl,⟨nd,rfl⟩⟩))
         go_meet
         case rel => exact ⟨_,(true),(by first|rfl|(simp;done)|(simp [*];done)),H',⟨by first|omega|exact Nat.le_refl _⟩,⟨by (with_reducible repeat (first|apply Kd.R_alloc|apply Kd.R_drewN|apply Kd.R_drew));exact HO114.out⟩,⟨by (with_reducible repeat (first|refine blk_drewN ?_ _|refine blk_drew ?_|refine blk_alloc ?_ _));exact BK111.out⟩,⟨by repeat (first|(with_reducible first|exact HB.out|apply below_alloc|apply pw_below_drewN|apply below_drew1|refine below_set ?_ GE111.out)|exact HB.out)⟩⟩
      ·replace c16:=Bool.eq_false_iff.mpr c16
       subst c16
       have H1:(understudyref23_Print.j0 k t112 true a0_0 a0_1 a0_2 a0_3)=some (r1,r2):=by rw [if_neg (show ¬ (false=true) by decide)] at H;exact H
       clear H
       have H:=H1
       clear H1
       have H':=Aside0.mk H
       clear H
       have hcz31_0:w5.cell? ⟨gb111,0,none⟩=some (.int .i64 a0_0):=(blk_cell BK111.out 0).trans rfl
       have hcz31_1:w5.cell? ⟨gb111,1,none⟩=some (.int .i64 a0_1):=(blk_cell BK111.out 1).trans rfl
       have hcz31_2:w5.cell? ⟨gb111,2,none⟩=some (.int .i64 a0_2):=(blk_cell BK111.out 2).trans rfl
       have hcz31_3:w5.cell? ⟨gb111,3,none⟩=some (.int .i64 a0_3):=(blk_cell BK111.out 3).trans rfl
       have hfz31_0:=blk_frozen BK111.out 0
       have hfz31_1:=blk_frozen BK111.out 1
       have hfz31_2:=blk_frozen BK111.out 2
       have hfz31_3:=blk_frozen BK111.out 3
       obtain ⟨Ao32,co32,eo32⟩:=Kd.R_slice HO114.out
       subst eo32
       go_wp2_with (first|(go_at_call 14;(with_reducible refine (understudyref23_fits.calls a0_1 true _ A11.out).mono ?_);rintro e w' ⟨rfl,⟨nd,rfl⟩⟩)|(go_at_call 14;(with_reducible refine (understudyref23_fits.calls a0_2 true _ A13.out).mono ?_);rintro e w' ⟨rfl,⟨nd,rfl⟩⟩)|(go_at_call 14;(with_reducible refine (understudyref23_fits.calls a0_3 false _ A15.out).mono ?_);rintro e w' ⟨rfl,⟨nd,rfl⟩⟩))
       go_meet
       case rel => exact ⟨_,(true),(by first|rfl|(simp;done)|(simp [*];done)),H',⟨by first|omega|exact Nat.le_refl _⟩,⟨by (with_reducible repeat (first|apply Kd.R_alloc|apply Kd.R_drewN|apply Kd.R_drew));exact HO114.out⟩,⟨by (with_reducible repeat (first|refine blk_drewN ?_ _|refine blk_drew ?_|refine blk_alloc ?_ _));exact BK111.out⟩,⟨by repeat (first|(with_reducible first|exact HB.out|apply below_alloc|apply pw_below_drewN|apply below_drew1|refine below_set ?_ GE111.out)|exact HB.out)⟩⟩
     ·replace c14:=Bool.eq_false_iff.mpr c14
      subst c14
      have H1:(understudyref23_Print.j0 k t112 true a0_0 a0_1 a0_2 a0_3)=some (r1,r2):=by rw [if_neg (show ¬ (false=true) by decide)] at H;exact H
      clear H
      have H:=H1
      clear H1
      have H':=Aside0.mk H
      clear H
      have hcz33_0:w5.cell? ⟨gb111,0,none⟩=some (.int .i64 a0_0):=(blk_cell BK111.out 0).trans rfl
      have hcz33_1:w5.cell? ⟨gb111,1,none⟩=some (.int .i64 a0_1):=(blk_cell BK111.out 1).trans rfl
      have hcz33_2:w5.cell? ⟨gb111,2,none⟩=some (.int .i64 a0_2):=(blk_cell BK111.out 2).trans rfl
      have hcz33_3:w5.cell? ⟨gb111,3,none⟩=some (.int .i64 a0_3):=(blk_cell BK111.out 3).trans rfl
      have hfz33_0:=blk_frozen BK111.out 0
      have hfz33_1:=blk_frozen BK111.out 1
      have hfz33_2:=blk_frozen BK111.out 2
      have hfz33_3:=blk_frozen BK111.out 3
      obtain ⟨Ao34,co34,eo34⟩:=Kd.R_slice HO114.out
      subst eo34
      go_wp2_with (first|(go_at_call 14;(with_reducible refine (understudyref23_fits.calls a0_1 true _ A11.out).mono ?_);rintro e w' ⟨rfl,⟨nd,rfl⟩⟩)|(go_at_call 14;(with_reducible refine (understudyref23_fits.calls a0_2 false _ A13.out).mono ?_);rintro e w' ⟨rfl,⟨nd,rfl⟩⟩))
      go_meet
      case rel => exact ⟨_,(true),(by first|rfl|(simp;done)|(simp [*];done)),H',⟨by first|omega|exact Nat.le_refl _⟩,⟨by (with_reducible repeat (first|apply Kd.R_alloc|apply Kd.R_drewN|apply Kd.R_drew));exact HO114.out⟩,⟨by (with_reducible repeat (first|refine blk_drewN ?_ _|refine blk_drew ?_|refine blk_alloc ?_ _));exact BK111.out⟩,⟨by repeat (first|(with_reducible first|exact HB.out|apply below_alloc|apply pw_below_drewN|apply below_drew1|refine below_set ?_ GE111.out)|exact HB.out)⟩⟩
    ·replace c12:=Bool.eq_false_iff.mpr c12
     subst c12
     have H1:(understudyref23_Print.j0 k t112 true a0_0 a0_1 a0_2 a0_3)=some (r1,r2):=by rw [if_neg (show ¬ (false=true) by decide)] at H;exact H
     clear H
     have H:=H1
     clear H1
     have H':=Aside0.mk H
     clear H
     have hcz35_0:w5.cell? ⟨gb111,0,none⟩=some (.int .i64 a0_0):=(blk_cell BK111.out 0).trans rfl
     have hcz35_1:w5.cell? ⟨gb111,1,none⟩=some (.int .i64 a0_1):=(blk_cell BK111.out 1).trans rfl
     have hcz35_2:w5.cell? ⟨gb111,2,none⟩=some (.int .i64 a0_2):=(blk_cell BK111.out 2).trans rfl
     have hcz35_3:w5.cell? ⟨gb111,3,none⟩=some (.int .i64 a0_3):=(blk_cell BK111.out 3).trans rfl
     have hfz35_0:=blk_frozen BK111.out 0
     have hfz35_1:=blk_frozen BK111.out 1
     have hfz35_2:=blk_frozen BK111.out 2
     have hfz35_3:=blk_frozen BK111.out 3
     obtain ⟨Ao36,co36,eo36⟩:=Kd.R_slice HO114.out
     subst eo36
     go_wp2_with (first|(go_at_call 14;(with_reducible refine (understudyref23_fits.calls a0_1 false _ A11.out).mono ?_);rintro e w' ⟨rfl,⟨nd,rfl⟩⟩))
     go_meet
     case rel => exact ⟨_,(true),(by first|rfl|(simp;done)|(simp [*];done)),H',⟨by first|omega|exact Nat.le_refl _⟩,⟨by (with_reducible repeat (first|apply Kd.R_alloc|apply Kd.R_drewN|apply Kd.R_drew));exact HO114.out⟩,⟨by (with_reducible repeat (first|refine blk_drewN ?_ _|refine blk_drew ?_|refine blk_alloc ?_ _));exact BK111.out⟩,⟨by repeat (first|(with_reducible first|exact HB.out|apply below_alloc|apply pw_below_drewN|apply below_drew1|refine below_set ?_ GE111.out)|exact HB.out)⟩⟩
 case rest =>
  clear HC3
  try clear c1;try clear c2;try clear p2;try clear c6;try clear c6b0;try clear c8;try clear c8b0;try clear c12;try clear c13;try clear c14;try clear c16;try clear c17;try clear c17b0;try clear c17b1;try clear c18;try clear c18b0;try clear c23;try clear c23b0;try clear c23b1;try clear c24;try clear c24b0;try clear hcz19_0;try clear hcz19_1;try clear hcz19_2;try clear hcz19_3;try clear hcz21_0;try clear hcz21_1;try clear hcz21_2;try clear hcz21_3;try clear hcz25_0;try clear hcz25_1;try clear hcz25_2;try clear hcz25_3;try clear hcz27_0;try clear hcz27_1;try clear hcz27_2;try clear hcz27_3;try clear hcz29_0;try clear hcz29_1;try clear hcz29_2;try clear hcz29_3;try clear hcz31_0;try clear hcz31_1;try clear hcz31_2;try clear hcz31_3;try clear hcz33_0;try clear hcz33_1;try clear hcz33_2;try clear hcz33_3;try clear hcz35_0;try clear hcz35_1;try clear hcz35_2;try clear hcz35_3;try clear hcz7_0;try clear hcz7_1;try clear hcz7_2;try clear hcz7_3;try clear hcz9_0;try clear hcz9_1;try clear hcz9_2;try clear hcz9_3;try clear hfz19_0;try clear hfz19_1;try clear hfz19_2;try clear hfz19_3;try clear hfz21_0;try clear hfz21_1;try clear hfz21_2;try clear hfz21_3;try clear hfz25_0;try clear hfz25_1;try clear hfz25_2;try clear hfz25_3;try clear hfz27_0;try clear hfz27_1;try clear hfz27_2;try clear hfz27_3;try clear hfz29_0;try clear hfz29_1;try clear hfz29_2;try clear hfz29_3;try clear hfz31_0;try clear hfz31_1;try clear hfz31_2;try clear hfz31_3;try clear hfz33_0;try clear hfz33_1;try clear hfz33_2;try clear hfz33_3;try clear hfz35_0;try clear hfz35_1;try clear hfz35_2;try clear hfz35_3;try clear hfz7_0;try clear hfz7_1;try clear hfz7_2;try clear hfz7_3;try clear hfz9_0;try clear hfz9_1;try clear hfz9_2;try clear hfz9_3
  obtain ⟨kq,x54_2,rfl,HA,HJ2,HO_4,BK111,HB⟩:=hcut
  cases kq with
  | zero => exact absurd HA.out (by simp [understudyref23_Print.j0])
  | succ kj2 =>
   have H:=HA.out
   clear HA
   simp only [understudyref23_Print.j0] at H
   by_cases c37:x54_2=true
   ·subst c37
    have H1:(some ((⟨#[]⟩:ByteArray),1))=some (r1,r2):=by rw [if_pos rfl] at H;exact H
    clear H
    have H:=H1
    clear H1
    simp only [Option.some.injEq,Prod.mk.injEq] at H
    obtain ⟨rfl,rfl⟩:=H
    go_wp2
    go_ret2
    exact ⟨by first|rfl|(simp [errW_none,errW_some] <;> rfl)|(simp [*,errW_none,errW_some] <;> rfl),by repeat (first|(with_reducible first|exact HB.out|apply below_alloc|apply pw_below_drewN|apply below_drew1|refine below_set ?_ GE111.out)|exact HB.out)⟩
   ·replace c37:=Bool.eq_false_iff.mpr c37
    subst c37
    have H1:(if 0≤a0_0 then (if a0_0 < (t112.length:Int) then (if (rdOf ByteArray.empty t112 a0_0).size + 1≤9223372036854775807 then ((understudyref23_told.f kj2 a0_1).bind fun t119 => (if ((rdOf ByteArray.empty t112 a0_0)++(⟨#[32]⟩:ByteArray)).size + t119.size≤9223372036854775807 then (if a0_0=0 then (if (((rdOf ByteArray.empty t112 a0_0)++(⟨#[32]⟩:ByteArray))++t119).size + 1≤9223372036854775807 then ((understudyref23_told.f kj2 a0_2).bind fun t120 => (if ((((rdOf ByteArray.empty t112 a0_0)++(⟨#[32]⟩:ByteArray))++t119)++(⟨#[32]⟩:ByteArray)).size + t120.size≤9223372036854775807 then (if a0_0≤2 then (if (((((rdOf ByteArray.empty t112 a0_0)++(⟨#[32]⟩:ByteArray))++t119)++(⟨#[32]⟩:ByteArray))++t120).size + 1≤9223372036854775807 then ((understudyref23_told.f kj2 a0_3).bind fun t121 => (if ((((((rdOf ByteArray.empty t112 a0_0)++(⟨#[32]⟩:ByteArray))++t119)++(⟨#[32]⟩:ByteArray))++t120)++(⟨#[32]⟩:ByteArray)).size + t121.size≤9223372036854775807 then (some (((((((rdOf ByteArray.empty t112 a0_0)++(⟨#[32]⟩:ByteArray))++t119)++(⟨#[32]⟩:ByteArray))++t120)++(⟨#[32]⟩:ByteArray))++t121,0)) else (none))) else (none)) else (some (((((rdOf ByteArray.empty t112 a0_0)++(⟨#[32]⟩:ByteArray))++t119)++(⟨#[32]⟩:ByteArray))++t120,0))) else (none))) else (none)) else (if a0_0≤2 then (if (((rdOf ByteArray.empty t112 a0_0)++(⟨#[32]⟩:ByteArray))++t119).size + 1≤9223372036854775807 then ((understudyref23_told.f kj2 a0_3).bind fun t122 => (if ((((rdOf ByteArray.empty t112 a0_0)++(⟨#[32]⟩:ByteArray))++t119)++(⟨#[32]⟩:ByteArray)).size + t122.size≤9223372036854775807 then (some (((((rdOf ByteArray.empty t112 a0_0)++(⟨#[32]⟩:ByteArray))++t119)++(⟨#[32]⟩:ByteArray))++t122,0)) else (none))) else (none)) else (some (((rdOf ByteArray.empty t112 a0_0)++(⟨#[32]⟩:ByteArray))++t119,0)))) else (none))) else (none)) else (none)) else (none))=some (r1,r2):=by rw [if_neg (show ¬ (false=true) by decide)] at H;exact H
    clear H
    have H:=H1
    clear H1
    by_cases c38:0≤a0_0
    ·rw [if_pos c38] at H
     have c38b0:decide (0≤a0_0)=true:=decide_eq_true c38
     clear c38
     by_cases c39:a0_0 < (t112.length:Int)
     ·rw [if_pos c39] at H
      have c39b0:decide (a0_0 < (t112.length:Int))=true:=decide_eq_true c39
      clear c39
      by_cases c40:(rdOf ByteArray.empty t112 a0_0).size + 1≤9223372036854775807
      ·rw [if_pos c40] at H
       have c40b0:=eq_true c40
       have c40b1:decide ((rdOf ByteArray.empty t112 a0_0).size + 1≤9223372036854775807)=true:=decide_eq_true c40
       try have c40b2:(9223372036854775807 < (rdOf ByteArray.empty t112 a0_0).size + 1)=False:=eq_false (Nat.not_lt.2 c40)
       replace H:=Option.bind_eq_some_iff.mp H
       obtain ⟨t119,A410,H⟩:=H
       replace H:(if ((rdOf ByteArray.empty t112 a0_0)++(⟨#[32]⟩:ByteArray)).size + t119.size≤9223372036854775807 then (if a0_0=0 then (if (((rdOf ByteArray.empty t112 a0_0)++(⟨#[32]⟩:ByteArray))++t119).size + 1≤9223372036854775807 then ((understudyref23_told.f kj2 a0_2).bind fun t120 => (if ((((rdOf ByteArray.empty t112 a0_0)++(⟨#[32]⟩:ByteArray))++t119)++(⟨#[32]⟩:ByteArray)).size + t120.size≤9223372036854775807 then (if a0_0≤2 then (if (((((rdOf ByteArray.empty t112 a0_0)++(⟨#[32]⟩:ByteArray))++t119)++(⟨#[32]⟩:ByteArray))++t120).size + 1≤9223372036854775807 then ((understudyref23_told.f kj2 a0_3).bind fun t121 => (if ((((((rdOf ByteArray.empty t112 a0_0)++(⟨#[32]⟩:ByteArray))++t119)++(⟨#[32]⟩:ByteArray))++t120)++(⟨#[32]⟩:ByteArray)).size + t121.size≤9223372036854775807 then (some (((((((rdOf ByteArray.empty t112 a0_0)++(⟨#[32]⟩:ByteArray))++t119)++(⟨#[32]⟩:ByteArray))++t120)++(⟨#[32]⟩:ByteArray))++t121,0)) else (none))) else (none)) else (some (((((rdOf ByteArray.empty t112 a0_0)++(⟨#[32]⟩:ByteArray))++t119)++(⟨#[32]⟩:ByteArray))++t120,0))) else (none))) else (none)) else (if a0_0≤2 then (if (((rdOf ByteArray.empty t112 a0_0)++(⟨#[32]⟩:ByteArray))++t119).size + 1≤9223372036854775807 then ((understudyref23_told.f kj2 a0_3).bind fun t122 => (if ((((rdOf ByteArray.empty t112 a0_0)++(⟨#[32]⟩:ByteArray))++t119)++(⟨#[32]⟩:ByteArray)).size + t122.size≤9223372036854775807 then (some (((((rdOf ByteArray.empty t112 a0_0)++(⟨#[32]⟩:ByteArray))++t119)++(⟨#[32]⟩:ByteArray))++t122,0)) else (none))) else (none)) else (some (((rdOf ByteArray.empty t112 a0_0)++(⟨#[32]⟩:ByteArray))++t119,0)))) else (none))=some (r1,r2):=H
       have A41:=Aside0.mk A410
       clear A410
       by_cases c42:((rdOf ByteArray.empty t112 a0_0)++(⟨#[32]⟩:ByteArray)).size + t119.size≤9223372036854775807
       ·rw [if_pos c42] at H
        have c42b0:=eq_true c42
        have c42b1:decide (((rdOf ByteArray.empty t112 a0_0)++(⟨#[32]⟩:ByteArray)).size + t119.size≤9223372036854775807)=true:=decide_eq_true c42
        have c42w:=c42
        try simp only [ByteArray.size_append,show (⟨#[32]⟩:ByteArray).size=1 from rfl] at c42w
        have c42w1:=Nat.not_lt.2 c42w
        have c42w2:=eq_false c42w1
        have c42w0:=eq_true c42w
        have c42w3:=decide_eq_true c42w
        try have c42b2:(9223372036854775807 < ((rdOf ByteArray.empty t112 a0_0)++(⟨#[32]⟩:ByteArray)).size + t119.size)=False:=eq_false (Nat.not_lt.2 c42)
        by_cases c43:a0_0=0
        ·rw [if_pos c43] at H
         have c43b0:(a0_0==0)=true:=beq_iff_eq.mpr c43
         have c43b1:(a0_0 != 0)=false:=bne_eq_false_iff_eq.mpr c43
         clear c43
         by_cases c44:(((rdOf ByteArray.empty t112 a0_0)++(⟨#[32]⟩:ByteArray))++t119).size + 1≤9223372036854775807
         ·rw [if_pos c44] at H
          have c44b0:=eq_true c44
          have c44b1:decide ((((rdOf ByteArray.empty t112 a0_0)++(⟨#[32]⟩:ByteArray))++t119).size + 1≤9223372036854775807)=true:=decide_eq_true c44
          have c44w:=c44
          try simp only [ByteArray.size_append,show (⟨#[32]⟩:ByteArray).size=1 from rfl] at c44w
          have c44w1:=Nat.not_lt.2 c44w
          have c44w2:=eq_false c44w1
          have c44w0:=eq_true c44w
          have c44w3:=decide_eq_true c44w
          try have c44b2:(9223372036854775807 < (((rdOf ByteArray.empty t112 a0_0)++(⟨#[32]⟩:ByteArray))++t119).size + 1)=False:=eq_false (Nat.not_lt.2 c44)
          replace H:=Option.bind_eq_some_iff.mp H
          obtain ⟨t120,A450,H⟩:=H
          replace H:(if ((((rdOf ByteArray.empty t112 a0_0)++(⟨#[32]⟩:ByteArray))++t119)++(⟨#[32]⟩:ByteArray)).size + t120.size≤9223372036854775807 then (if a0_0≤2 then (if (((((rdOf ByteArray.empty t112 a0_0)++(⟨#[32]⟩:ByteArray))++t119)++(⟨#[32]⟩:ByteArray))++t120).size + 1≤9223372036854775807 then ((understudyref23_told.f kj2 a0_3).bind fun t121 => (if ((((((rdOf ByteArray.empty t112 a0_0)++(⟨#[32]⟩:ByteArray))++t119)++(⟨#[32]⟩:ByteArray))++t120)++(⟨#[32]⟩:ByteArray)).size + t121.size≤9223372036854775807 then (some (((((((rdOf ByteArray.empty t112 a0_0)++(⟨#[32]⟩:ByteArray))++t119)++(⟨#[32]⟩:ByteArray))++t120)++(⟨#[32]⟩:ByteArray))++t121,0)) else (none))) else (none)) else (some (((((rdOf ByteArray.empty t112 a0_0)++(⟨#[32]⟩:ByteArray))++t119)++(⟨#[32]⟩:ByteArray))++t120,0))) else (none))=some (r1,r2):=H
          have A45:=Aside0.mk A450
          clear A450
          by_cases c46:((((rdOf ByteArray.empty t112 a0_0)++(⟨#[32]⟩:ByteArray))++t119)++(⟨#[32]⟩:ByteArray)).size + t120.size≤9223372036854775807
          ·rw [if_pos c46] at H
           have c46b0:=eq_true c46
           have c46b1:decide (((((rdOf ByteArray.empty t112 a0_0)++(⟨#[32]⟩:ByteArray))++t119)++(⟨#[32]⟩:ByteArray)).size + t120.size≤9223372036854775807)=true:=decide_eq_true c46
           have c46w:=c46
           try simp only [ByteArray.size_append,show (⟨#[32]⟩:ByteArray).size=1 from rfl] at c46w
           have c46w1:=Nat.not_lt.2 c46w
           have c46w2:=eq_false c46w1
           have c46w0:=eq_true c46w
           have c46w3:=decide_eq_true c46w
           try have c46b2:(9223372036854775807 < ((((rdOf ByteArray.empty t112 a0_0)++(⟨#[32]⟩:ByteArray))++t119)++(⟨#[32]⟩:ByteArray)).size + t120.size)=False:=eq_false (Nat.not_lt.2 c46)
           by_cases c47:a0_0≤2
           ·rw [if_pos c47] at H
            have c47b0:decide (a0_0≤2)=true:=decide_eq_true c47
            clear c47
            by_cases c48:(((((rdOf ByteArray.empty t112 a0_0)++(⟨#[32]⟩:ByteArray))++t119)++(⟨#[32]⟩:ByteArray))++t120).size + 1≤9223372036854775807
            ·rw [if_pos c48] at H
             have c48b0:=eq_true c48
             have c48b1:decide ((((((rdOf ByteArray.empty t112 a0_0)++(⟨#[32]⟩:ByteArray))++t119)++(⟨#[32]⟩:ByteArray))++t120).size + 1≤9223372036854775807)=true:=decide_eq_true c48
             have c48w:=c48
             try simp only [ByteArray.size_append,show (⟨#[32]⟩:ByteArray).size=1 from rfl] at c48w
             have c48w1:=Nat.not_lt.2 c48w
             have c48w2:=eq_false c48w1
             have c48w0:=eq_true c48w
             have c48w3:=decide_eq_true c48w
             try have c48b2:(9223372036854775807 < (((((rdOf ByteArray.empty t112 a0_0)++(⟨#[32]⟩:ByteArray))++t119)++(⟨#[32]⟩:ByteArray))++t120).size + 1)=False:=eq_false (Nat.not_lt.2 c48)
             replace H:=Option.bind_eq_some_iff.mp H
             obtain ⟨t121,A490,H⟩:=H
             replace H:(if ((((((rdOf ByteArray.empty t112 a0_0)++(⟨#[32]⟩:ByteArray))++t119)++(⟨#[32]⟩:ByteArray))++t120)++(⟨#[32]⟩:ByteArray)).size + t121.size≤9223372036854775807 then (some (((((((rdOf ByteArray.empty t112 a0_0)++(⟨#[32]⟩:ByteArray))++t119)++(⟨#[32]⟩:ByteArray))++t120)++(⟨#[32]⟩:ByteArray))++t121,0)) else (none))=some (r1,r2):=H
             have A49:=Aside0.mk A490
             clear A490
             by_cases c50:((((((rdOf ByteArray.empty t112 a0_0)++(⟨#[32]⟩:ByteArray))++t119)++(⟨#[32]⟩:ByteArray))++t120)++(⟨#[32]⟩:ByteArray)).size + t121.size≤9223372036854775807
             ·rw [if_pos c50] at H
              have c50b0:=eq_true c50
              have c50b1:decide (((((((rdOf ByteArray.empty t112 a0_0)++(⟨#[32]⟩:ByteArray))++t119)++(⟨#[32]⟩:ByteArray))++t120)++(⟨#[32]⟩:ByteArray)).size + t121.size≤9223372036854775807)=true:=decide_eq_true c50
              have c50w:=c50
              try simp only [ByteArray.size_append,show (⟨#[32]⟩:ByteArray).size=1 from rfl] at c50w
              have c50w1:=Nat.not_lt.2 c50w
              have c50w2:=eq_false c50w1
              have c50w0:=eq_true c50w
              have c50w3:=decide_eq_true c50w
              try have c50b2:(9223372036854775807 < ((((((rdOf ByteArray.empty t112 a0_0)++(⟨#[32]⟩:ByteArray))++t119)++(⟨#[32]⟩:ByteArray))++t120)++(⟨#[32]⟩:ByteArray)).size + t121.size)=False:=eq_false (Nat.not_lt.2 c50)
              simp only [Option.some.injEq,Prod.mk.injEq] at H
              obtain ⟨rfl,rfl⟩:=H
              try go_wp2
              have n0_:=Aside0.mk (Kd.R_drew HO_4.out)
              have n1_:=Aside0.mk (blk_drew BK111.out)
              have n2_:=Aside0.mk (below_drew1 HB.out)
              clear HO_4
              clear BK111
              clear HB
              have HO_4:=n0_
              have BK111:=n1_
              have HB:=n2_
              clear n0_ n1_ n2_
              obtain ⟨Ao52,co52,eo52⟩:=Kd.R_slice HO_4.out
              (first|subst eo52|(injection eo52 with f1_ f2_ f3_;have f4_:=f1_.symm;have f5_:=f3_.symm;clear f1_ f2_ f3_;subst f4_;subst f5_))
              have p118:0≤(a0_0:Int):=of_decide_eq_true (by first|(with_reducible assumption)|assumption)
              have q118:a0_0 < (t112.length:Int):=of_decide_eq_true (by first|(with_reducible assumption)|assumption)
              obtain ⟨ad118,e118,hx118_0⟩:=Kd.at_string (Kd.R_reads' HO_4.out).2.2 a0_0 p118 q118
              cases e118
              replace p118:=eq_true p118
              replace q118:=eq_true q118
              refine start_ (n:=11) (S:=fun w' => w'.cell? ⟨gb111,0,none⟩=some (.int .i64 a0_0)∧w'.cell? ⟨gb111,1,none⟩=some (.int .i64 a0_1)∧w'.cell? ⟨gb111,2,none⟩=some (.int .i64 a0_2)∧w'.cell? ⟨gb111,3,none⟩=some (.int .i64 a0_3)∧w'.cell? (ad118.add (a0_0).toNat)=some (.string (rdOf ByteArray.empty t112 a0_0))) (ds:=[]) #[false,false,false,false,false,false,false,false,false,false,false] (by kernel_rfl) rfl rfl ⟨(blk_cell BK111.out 0).trans rfl,(blk_cell BK111.out 1).trans rfl,(blk_cell BK111.out 2).trans rfl,(blk_cell BK111.out 3).trans rfl,hx118_0⟩ (fun hHeld => ?_);refine with_tabW understudyref23_Print.tab4 understudyref23_Print.bits4 (fun HT_ HW_ => ?_)
              generalize wc.drew=w51 at HO_4 BK111 HB hx118_0 hHeld ⊢
              refine pure_ (i:=0) (N:=some 55) (v:=?_) (a':=?_) #[true,false,false,false,false,false,false,false,false,false,false] rfl rfl (any_of HT_.out (by kernel_rfl)) (fun _ _ _ h => h) (Or.inl ⟨by rfl,?_⟩) ?_ ?_
              rotate_left
              ·intro w'
               go_simp
               with_reducible rfl
              rotate_left
              ·simp only [Act.put,List.setIfInBounds_toArray,List.set_cons_zero,List.set_cons_succ,i64_w,i32_w]
               rfl
              refine pure_ (i:=1) (N:=some 56) (v:=?_) (a':=?_) #[true,true,false,false,false,false,false,false,false,false,false] rfl rfl (any_of HT_.out (by kernel_rfl)) (fun _ _ _ h => h) (Or.inl ⟨by rfl,?_⟩) ?_ ?_
              rotate_left
              ·intro w'
               go_simp
               with_reducible rfl
              rotate_left
              ·simp only [Act.put,List.setIfInBounds_toArray,List.set_cons_zero,List.set_cons_succ,i64_w,i32_w]
               rfl
              refine pure_ (i:=6) (N:=some 61) (v:=?_) (a':=?_) #[true,true,false,false,false,false,true,false,false,false,false] rfl rfl (any_of HT_.out (by kernel_rfl)) (fun _ _ _ h => h) (Or.inl ⟨by rfl,?_⟩) ?_ ?_
              rotate_left
              ·intro w'
               go_simp
               with_reducible rfl
              rotate_left
              ·simp only [Act.put,List.setIfInBounds_toArray,List.set_cons_zero,List.set_cons_succ,i64_w,i32_w]
               rfl
              refine take_ (i:=2) (N:=some 57) (v:=?_) (a':=?_) #[true,true,true,false,false,false,true,false,false,false,false] rfl rfl (take_ofW HT_.out HW_.out (by kernel_rfl)) (fun _ _ _ h => h) (Or.inl ⟨by rfl,?_⟩) hHeld ?_ ?_
              rotate_left
              ·rintro w' ⟨s0,s1,s2,s3,s4⟩
               go_simp
               with_reducible rfl
              rotate_left
              ·simp only [Act.put,List.setIfInBounds_toArray,List.set_cons_zero,List.set_cons_succ,i64_w,i32_w]
               rfl
              refine pure_ (i:=3) (N:=some 58) (v:=?_) (a':=?_) #[true,true,true,true,false,false,true,false,false,false,false] rfl rfl (any_of HT_.out (by kernel_rfl)) (fun _ _ _ h => h) (Or.inl ⟨by rfl,?_⟩) ?_ ?_
              rotate_left
              ·intro w'
               go_simp
               with_reducible rfl
              rotate_left
              ·simp only [Act.put,List.setIfInBounds_toArray,List.set_cons_zero,List.set_cons_succ,i64_w,i32_w]
               rfl
              refine take_ (i:=4) (N:=some 59) (v:=?_) (a':=?_) #[true,true,true,true,true,false,true,false,false,false,false] rfl rfl (take_ofW HT_.out HW_.out (by kernel_rfl)) (fun _ _ _ h => h) (Or.inl ⟨by rfl,?_⟩) hHeld ?_ ?_
              rotate_left
              ·rintro w' ⟨s0,s1,s2,s3,s4⟩
               go_simp
               with_reducible rfl
              rotate_left
              ·simp only [Act.put,List.setIfInBounds_toArray,List.set_cons_zero,List.set_cons_succ,i64_w,i32_w]
               rfl
              refine pure_ (i:=5) (N:=some 60) (v:=?_) (a':=?_) #[true,true,true,true,true,true,true,false,false,false,false] rfl rfl (any_of HT_.out (by kernel_rfl)) (fun _ _ _ h => h) (Or.inl ⟨by rfl,?_⟩) ?_ ?_
              rotate_left
              ·intro w'
               go_simp
               with_reducible rfl
              rotate_left
              ·simp only [Act.put,List.setIfInBounds_toArray,List.set_cons_zero,List.set_cons_succ,i64_w,i32_w]
               rfl
              refine take_ (i:=7) (N:=some 62) (v:=?_) (a':=?_) #[true,true,true,true,true,true,true,true,false,false,false] rfl rfl (take_ofW HT_.out HW_.out (by kernel_rfl)) (fun _ _ _ h => h) (Or.inl ⟨by rfl,?_⟩) hHeld ?_ ?_
              rotate_left
              ·rintro w' ⟨s0,s1,s2,s3,s4⟩
               go_simp
               with_reducible rfl
              rotate_left
              ·simp only [Act.put,List.setIfInBounds_toArray,List.set_cons_zero,List.set_cons_succ,i64_w,i32_w]
               rfl
              refine one_ (i:=8) (N:=some 63) #[true,true,true,true,true,true,true,true,true,false,false] rfl rfl (one_of HT_.out (by kernel_rfl)) (by decide) (fun K hK => ?_)
              refine goes_ Tryd.func15 (by kernel_rfl) rfl #[.int .i64 a0_1] (by rfl) rfl rfl (by (try simp only [List.map_toArray,List.map_cons,List.map_nil]);first|done|rfl|(simp only [List.length_drop,List.length_take];rfl)) ?_
              with_reducible refine (understudyref23_told.calls kj2 a0_1 t119 _ A41.out).mono ?_
              rintro e w53 ⟨rfl,hb⟩
              have HS4_:=(hb.cell (World.block_lt_of_cell? _ _ (hHeld.2.2.2.2))).trans (hHeld.2.2.2.2)
              refine ⟨_,rfl,?_⟩
              have n0_:=Aside0.mk (Kd.R_below (by (with_reducible repeat (first|apply Kd.R_alloc|apply Kd.R_drewN|apply Kd.R_drew));exact HO_4.out) hb)
              have n1_:=Aside0.mk (blk_below (g:=gb111) (o:=.cells #[.int .i64 a0_0,.int .i64 a0_1,.int .i64 a0_2,.int .i64 a0_3] 23 (0,0)) (by (with_reducible repeat (first|refine blk_drewN ?_ _|refine blk_drew ?_|refine blk_alloc ?_ _));exact BK111.out) hb)
              have n2_:=Aside0.mk (below_step (by repeat (first|(with_reducible first|exact HB.out|apply below_alloc|apply pw_below_drewN|apply below_drew1|refine below_set ?_ GE111.out)|exact HB.out)) hb)
              clear HO_4
              clear BK111
              clear HB
              have HO_4:=n0_
              have BK111:=n1_
              have HB:=n2_
              clear n0_ n1_ n2_
              (try clear hb)
              (try clear hb2)
              (try clear hk)
              (try clear hi)
              refine hK.out _ _ ⟨(blk_cell BK111.out 0).trans rfl,(blk_cell BK111.out 1).trans rfl,(blk_cell BK111.out 2).trans rfl,(blk_cell BK111.out 3).trans rfl,HS4_⟩ (fun hHeld => ?_)
              clear hK K
              refine norm_ (a':=?_) ?_ ?_
              rotate_left
              ·show Act.put _ (some 63) _=_
               simp only [Act.put,List.setIfInBounds_toArray,List.set_cons_zero,List.set_cons_succ,i64_w,i32_w]
               rfl
              refine pure_ (i:=9) (N:=some 64) (v:=?_) (a':=?_) #[true,true,true,true,true,true,true,true,true,true,false] rfl rfl (any_of HT_.out (by kernel_rfl)) (fun _ _ _ h => h) (Or.inl ⟨by rfl,?_⟩) ?_ ?_
              rotate_left
              ·intro w'
               go_simp
               with_reducible rfl
              rotate_left
              ·simp only [Act.put,List.setIfInBounds_toArray,List.set_cons_zero,List.set_cons_succ,i64_w,i32_w]
               rfl
              refine pure_ (i:=10) (N:=some 5) (v:=?_) (a':=?_) #[true,true,true,true,true,true,true,true,true,true,true] rfl rfl (any_of HT_.out (by kernel_rfl)) (fun _ _ _ h => h) (Or.inl ⟨by rfl,?_⟩) ?_ ?_
              rotate_left
              ·intro w'
               go_simp
               with_reducible rfl
              rotate_left
              ·simp only [Act.put,List.setIfInBounds_toArray,List.set_cons_zero,List.set_cons_succ,i64_w,i32_w]
               rfl
              refine done_ (done_of HT_.out (by kernel_rfl)) ?_
              have hcz54_0:w53.cell? ⟨gb111,0,none⟩=some (.int .i64 a0_0):=(blk_cell BK111.out 0).trans rfl
              have hcz54_1:w53.cell? ⟨gb111,1,none⟩=some (.int .i64 a0_1):=(blk_cell BK111.out 1).trans rfl
              have hcz54_2:w53.cell? ⟨gb111,2,none⟩=some (.int .i64 a0_2):=(blk_cell BK111.out 2).trans rfl
              have hcz54_3:w53.cell? ⟨gb111,3,none⟩=some (.int .i64 a0_3):=(blk_cell BK111.out 3).trans rfl
              have hfz54_0:=blk_frozen BK111.out 0
              have hfz54_1:=blk_frozen BK111.out 1
              have hfz54_2:=blk_frozen BK111.out 2
              have hfz54_3:=blk_frozen BK111.out 3
              try go_wp2_with (first|((with_reducible refine gate_callee (f:=15) rfl ?_);refine goesL_ (some 72) rfl rfl Tryd.func15 (by kernel_rfl) rfl #[.int .i64 a0_2] rfl (by (try simp only [List.map_toArray,List.map_cons,List.map_nil]);first|done|rfl|(simp only [List.length_drop,List.length_take];rfl)) ?_;(with_reducible refine (understudyref23_told.calls kj2 a0_2 t120 _ A45.out).mono ?_);rintro e w55 ⟨rfl,hb⟩;refine ⟨_,rfl,?_⟩;have n0_:=Aside0.mk (Kd.R_below (by (with_reducible repeat (first|apply Kd.R_alloc|apply Kd.R_drewN|apply Kd.R_drew));exact HO_4.out) hb);have n1_:=Aside0.mk (blk_below (g:=gb111) (o:=.cells #[.int .i64 a0_0,.int .i64 a0_1,.int .i64 a0_2,.int .i64 a0_3] 23 (0,0)) (by (with_reducible repeat (first|refine blk_drewN ?_ _|refine blk_drew ?_|refine blk_alloc ?_ _));exact BK111.out) hb);have n2_:=Aside0.mk (below_step (by repeat (first|(with_reducible first|exact HB.out|apply below_alloc|apply pw_below_drewN|apply below_drew1|refine below_set ?_ GE111.out)|exact HB.out)) hb);clear HO_4;clear BK111;clear HB;have HO_4:=n0_;have BK111:=n1_;have HB:=n2_;clear n0_ n1_ n2_;(try clear hb);(try clear hb2);(try clear hk);(try clear hi);have hcz56_0:w55.cell? ⟨gb111,0,none⟩=some (.int .i64 a0_0):=(blk_cell BK111.out 0).trans rfl;have hcz56_1:w55.cell? ⟨gb111,1,none⟩=some (.int .i64 a0_1):=(blk_cell BK111.out 1).trans rfl;have hcz56_2:w55.cell? ⟨gb111,2,none⟩=some (.int .i64 a0_2):=(blk_cell BK111.out 2).trans rfl;have hcz56_3:w55.cell? ⟨gb111,3,none⟩=some (.int .i64 a0_3):=(blk_cell BK111.out 3).trans rfl;have hfz56_0:=blk_frozen BK111.out 0;have hfz56_1:=blk_frozen BK111.out 1;have hfz56_2:=blk_frozen BK111.out 2;have hfz56_3:=blk_frozen BK111.out 3)|((with_reducible refine gate_callee (f:=15) rfl ?_);refine goesL_ (some 81) rfl rfl Tryd.func15 (by kernel_rfl) rfl #[.int .i64 a0_3] rfl (by (try simp only [List.map_toArray,List.map_cons,List.map_nil]);first|done|rfl|(simp only [List.length_drop,List.length_take];rfl)) ?_;(with_reducible refine (understudyref23_told.calls kj2 a0_3 t121 _ A49.out).mono ?_);rintro e w57 ⟨rfl,hb⟩;refine ⟨_,rfl,?_⟩;have n0_:=Aside0.mk (Kd.R_below (by (with_reducible repeat (first|apply Kd.R_alloc|apply Kd.R_drewN|apply Kd.R_drew));exact HO_4.out) hb);have n1_:=Aside0.mk (blk_below (g:=gb111) (o:=.cells #[.int .i64 a0_0,.int .i64 a0_1,.int .i64 a0_2,.int .i64 a0_3] 23 (0,0)) (by (with_reducible repeat (first|refine blk_drewN ?_ _|refine blk_drew ?_|refine blk_alloc ?_ _));exact BK111.out) hb);have n2_:=Aside0.mk (below_step (by repeat (first|(with_reducible first|exact HB.out|apply below_alloc|apply pw_below_drewN|apply below_drew1|refine below_set ?_ GE111.out)|exact HB.out)) hb);clear HO_4;clear BK111;clear HB;have HO_4:=n0_;have BK111:=n1_;have HB:=n2_;clear n0_ n1_ n2_;(try clear hb);(try clear hb2);(try clear hk);(try clear hi)))
              go_ret2
              exact ⟨by first|rfl|(simp [errW_none,errW_some] <;> rfl)|(simp [*,errW_none,errW_some] <;> rfl),by repeat (first|(with_reducible first|exact HB.out|apply below_alloc|apply pw_below_drewN|apply below_drew1|refine below_set ?_ GE111.out)|exact HB.out)⟩
             ·rw [if_neg c50] at H
              exact absurd H (by simp)
            ·rw [if_neg c48] at H
             exact absurd H (by simp)
           ·rw [if_neg c47] at H
            have c47b0:decide (a0_0≤2)=false:=decide_eq_false c47
            clear c47
            simp only [Option.some.injEq,Prod.mk.injEq] at H
            obtain ⟨rfl,rfl⟩:=H
            try go_wp2
            have n0_:=Aside0.mk (Kd.R_drew HO_4.out)
            have n1_:=Aside0.mk (blk_drew BK111.out)
            have n2_:=Aside0.mk (below_drew1 HB.out)
            clear HO_4
            clear BK111
            clear HB
            have HO_4:=n0_
            have BK111:=n1_
            have HB:=n2_
            clear n0_ n1_ n2_
            obtain ⟨Ao59,co59,eo59⟩:=Kd.R_slice HO_4.out
            (first|subst eo59|(injection eo59 with f1_ f2_ f3_;have f4_:=f1_.symm;have f5_:=f3_.symm;clear f1_ f2_ f3_;subst f4_;subst f5_))
            have p118:0≤(a0_0:Int):=of_decide_eq_true (by first|(with_reducible assumption)|assumption)
            have q118:a0_0 < (t112.length:Int):=of_decide_eq_true (by first|(with_reducible assumption)|assumption)
            obtain ⟨ad118,e118,hx118_0⟩:=Kd.at_string (Kd.R_reads' HO_4.out).2.2 a0_0 p118 q118
            cases e118
            replace p118:=eq_true p118
            replace q118:=eq_true q118
            refine start_ (n:=11) (S:=fun w' => w'.cell? ⟨gb111,0,none⟩=some (.int .i64 a0_0)∧w'.cell? ⟨gb111,1,none⟩=some (.int .i64 a0_1)∧w'.cell? ⟨gb111,2,none⟩=some (.int .i64 a0_2)∧w'.cell? ⟨gb111,3,none⟩=some (.int .i64 a0_3)∧w'.cell? (ad118.add (a0_0).toNat)=some (.string (rdOf ByteArray.empty t112 a0_0))) (ds:=[]) #[false,false,false,false,false,false,false,false,false,false,false] (by kernel_rfl) rfl rfl ⟨(blk_cell BK111.out 0).trans rfl,(blk_cell BK111.out 1).trans rfl,(blk_cell BK111.out 2).trans rfl,(blk_cell BK111.out 3).trans rfl,hx118_0⟩ (fun hHeld => ?_);refine with_tabW understudyref23_Print.tab4 understudyref23_Print.bits4 (fun HT_ HW_ => ?_)
            generalize wc.drew=w58 at HO_4 BK111 HB hx118_0 hHeld ⊢
            refine pure_ (i:=0) (N:=some 55) (v:=?_) (a':=?_) #[true,false,false,false,false,false,false,false,false,false,false] rfl rfl (any_of HT_.out (by kernel_rfl)) (fun _ _ _ h => h) (Or.inl ⟨by rfl,?_⟩) ?_ ?_
            rotate_left
            ·intro w'
             go_simp
             with_reducible rfl
            rotate_left
            ·simp only [Act.put,List.setIfInBounds_toArray,List.set_cons_zero,List.set_cons_succ,i64_w,i32_w]
             rfl
            refine pure_ (i:=1) (N:=some 56) (v:=?_) (a':=?_) #[true,true,false,false,false,false,false,false,false,false,false] rfl rfl (any_of HT_.out (by kernel_rfl)) (fun _ _ _ h => h) (Or.inl ⟨by rfl,?_⟩) ?_ ?_
            rotate_left
            ·intro w'
             go_simp
             with_reducible rfl
            rotate_left
            ·simp only [Act.put,List.setIfInBounds_toArray,List.set_cons_zero,List.set_cons_succ,i64_w,i32_w]
             rfl
            refine pure_ (i:=6) (N:=some 61) (v:=?_) (a':=?_) #[true,true,false,false,false,false,true,false,false,false,false] rfl rfl (any_of HT_.out (by kernel_rfl)) (fun _ _ _ h => h) (Or.inl ⟨by rfl,?_⟩) ?_ ?_
            rotate_left
            ·intro w'
             go_simp
             with_reducible rfl
            rotate_left
            ·simp only [Act.put,List.setIfInBounds_toArray,List.set_cons_zero,List.set_cons_succ,i64_w,i32_w]
             rfl
            refine take_ (i:=2) (N:=some 57) (v:=?_) (a':=?_) #[true,true,true,false,false,false,true,false,false,false,false] rfl rfl (take_ofW HT_.out HW_.out (by kernel_rfl)) (fun _ _ _ h => h) (Or.inl ⟨by rfl,?_⟩) hHeld ?_ ?_
            rotate_left
            ·rintro w' ⟨s0,s1,s2,s3,s4⟩
             go_simp
             with_reducible rfl
            rotate_left
            ·simp only [Act.put,List.setIfInBounds_toArray,List.set_cons_zero,List.set_cons_succ,i64_w,i32_w]
             rfl
            refine pure_ (i:=3) (N:=some 58) (v:=?_) (a':=?_) #[true,true,true,true,false,false,true,false,false,false,false] rfl rfl (any_of HT_.out (by kernel_rfl)) (fun _ _ _ h => h) (Or.inl ⟨by rfl,?_⟩) ?_ ?_
            rotate_left
            ·intro w'
             go_simp
             with_reducible rfl
            rotate_left
            ·simp only [Act.put,List.setIfInBounds_toArray,List.set_cons_zero,List.set_cons_succ,i64_w,i32_w]
             rfl
            refine take_ (i:=4) (N:=some 59) (v:=?_) (a':=?_) #[true,true,true,true,true,false,true,false,false,false,false] rfl rfl (take_ofW HT_.out HW_.out (by kernel_rfl)) (fun _ _ _ h => h) (Or.inl ⟨by rfl,?_⟩) hHeld ?_ ?_
            rotate_left
            ·rintro w' ⟨s0,s1,s2,s3,s4⟩
             go_simp
             with_reducible rfl
            rotate_left
            ·simp only [Act.put,List.setIfInBounds_toArray,List.set_cons_zero,List.set_cons_succ,i64_w,i32_w]
             rfl
            refine pure_ (i:=5) (N:=some 60) (v:=?_) (a':=?_) #[true,true,true,true,true,true,true,false,false,false,false] rfl rfl (any_of HT_.out (by kernel_rfl)) (fun _ _ _ h => h) (Or.inl ⟨by rfl,?_⟩) ?_ ?_
            rotate_left
            ·intro w'
             go_simp
             with_reducible rfl
            rotate_left
            ·simp only [Act.put,List.setIfInBounds_toArray,List.set_cons_zero,List.set_cons_succ,i64_w,i32_w]
             rfl
            refine take_ (i:=7) (N:=some 62) (v:=?_) (a':=?_) #[true,true,true,true,true,true,true,true,false,false,false] rfl rfl (take_ofW HT_.out HW_.out (by kernel_rfl)) (fun _ _ _ h => h) (Or.inl ⟨by rfl,?_⟩) hHeld ?_ ?_
            rotate_left
            ·rintro w' ⟨s0,s1,s2,s3,s4⟩
             go_simp
             with_reducible rfl
            rotate_left
            ·simp only [Act.put,List.setIfInBounds_toArray,List.set_cons_zero,List.set_cons_succ,i64_w,i32_w]
             rfl
            refine one_ (i:=8) (N:=some 63) #[true,true,true,true,true,true,true,true,true,false,false] rfl rfl (one_of HT_.out (by kernel_rfl)) (by decide) (fun K hK => ?_)
            refine goes_ Tryd.func15 (by kernel_rfl) rfl #[.int .i64 a0_1] (by rfl) rfl rfl (by (try simp only [List.map_toArray,List.map_cons,List.map_nil]);first|done|rfl|(simp only [List.length_drop,List.length_take];rfl)) ?_
            with_reducible refine (understudyref23_told.calls kj2 a0_1 t119 _ A41.out).mono ?_
            rintro e w60 ⟨rfl,hb⟩
            have HS4_:=(hb.cell (World.block_lt_of_cell? _ _ (hHeld.2.2.2.2))).trans (hHeld.2.2.2.2)
            refine ⟨_,rfl,?_⟩
            have n0_:=Aside0.mk (Kd.R_below (by (with_reducible repeat (first|apply Kd.R_alloc|apply Kd.R_drewN|apply Kd.R_drew));exact HO_4.out) hb)
            have n1_:=Aside0.mk (blk_below (g:=gb111) (o:=.cells #[.int .i64 a0_0,.int .i64 a0_1,.int .i64 a0_2,.int .i64 a0_3] 23 (0,0)) (by (with_reducible repeat (first|refine blk_drewN ?_ _|refine blk_drew ?_|refine blk_alloc ?_ _));exact BK111.out) hb)
            have n2_:=Aside0.mk (below_step (by repeat (first|(with_reducible first|exact HB.out|apply below_alloc|apply pw_below_drewN|apply below_drew1|refine below_set ?_ GE111.out)|exact HB.out)) hb)
            clear HO_4
            clear BK111
            clear HB
            have HO_4:=n0_
            have BK111:=n1_
            have HB:=n2_
            clear n0_ n1_ n2_
            (try clear hb)
            (try clear hb2)
            (try clear hk)
            (try clear hi)
            refine hK.out _ _ ⟨(blk_cell BK111.out 0).trans rfl,(blk_cell BK111.out 1).trans rfl,(blk_cell BK111.out 2).trans rfl,(blk_cell BK111.out 3).trans rfl,HS4_⟩ (fun hHeld => ?_)
            clear hK K
            refine norm_ (a':=?_) ?_ ?_
            rotate_left
            ·show Act.put _ (some 63) _=_
             simp only [Act.put,List.setIfInBounds_toArray,List.set_cons_zero,List.set_cons_succ,i64_w,i32_w]
             rfl
            refine pure_ (i:=9) (N:=some 64) (v:=?_) (a':=?_) #[true,true,true,true,true,true,true,true,true,true,false] rfl rfl (any_of HT_.out (by kernel_rfl)) (fun _ _ _ h => h) (Or.inl ⟨by rfl,?_⟩) ?_ ?_
            rotate_left
            ·intro w'
             go_simp
             with_reducible rfl
            rotate_left
            ·simp only [Act.put,List.setIfInBounds_toArray,List.set_cons_zero,List.set_cons_succ,i64_w,i32_w]
             rfl
            refine pure_ (i:=10) (N:=some 5) (v:=?_) (a':=?_) #[true,true,true,true,true,true,true,true,true,true,true] rfl rfl (any_of HT_.out (by kernel_rfl)) (fun _ _ _ h => h) (Or.inl ⟨by rfl,?_⟩) ?_ ?_
            rotate_left
            ·intro w'
             go_simp
             with_reducible rfl
            rotate_left
            ·simp only [Act.put,List.setIfInBounds_toArray,List.set_cons_zero,List.set_cons_succ,i64_w,i32_w]
             rfl
            refine done_ (done_of HT_.out (by kernel_rfl)) ?_
            have hcz61_0:w60.cell? ⟨gb111,0,none⟩=some (.int .i64 a0_0):=(blk_cell BK111.out 0).trans rfl
            have hcz61_1:w60.cell? ⟨gb111,1,none⟩=some (.int .i64 a0_1):=(blk_cell BK111.out 1).trans rfl
            have hcz61_2:w60.cell? ⟨gb111,2,none⟩=some (.int .i64 a0_2):=(blk_cell BK111.out 2).trans rfl
            have hcz61_3:w60.cell? ⟨gb111,3,none⟩=some (.int .i64 a0_3):=(blk_cell BK111.out 3).trans rfl
            have hfz61_0:=blk_frozen BK111.out 0
            have hfz61_1:=blk_frozen BK111.out 1
            have hfz61_2:=blk_frozen BK111.out 2
            have hfz61_3:=blk_frozen BK111.out 3
            try go_wp2_with (first|((with_reducible refine gate_callee (f:=15) rfl ?_);refine goesL_ (some 72) rfl rfl Tryd.func15 (by kernel_rfl) rfl #[.int .i64 a0_2] rfl (by (try simp only [List.map_toArray,List.map_cons,List.map_nil]);first|done|rfl|(simp only [List.length_drop,List.length_take];rfl)) ?_;(with_reducible refine (understudyref23_told.calls kj2 a0_2 t120 _ A45.out).mono ?_);rintro e w62 ⟨rfl,hb⟩;refine ⟨_,rfl,?_⟩;have n0_:=Aside0.mk (Kd.R_below (by (with_reducible repeat (first|apply Kd.R_alloc|apply Kd.R_drewN|apply Kd.R_drew));exact HO_4.out) hb);have n1_:=Aside0.mk (blk_below (g:=gb111) (o:=.cells #[.int .i64 a0_0,.int .i64 a0_1,.int .i64 a0_2,.int .i64 a0_3] 23 (0,0)) (by (with_reducible repeat (first|refine blk_drewN ?_ _|refine blk_drew ?_|refine blk_alloc ?_ _));exact BK111.out) hb);have n2_:=Aside0.mk (below_step (by repeat (first|(with_reducible first|exact HB.out|apply below_alloc|apply pw_below_drewN|apply below_drew1|refine below_set ?_ GE111.out)|exact HB.out)) hb);clear HO_4;clear BK111;clear HB;have HO_4:=n0_;have BK111:=n1_;have HB:=n2_;clear n0_ n1_ n2_;(try clear hb);(try clear hb2);(try clear hk);(try clear hi);have hcz63_0:w62.cell? ⟨gb111,0,none⟩=some (.int .i64 a0_0):=(blk_cell BK111.out 0).trans rfl;have hcz63_1:w62.cell? ⟨gb111,1,none⟩=some (.int .i64 a0_1):=(blk_cell BK111.out 1).trans rfl;have hcz63_2:w62.cell? ⟨gb111,2,none⟩=some (.int .i64 a0_2):=(blk_cell BK111.out 2).trans rfl;have hcz63_3:w62.cell? ⟨gb111,3,none⟩=some (.int .i64 a0_3):=(blk_cell BK111.out 3).trans rfl;have hfz63_0:=blk_frozen BK111.out 0;have hfz63_1:=blk_frozen BK111.out 1;have hfz63_2:=blk_frozen BK111.out 2;have hfz63_3:=blk_frozen BK111.out 3))
            go_ret2
            exact ⟨by first|rfl|(simp [errW_none,errW_some] <;> rfl)|(simp [*,errW_none,errW_some] <;> rfl),by repeat (first|(with_reducible first|exact HB.out|apply below_alloc|apply pw_below_drewN|apply below_drew1|refine below_set ?_ GE111.out)|exact HB.out)⟩
          ·rw [if_neg c46] at H
           exact absurd H (by simp)
         ·rw [if_neg c44] at H
          exact absurd H (by simp)
        ·rw [if_neg c43] at H
         have c43b0:(a0_0==0)=false:=beq_eq_false_iff_ne.mpr c43
         have c43b1:(a0_0 != 0)=true:=bne_iff_ne.mpr c43
         by_cases c64:a0_0≤2
         ·rw [if_pos c64] at H
          have c64b0:decide (a0_0≤2)=true:=decide_eq_true c64
          clear c64
          by_cases c65:(((rdOf ByteArray.empty t112 a0_0)++(⟨#[32]⟩:ByteArray))++t119).size + 1≤9223372036854775807
          ·rw [if_pos c65] at H
           have c65b0:=eq_true c65
           have c65b1:decide ((((rdOf ByteArray.empty t112 a0_0)++(⟨#[32]⟩:ByteArray))++t119).size + 1≤9223372036854775807)=true:=decide_eq_true c65
           have c65w:=c65
           try simp only [ByteArray.size_append,show (⟨#[32]⟩:ByteArray).size=1 from rfl] at c65w
           have c65w1:=Nat.not_lt.2 c65w
           have c65w2:=eq_false c65w1
           have c65w0:=eq_true c65w
           have c65w3:=decide_eq_true c65w
           try have c65b2:(9223372036854775807 < (((rdOf ByteArray.empty t112 a0_0)++(⟨#[32]⟩:ByteArray))++t119).size + 1)=False:=eq_false (Nat.not_lt.2 c65)
           replace H:=Option.bind_eq_some_iff.mp H
           obtain ⟨t122,A660,H⟩:=H
           replace H:(if ((((rdOf ByteArray.empty t112 a0_0)++(⟨#[32]⟩:ByteArray))++t119)++(⟨#[32]⟩:ByteArray)).size + t122.size≤9223372036854775807 then (some (((((rdOf ByteArray.empty t112 a0_0)++(⟨#[32]⟩:ByteArray))++t119)++(⟨#[32]⟩:ByteArray))++t122,0)) else (none))=some (r1,r2):=H
           have A66:=Aside0.mk A660
           clear A660
           by_cases c67:((((rdOf ByteArray.empty t112 a0_0)++(⟨#[32]⟩:ByteArray))++t119)++(⟨#[32]⟩:ByteArray)).size + t122.size≤9223372036854775807
           ·rw [if_pos c67] at H
            have c67b0:=eq_true c67
            have c67b1:decide (((((rdOf ByteArray.empty t112 a0_0)++(⟨#[32]⟩:ByteArray))++t119)++(⟨#[32]⟩:ByteArray)).size + t122.size≤9223372036854775807)=true:=decide_eq_true c67
            have c67w:=c67
            try simp only [ByteArray.size_append,show (⟨#[32]⟩:ByteArray).size=1 from rfl] at c67w
            have c67w1:=Nat.not_lt.2 c67w
            have c67w2:=eq_false c67w1
            have c67w0:=eq_true c67w
            have c67w3:=decide_eq_true c67w
            try have c67b2:(9223372036854775807 < ((((rdOf ByteArray.empty t112 a0_0)++(⟨#[32]⟩:ByteArray))++t119)++(⟨#[32]⟩:ByteArray)).size + t122.size)=False:=eq_false (Nat.not_lt.2 c67)
            simp only [Option.some.injEq,Prod.mk.injEq] at H
            obtain ⟨rfl,rfl⟩:=H
            try go_wp2
            have n0_:=Aside0.mk (Kd.R_drew HO_4.out)
            have n1_:=Aside0.mk (blk_drew BK111.out)
            have n2_:=Aside0.mk (below_drew1 HB.out)
            clear HO_4
            clear BK111
            clear HB
            have HO_4:=n0_
            have BK111:=n1_
            have HB:=n2_
            clear n0_ n1_ n2_
            obtain ⟨Ao69,co69,eo69⟩:=Kd.R_slice HO_4.out
            (first|subst eo69|(injection eo69 with f1_ f2_ f3_;have f4_:=f1_.symm;have f5_:=f3_.symm;clear f1_ f2_ f3_;subst f4_;subst f5_))
            have p118:0≤(a0_0:Int):=of_decide_eq_true (by first|(with_reducible assumption)|assumption)
            have q118:a0_0 < (t112.length:Int):=of_decide_eq_true (by first|(with_reducible assumption)|assumption)
            obtain ⟨ad118,e118,hx118_0⟩:=Kd.at_string (Kd.R_reads' HO_4.out).2.2 a0_0 p118 q118
            cases e118
            replace p118:=eq_true p118
            replace q118:=eq_true q118
            refine start_ (n:=11) (S:=fun w' => w'.cell? ⟨gb111,0,none⟩=some (.int .i64 a0_0)∧w'.cell? ⟨gb111,1,none⟩=some (.int .i64 a0_1)∧w'.cell? ⟨gb111,2,none⟩=some (.int .i64 a0_2)∧w'.cell? ⟨gb111,3,none⟩=some (.int .i64 a0_3)∧w'.cell? (ad118.add (a0_0).toNat)=some (.string (rdOf ByteArray.empty t112 a0_0))) (ds:=[]) #[false,false,false,false,false,false,false,false,false,false,false] (by kernel_rfl) rfl rfl ⟨(blk_cell BK111.out 0).trans rfl,(blk_cell BK111.out 1).trans rfl,(blk_cell BK111.out 2).trans rfl,(blk_cell BK111.out 3).trans rfl,hx118_0⟩ (fun hHeld => ?_);refine with_tabW understudyref23_Print.tab4 understudyref23_Print.bits4 (fun HT_ HW_ => ?_)
            generalize wc.drew=w68 at HO_4 BK111 HB hx118_0 hHeld ⊢
            refine pure_ (i:=0) (N:=some 55) (v:=?_) (a':=?_) #[true,false,false,false,false,false,false,false,false,false,false] rfl rfl (any_of HT_.out (by kernel_rfl)) (fun _ _ _ h => h) (Or.inl ⟨by rfl,?_⟩) ?_ ?_
            rotate_left
            ·intro w'
             go_simp
             with_reducible rfl
            rotate_left
            ·simp only [Act.put,List.setIfInBounds_toArray,List.set_cons_zero,List.set_cons_succ,i64_w,i32_w]
             rfl
            refine pure_ (i:=1) (N:=some 56) (v:=?_) (a':=?_) #[true,true,false,false,false,false,false,false,false,false,false] rfl rfl (any_of HT_.out (by kernel_rfl)) (fun _ _ _ h => h) (Or.inl ⟨by rfl,?_⟩) ?_ ?_
            rotate_left
            ·intro w'
             go_simp
             with_reducible rfl
            rotate_left
            ·simp only [Act.put,List.setIfInBounds_toArray,List.set_cons_zero,List.set_cons_succ,i64_w,i32_w]
             rfl
            refine pure_ (i:=6) (N:=some 61) (v:=?_) (a':=?_) #[true,true,false,false,false,false,true,false,false,false,false] rfl rfl (any_of HT_.out (by kernel_rfl)) (fun _ _ _ h => h) (Or.inl ⟨by rfl,?_⟩) ?_ ?_
            rotate_left
            ·intro w'
             go_simp
             with_reducible rfl
            rotate_left
            ·simp only [Act.put,List.setIfInBounds_toArray,List.set_cons_zero,List.set_cons_succ,i64_w,i32_w]
             rfl
            refine take_ (i:=2) (N:=some 57) (v:=?_) (a':=?_) #[true,true,true,false,false,false,true,false,false,false,false] rfl rfl (take_ofW HT_.out HW_.out (by kernel_rfl)) (fun _ _ _ h => h) (Or.inl ⟨by rfl,?_⟩) hHeld ?_ ?_
            rotate_left
            ·rintro w' ⟨s0,s1,s2,s3,s4⟩
             go_simp
             with_reducible rfl
            rotate_left
            ·simp only [Act.put,List.setIfInBounds_toArray,List.set_cons_zero,List.set_cons_succ,i64_w,i32_w]
             rfl
            refine pure_ (i:=3) (N:=some 58) (v:=?_) (a':=?_) #[true,true,true,true,false,false,true,false,false,false,false] rfl rfl (any_of HT_.out (by kernel_rfl)) (fun _ _ _ h => h) (Or.inl ⟨by rfl,?_⟩) ?_ ?_
            rotate_left
            ·intro w'
             go_simp
             with_reducible rfl
            rotate_left
            ·simp only [Act.put,List.setIfInBounds_toArray,List.set_cons_zero,List.set_cons_succ,i64_w,i32_w]
             rfl
            refine take_ (i:=4) (N:=some 59) (v:=?_) (a':=?_) #[true,true,true,true,true,false,true,false,false,false,false] rfl rfl (take_ofW HT_.out HW_.out (by kernel_rfl)) (fun _ _ _ h => h) (Or.inl ⟨by rfl,?_⟩) hHeld ?_ ?_
            rotate_left
            ·rintro w' ⟨s0,s1,s2,s3,s4⟩
             go_simp
             with_reducible rfl
            rotate_left
            ·simp only [Act.put,List.setIfInBounds_toArray,List.set_cons_zero,List.set_cons_succ,i64_w,i32_w]
             rfl
            refine pure_ (i:=5) (N:=some 60) (v:=?_) (a':=?_) #[true,true,true,true,true,true,true,false,false,false,false] rfl rfl (any_of HT_.out (by kernel_rfl)) (fun _ _ _ h => h) (Or.inl ⟨by rfl,?_⟩) ?_ ?_
            rotate_left
            ·intro w'
             go_simp
             with_reducible rfl
            rotate_left
            ·simp only [Act.put,List.setIfInBounds_toArray,List.set_cons_zero,List.set_cons_succ,i64_w,i32_w]
             rfl
            refine take_ (i:=7) (N:=some 62) (v:=?_) (a':=?_) #[true,true,true,true,true,true,true,true,false,false,false] rfl rfl (take_ofW HT_.out HW_.out (by kernel_rfl)) (fun _ _ _ h => h) (Or.inl ⟨by rfl,?_⟩) hHeld ?_ ?_
            rotate_left
            ·rintro w' ⟨s0,s1,s2,s3,s4⟩
             go_simp
             with_reducible rfl
            rotate_left
            ·simp only [Act.put,List.setIfInBounds_toArray,List.set_cons_zero,List.set_cons_succ,i64_w,i32_w]
             rfl
            refine one_ (i:=8) (N:=some 63) #[true,true,true,true,true,true,true,true,true,false,false] rfl rfl (one_of HT_.out (by kernel_rfl)) (by decide) (fun K hK => ?_)
            refine goes_ Tryd.func15 (by kernel_rfl) rfl #[.int .i64 a0_1] (by rfl) rfl rfl (by (try simp only [List.map_toArray,List.map_cons,List.map_nil]);first|done|rfl|(simp only [List.length_drop,List.length_take];rfl)) ?_
            with_reducible refine (understudyref23_told.calls kj2 a0_1 t119 _ A41.out).mono ?_
            rintro e w70 ⟨rfl,hb⟩
            have HS4_:=(hb.cell (World.block_lt_of_cell? _ _ (hHeld.2.2.2.2))).trans (hHeld.2.2.2.2)
            refine ⟨_,rfl,?_⟩
            have n0_:=Aside0.mk (Kd.R_below (by (with_reducible repeat (first|apply Kd.R_alloc|apply Kd.R_drewN|apply Kd.R_drew));exact HO_4.out) hb)
            have n1_:=Aside0.mk (blk_below (g:=gb111) (o:=.cells #[.int .i64 a0_0,.int .i64 a0_1,.int .i64 a0_2,.int .i64 a0_3] 23 (0,0)) (by (with_reducible repeat (first|refine blk_drewN ?_ _|refine blk_drew ?_|refine blk_alloc ?_ _));exact BK111.out) hb)
            have n2_:=Aside0.mk (below_step (by repeat (first|(with_reducible first|exact HB.out|apply below_alloc|apply pw_below_drewN|apply below_drew1|refine below_set ?_ GE111.out)|exact HB.out)) hb)
            clear HO_4
            clear BK111
            clear HB
            have HO_4:=n0_
            have BK111:=n1_
            have HB:=n2_
            clear n0_ n1_ n2_
            (try clear hb)
            (try clear hb2)
            (try clear hk)
            (try clear hi)
            refine hK.out _ _ ⟨(blk_cell BK111.out 0).trans rfl,(blk_cell BK111.out 1).trans rfl,(blk_cell BK111.out 2).trans rfl,(blk_cell BK111.out 3).trans rfl,HS4_⟩ (fun hHeld => ?_)
            clear hK K
            refine norm_ (a':=?_) ?_ ?_
            rotate_left
            ·show Act.put _ (some 63) _=_
             simp only [Act.put,List.setIfInBounds_toArray,List.set_cons_zero,List.set_cons_succ,i64_w,i32_w]
             rfl
            refine pure_ (i:=9) (N:=some 64) (v:=?_) (a':=?_) #[true,true,true,true,true,true,true,true,true,true,false] rfl rfl (any_of HT_.out (by kernel_rfl)) (fun _ _ _ h => h) (Or.inl ⟨by rfl,?_⟩) ?_ ?_
            rotate_left
            ·intro w'
             go_simp
             with_reducible rfl
            rotate_left
            ·simp only [Act.put,List.setIfInBounds_toArray,List.set_cons_zero,List.set_cons_succ,i64_w,i32_w]
             rfl
            refine pure_ (i:=10) (N:=some 5) (v:=?_) (a':=?_) #[true,true,true,true,true,true,true,true,true,true,true] rfl rfl (any_of HT_.out (by kernel_rfl)) (fun _ _ _ h => h) (Or.inl ⟨by rfl,?_⟩) ?_ ?_
            rotate_left
            ·intro w'
             go_simp
             with_reducible rfl
            rotate_left
            ·simp only [Act.put,List.setIfInBounds_toArray,List.set_cons_zero,List.set_cons_succ,i64_w,i32_w]
             rfl
            refine done_ (done_of HT_.out (by kernel_rfl)) ?_
            have hcz71_0:w70.cell? ⟨gb111,0,none⟩=some (.int .i64 a0_0):=(blk_cell BK111.out 0).trans rfl
            have hcz71_1:w70.cell? ⟨gb111,1,none⟩=some (.int .i64 a0_1):=(blk_cell BK111.out 1).trans rfl
            have hcz71_2:w70.cell? ⟨gb111,2,none⟩=some (.int .i64 a0_2):=(blk_cell BK111.out 2).trans rfl
            have hcz71_3:w70.cell? ⟨gb111,3,none⟩=some (.int .i64 a0_3):=(blk_cell BK111.out 3).trans rfl
            have hfz71_0:=blk_frozen BK111.out 0
            have hfz71_1:=blk_frozen BK111.out 1
            have hfz71_2:=blk_frozen BK111.out 2
            have hfz71_3:=blk_frozen BK111.out 3
            try go_wp2_with (first|((with_reducible refine gate_callee (f:=15) rfl ?_);refine goesL_ (some 81) rfl rfl Tryd.func15 (by kernel_rfl) rfl #[.int .i64 a0_3] rfl (by (try simp only [List.map_toArray,List.map_cons,List.map_nil]);first|done|rfl|(simp only [List.length_drop,List.length_take];rfl)) ?_;(with_reducible refine (understudyref23_told.calls kj2 a0_3 t122 _ A66.out).mono ?_);rintro e w72 ⟨rfl,hb⟩;refine ⟨_,rfl,?_⟩;have n0_:=Aside0.mk (Kd.R_below (by (with_reducible repeat (first|apply Kd.R_alloc|apply Kd.R_drewN|apply Kd.R_drew));exact HO_4.out) hb);have n1_:=Aside0.mk (blk_below (g:=gb111) (o:=.cells #[.int .i64 a0_0,.int .i64 a0_1,.int .i64 a0_2,.int .i64 a0_3] 23 (0,0)) (by (with_reducible repeat (first|refine blk_drewN ?_ _|refine blk_drew ?_|refine blk_alloc ?_ _));exact BK111.out) hb);have n2_:=Aside0.mk (below_step (by repeat (first|(with_reducible first|exact HB.out|apply below_alloc|apply pw_below_drewN|apply below_drew1|refine below_set ?_ GE111.out)|exact HB.out)) hb);clear HO_4;clear BK111;clear HB;have HO_4:=n0_;have BK111:=n1_;have HB:=n2_;clear n0_ n1_ n2_;(try clear hb);(try clear hb2);(try clear hk);(try clear hi)))
            go_ret2
            exact ⟨by first|rfl|(simp [errW_none,errW_some] <;> rfl)|(simp [*,errW_none,errW_some] <;> rfl),by repeat (first|(with_reducible first|exact HB.out|apply below_alloc|apply pw_below_drewN|apply below_drew1|refine below_set ?_ GE111.out)|exact HB.out)⟩
           ·rw [if_neg c67] at H
            exact absurd H (by simp)
          ·rw [if_neg c65] at H
           exact absurd H (by simp)
         ·rw [if_neg c64] at H
          have c64b0:decide (a0_0≤2)=false:=decide_eq_false c64
          clear c64
          simp only [Option.some.injEq,Prod.mk.injEq] at H
          obtain ⟨rfl,rfl⟩:=H
          try go_wp2
          have n0_:=Aside0.mk (Kd.R_drew HO_4.out)
          have n1_:=Aside0.mk (blk_drew BK111.out)
          have n2_:=Aside0.mk (below_drew1 HB.out)
          clear HO_4
          clear BK111
          clear HB
          have HO_4:=n0_
          have BK111:=n1_
          have HB:=n2_
          clear n0_ n1_ n2_
          obtain ⟨Ao74,co74,eo74⟩:=Kd.R_slice HO_4.out
          (first|subst eo74|(injection eo74 with f1_ f2_ f3_;have f4_:=f1_.symm;have f5_:=f3_.symm;clear f1_ f2_ f3_;subst f4_;subst f5_))
          have p118:0≤(a0_0:Int):=of_decide_eq_true (by first|(with_reducible assumption)|assumption)
          have q118:a0_0 < (t112.length:Int):=of_decide_eq_true (by first|(with_reducible assumption)|assumption)
          obtain ⟨ad118,e118,hx118_0⟩:=Kd.at_string (Kd.R_reads' HO_4.out).2.2 a0_0 p118 q118
          cases e118
          replace p118:=eq_true p118
          replace q118:=eq_true q118
          refine start_ (n:=11) (S:=fun w' => w'.cell? ⟨gb111,0,none⟩=some (.int .i64 a0_0)∧w'.cell? ⟨gb111,1,none⟩=some (.int .i64 a0_1)∧w'.cell? ⟨gb111,2,none⟩=some (.int .i64 a0_2)∧w'.cell? ⟨gb111,3,none⟩=some (.int .i64 a0_3)∧w'.cell? (ad118.add (a0_0).toNat)=some (.string (rdOf ByteArray.empty t112 a0_0))) (ds:=[]) #[false,false,false,false,false,false,false,false,false,false,false] (by kernel_rfl) rfl rfl ⟨(blk_cell BK111.out 0).trans rfl,(blk_cell BK111.out 1).trans rfl,(blk_cell BK111.out 2).trans rfl,(blk_cell BK111.out 3).trans rfl,hx118_0⟩ (fun hHeld => ?_);refine with_tabW understudyref23_Print.tab4 understudyref23_Print.bits4 (fun HT_ HW_ => ?_)
          generalize wc.drew=w73 at HO_4 BK111 HB hx118_0 hHeld ⊢
          refine pure_ (i:=0) (N:=some 55) (v:=?_) (a':=?_) #[true,false,false,false,false,false,false,false,false,false,false] rfl rfl (any_of HT_.out (by kernel_rfl)) (fun _ _ _ h => h) (Or.inl ⟨by rfl,?_⟩) ?_ ?_
          rotate_left
          ·intro w'
           go_simp
           with_reducible rfl
          rotate_left
          ·simp only [Act.put,List.setIfInBounds_toArray,List.set_cons_zero,List.set_cons_succ,i64_w,i32_w]
           rfl
          refine pure_ (i:=1) (N:=some 56) (v:=?_) (a':=?_) #[true,true,false,false,false,false,false,false,false,false,false] rfl rfl (any_of HT_.out (by kernel_rfl)) (fun _ _ _ h => h) (Or.inl ⟨by rfl,?_⟩) ?_ ?_
          rotate_left
          ·intro w'
           go_simp
           with_reducible rfl
          rotate_left
          ·simp only [Act.put,List.setIfInBounds_toArray,List.set_cons_zero,List.set_cons_succ,i64_w,i32_w]
           rfl
          refine pure_ (i:=6) (N:=some 61) (v:=?_) (a':=?_) #[true,true,false,false,false,false,true,false,false,false,false] rfl rfl (any_of HT_.out (by kernel_rfl)) (fun _ _ _ h => h) (Or.inl ⟨by rfl,?_⟩) ?_ ?_
          rotate_left
          ·intro w'
           go_simp
           with_reducible rfl
          rotate_left
          ·simp only [Act.put,List.setIfInBounds_toArray,List.set_cons_zero,List.set_cons_succ,i64_w,i32_w]
           rfl
          refine take_ (i:=2) (N:=some 57) (v:=?_) (a':=?_) #[true,true,true,false,false,false,true,false,false,false,false] rfl rfl (take_ofW HT_.out HW_.out (by kernel_rfl)) (fun _ _ _ h => h) (Or.inl ⟨by rfl,?_⟩) hHeld ?_ ?_
          rotate_left
          ·rintro w' ⟨s0,s1,s2,s3,s4⟩
           go_simp
           with_reducible rfl
          rotate_left
          ·simp only [Act.put,List.setIfInBounds_toArray,List.set_cons_zero,List.set_cons_succ,i64_w,i32_w]
           rfl
          refine pure_ (i:=3) (N:=some 58) (v:=?_) (a':=?_) #[true,true,true,true,false,false,true,false,false,false,false] rfl rfl (any_of HT_.out (by kernel_rfl)) (fun _ _ _ h => h) (Or.inl ⟨by rfl,?_⟩) ?_ ?_
          rotate_left
          ·intro w'
           go_simp
           with_reducible rfl
          rotate_left
          ·simp only [Act.put,List.setIfInBounds_toArray,List.set_cons_zero,List.set_cons_succ,i64_w,i32_w]
           rfl
          refine take_ (i:=4) (N:=some 59) (v:=?_) (a':=?_) #[true,true,true,true,true,false,true,false,false,false,false] rfl rfl (take_ofW HT_.out HW_.out (by kernel_rfl)) (fun _ _ _ h => h) (Or.inl ⟨by rfl,?_⟩) hHeld ?_ ?_
          rotate_left
          ·rintro w' ⟨s0,s1,s2,s3,s4⟩
           go_simp
           with_reducible rfl
          rotate_left
          ·simp only [Act.put,List.setIfInBounds_toArray,List.set_cons_zero,List.set_cons_succ,i64_w,i32_w]
           rfl
          refine pure_ (i:=5) (N:=some 60) (v:=?_) (a':=?_) #[true,true,true,true,true,true,true,false,false,false,false] rfl rfl (any_of HT_.out (by kernel_rfl)) (fun _ _ _ h => h) (Or.inl ⟨by rfl,?_⟩) ?_ ?_
          rotate_left
          ·intro w'
           go_simp
           with_reducible rfl
          rotate_left
          ·simp only [Act.put,List.setIfInBounds_toArray,List.set_cons_zero,List.set_cons_succ,i64_w,i32_w]
           rfl
          refine take_ (i:=7) (N:=some 62) (v:=?_) (a':=?_) #[true,true,true,true,true,true,true,true,false,false,false] rfl rfl (take_ofW HT_.out HW_.out (by kernel_rfl)) (fun _ _ _ h => h) (Or.inl ⟨by rfl,?_⟩) hHeld ?_ ?_
          rotate_left
          ·rintro w' ⟨s0,s1,s2,s3,s4⟩
           go_simp
           with_reducible rfl
          rotate_left
          ·simp only [Act.put,List.setIfInBounds_toArray,List.set_cons_zero,List.set_cons_succ,i64_w,i32_w]
           rfl
          refine one_ (i:=8) (N:=some 63) #[true,true,true,true,true,true,true,true,true,false,false] rfl rfl (one_of HT_.out (by kernel_rfl)) (by decide) (fun K hK => ?_)
          refine goes_ Tryd.func15 (by kernel_rfl) rfl #[.int .i64 a0_1] (by rfl) rfl rfl (by (try simp only [List.map_toArray,List.map_cons,List.map_nil]);first|done|rfl|(simp only [List.length_drop,List.length_take];rfl)) ?_
          with_reducible refine (understudyref23_told.calls kj2 a0_1 t119 _ A41.out).mono ?_
          rintro e w75 ⟨rfl,hb⟩
          have HS4_:=(hb.cell (World.block_lt_of_cell? _ _ (hHeld.2.2.2.2))).trans (hHeld.2.2.2.2)
          refine ⟨_,rfl,?_⟩
          have n0_:=Aside0.mk (Kd.R_below (by (with_reducible repeat (first|apply Kd.R_alloc|apply Kd.R_drewN|apply Kd.R_drew));exact HO_4.out) hb)
          have n1_:=Aside0.mk (blk_below (g:=gb111) (o:=.cells #[.int .i64 a0_0,.int .i64 a0_1,.int .i64 a0_2,.int .i64 a0_3] 23 (0,0)) (by (with_reducible repeat (first|refine blk_drewN ?_ _|refine blk_drew ?_|refine blk_alloc ?_ _));exact BK111.out) hb)
          have n2_:=Aside0.mk (below_step (by repeat (first|(with_reducible first|exact HB.out|apply below_alloc|apply pw_below_drewN|apply below_drew1|refine below_set ?_ GE111.out)|exact HB.out)) hb)
          clear HO_4
          clear BK111
          clear HB
          have HO_4:=n0_
          have BK111:=n1_
          have HB:=n2_
          clear n0_ n1_ n2_
          (try clear hb)
          (try clear hb2)
          (try clear hk)
          (try clear hi)
          refine hK.out _ _ ⟨(blk_cell BK111.out 0).trans rfl,(blk_cell BK111.out 1).trans rfl,(blk_cell BK111.out 2).trans rfl,(blk_cell BK111.out 3).trans rfl,HS4_⟩ (fun hHeld => ?_)
          clear hK K
          refine norm_ (a':=?_) ?_ ?_
          rotate_left
          ·show Act.put _ (some 63) _=_
           simp only [Act.put,List.setIfInBounds_toArray,List.set_cons_zero,List.set_cons_succ,i64_w,i32_w]
           rfl
          refine pure_ (i:=9) (N:=some 64) (v:=?_) (a':=?_) #[true,true,true,true,true,true,true,true,true,true,false] rfl rfl (any_of HT_.out (by kernel_rfl)) (fun _ _ _ h => h) (Or.inl ⟨by rfl,?_⟩) ?_ ?_
          rotate_left
          ·intro w'
           go_simp
           with_reducible rfl
          rotate_left
          ·simp only [Act.put,List.setIfInBounds_toArray,List.set_cons_zero,List.set_cons_succ,i64_w,i32_w]
           rfl
          refine pure_ (i:=10) (N:=some 5) (v:=?_) (a':=?_) #[true,true,true,true,true,true,true,true,true,true,true] rfl rfl (any_of HT_.out (by kernel_rfl)) (fun _ _ _ h => h) (Or.inl ⟨by rfl,?_⟩) ?_ ?_
          rotate_left
          ·intro w'
           go_simp
           with_reducible rfl
          rotate_left
          ·simp only [Act.put,List.setIfInBounds_toArray,List.set_cons_zero,List.set_cons_succ,i64_w,i32_w]
           rfl
          refine done_ (done_of HT_.out (by kernel_rfl)) ?_
          have hcz76_0:w75.cell? ⟨gb111,0,none⟩=some (.int .i64 a0_0):=(blk_cell BK111.out 0).trans rfl
          have hcz76_1:w75.cell? ⟨gb111,1,none⟩=some (.int .i64 a0_1):=(blk_cell BK111.out 1).trans rfl
          have hcz76_2:w75.cell? ⟨gb111,2,none⟩=some (.int .i64 a0_2):=(blk_cell BK111.out 2).trans rfl
          have hcz76_3:w75.cell? ⟨gb111,3,none⟩=some (.int .i64 a0_3):=(blk_cell BK111.out 3).trans rfl
          have hfz76_0:=blk_frozen BK111.out 0
          have hfz76_1:=blk_frozen BK111.out 1
          have hfz76_2:=blk_frozen BK111.out 2
          have hfz76_3:=blk_frozen BK111.out 3
          try go_wp2
          go_ret2
          exact ⟨by first|rfl|(simp [errW_none,errW_some] <;> rfl)|(simp [*,errW_none,errW_some] <;> rfl),by repeat (first|(with_reducible first|exact HB.out|apply below_alloc|apply pw_below_drewN|apply below_drew1|refine below_set ?_ GE111.out)|exact HB.out)⟩
       ·rw [if_neg c42] at H
        exact absurd H (by simp)
      ·rw [if_neg c40] at H
       exact absurd H (by simp)
     ·rw [if_neg c39] at H
      exact absurd H (by simp)
    ·rw [if_neg c38] at H
     exact absurd H (by simp)
end Go.Proofs.YteooddfilnijgaaDoor.Px
namespace Go.Proofs.YteooddfilnijgaaDoor.Px
open Go.RowKit Go.Lib Go.Proofs.YteooddfilnijgaaDoorW.PrintWords Go.Proofs.YteooddfilnijgaaDoorW.PrintLast Go.Proofs.YteooddfilnijgaaDoorW.PrintMore
set_option linter.unusedVariables false
set_option linter.unusedSimpArgs false
def numV (s:ByteArray):Int × Bool:=match Lib.parseIntB 64 s.data.toList with
 | .ok v => (v,decide ((Lib.trimPrefix s.data.toList [45]).length≤18) && (Lib.itoa v==s.toList))
 | .«syntax» => (0,false)
 | .range => (Lib.intSat 64 s.data.toList,false)
set_option maxHeartbeats 8000000 in
set_option maxRecDepth 100000 in
theorem number.calls (s:ByteArray) (w:World) (hs:s.size≤281474976710656) (hG:Aside0 (GG w)) :
  Calls Tryd.prog 12 #[.string s] w fun e w' => e=.returned (.tuple #[.int .i64 (numV s).1,.bool (numV s).2])∧Below w.heap.size w w':=by
 have hn:∀ w:World,(binOp BinOp.eql 51 .nilIface .nilIface).run Tryd.prog w=.ok (.bool true) w:=fun _ => by kernel_rfl
 have HSZ:=Aside0.mk hs
 cases hp:Lib.parseIntB 64 s.data.toList with
 | «syntax» =>
  have e1:numV s=(0,false):=by unfold numV;rw [hp]
  rw [e1]
  obtain ⟨te,pe,hv⟩:=hG.out.es
  have HC:=Aside0.mk (Tryd.strconv_ParseInt_10_at64_syntax s hs hp _ w hv (.inr ⟨te,pe,rfl⟩))
  clear hp e1 hs hv
  go_enter Tryd.func12,Tryd.ntmps12
  go_wp2_with fail
  refine HC.out.mono ?_
  rintro e w1 ⟨N,rfl,_,_,hb⟩
  have HB:=Aside0.mk hb
  clear HC hb
  go_wp2
  go_ret2
  exact ⟨rfl,HB.out⟩
 | range =>
  have e1:numV s=(Lib.intSat 64 s.data.toList,false):=by unfold numV;rw [hp]
  rw [e1]
  obtain ⟨te,pe,hv⟩:=hG.out.er
  have HC:=Aside0.mk (Tryd.strconv_ParseInt_10_at64_range s hs hp _ w hv (.inr ⟨te,pe,rfl⟩))
  clear hp e1 hs hv
  go_enter Tryd.func12,Tryd.ntmps12
  go_wp2_with fail
  refine HC.out.mono ?_
  rintro e w1 ⟨N,rfl,_,_,hb⟩
  have HB:=Aside0.mk hb
  clear HC hb
  go_wp2
  go_ret2
  exact ⟨rfl,HB.out⟩
 | ok v =>
  have hvb:=Lib.parseIntB_bounds hp
  have HC:=Aside0.mk (Tryd.strconv_ParseInt_10_at64_ok s (by omega) v hp w)
  have HV:Aside0 (-9223372036854775808≤v∧v≤9223372036854775807):=⟨by simp at hvb;omega⟩
  clear hvb
  by_cases hl:(Lib.trimPrefix s.data.toList [45]).length≤18
  ·have e1:numV s=(v,(Lib.itoa v==s.toList)):=by unfold numV;rw [hp];simp only [hl,decide_true,Bool.true_and]
   rw [e1]
   have hl1:decide ((Lib.trimPrefix s.data.toList [45]).length≤18)=true:=decide_eq_true hl
   have hl2:decide (((Lib.trimPrefix s.data.toList [45]).length:Int)≤18)=true:=decide_eq_true (by omega)
   clear hp e1 hs hl
   go_enter Tryd.func12,Tryd.ntmps12
   go_wp2_with fail
   refine HC.out.mono ?_
   rintro e w1 ⟨rfl,hw⟩
   have HB:=Aside0.mk (show Below w.heap.size w w1 from by
    rcases hw with rfl|⟨t,rfl⟩
    ·exact Below.refl _ _
    ·exact bytes_below (Below.refl _ _) (Nat.le_refl _) _ _)
   clear HC hw
   go_wp2_with fail
   refine (Tryd.strings_TrimPrefix s ⟨#[45]⟩ w1).mono ?_
   rintro e w2 ⟨rfl,rfl⟩
   go_wp2_with fail
   refine (Tryd.strconv_FormatInt_10 v HV.out.1 HV.out.2 _ (tab_below hG.out.tab HB.out)).mono ?_
   rintro e w3 ⟨rfl,n,os,hw⟩
   have HB3:=Aside0.mk (show Below w.heap.size w w3 from by rw [hw];exact HB.out.trans ((pw_below_drewN (Below.refl _ _) n |>.trans (grow_below _ os)).mono HB.out.size))
   clear hw hl1 hl2
   go_wp2
   go_ret2
   exact ⟨rfl,HB3.out⟩
  ·have e1:numV s=(v,false):=by unfold numV;rw [hp];simp only [hl,decide_false,Bool.false_and]
   rw [e1]
   have hl1:decide ((Lib.trimPrefix s.data.toList [45]).length≤18)=false:=decide_eq_false hl
   have hl2:decide (((Lib.trimPrefix s.data.toList [45]).length:Int)≤18)=false:=decide_eq_false (by omega)
   clear hp e1 hs hl
   go_enter Tryd.func12,Tryd.ntmps12
   go_wp2_with fail
   refine HC.out.mono ?_
   rintro e w1 ⟨rfl,hw⟩
   have HB:=Aside0.mk (show Below w.heap.size w w1 from by
    rcases hw with rfl|⟨t,rfl⟩
    ·exact Below.refl _ _
    ·exact bytes_below (Below.refl _ _) (Nat.le_refl _) _ _)
   clear HC hw
   go_wp2_with fail
   refine (Tryd.strings_TrimPrefix s ⟨#[45]⟩ w1).mono ?_
   rintro e w2 ⟨rfl,rfl⟩
   go_wp2
   go_ret2
   exact ⟨rfl,HB.out⟩
end Go.Proofs.YteooddfilnijgaaDoor.Px
namespace Go.Proofs.YteooddfilnijgaaDoor.Px
open Go.Lib
set_option linter.unusedVariables false
set_option linter.unusedSimpArgs false
theorem digit_nat {d:Nat} (h:d < 10):(UInt8.ofNat (48 + d)).toNat=48 + d:=by
 rw [UInt8.toNat_ofNat']
 omega
theorem dec_digits:∀ (u:Nat),∀ c ∈ decDigits u,48≤c.toNat∧c.toNat≤57:=by
 intro u
 induction u using Nat.strongRecOn with
 | _ u ih =>
  intro c hc
  rw [decDigits] at hc
  by_cases h:u < 10
  ·rw [dif_pos h,List.mem_singleton] at hc
   rw [hc,digit_nat h];omega
  ·rw [dif_neg h] at hc
   rcases List.mem_append.1 hc with q|q
   ·exact ih (u / 10) (by omega) c q
   ·rw [List.mem_singleton.1 q,digit_nat (by omega)];omega
theorem dec_ne (u:Nat):decDigits u ≠ []:=by
 intro h
 have:=congrArg List.length h
 rw [decDigits_length,List.length_nil] at this
 have:=nDigits_pos u
 omega
theorem parseM_snoc (M:Nat):∀ (l:List UInt8) (acc a:Nat) (c:UInt8),parseUintM M acc l=.ok a→48≤c.toNat∧c.toNat≤57→a < 1844674407370955162→a * 10 + (c.toNat - 48)≤M→parseUintM M acc (l++[c])=.ok (a * 10 + (c.toNat - 48))
 | [],acc,a,c,h,hc,ha,hM => by
  unfold parseUintM at h
  injection h with h
  subst h
  rw [List.nil_append]
  unfold parseUintM
  rw [if_pos hc,if_neg (by omega),if_neg (by omega)]
  unfold parseUintM
  rfl
 | d :: r,acc,a,c,h,hc,ha,hM => by
  rw [List.cons_append]
  unfold parseUintM at h ⊢
  by_cases h1:48≤d.toNat∧d.toNat≤57
  ·rw [if_pos h1] at h ⊢
   by_cases h2:1844674407370955162≤acc
   ·rw [if_pos h2] at h;cases h
   ·rw [if_neg h2] at h ⊢
    by_cases h3:M < acc * 10 + (d.toNat - 48)
    ·rw [if_pos h3] at h;cases h
    ·rw [if_neg h3] at h ⊢
     exact parseM_snoc M r _ a c h hc ha hM
  ·rw [if_neg h1] at h;cases h
theorem parse_dec:∀ (u:Nat),u≤18446744073709551615→parseUintM 18446744073709551615 0 (decDigits u)=.ok u:=by
 intro u
 induction u using Nat.strongRecOn with
 | _ u ih =>
  intro hu
  rw [decDigits]
  by_cases h:u < 10
  ·rw [dif_pos h]
   have:=parseM_snoc 18446744073709551615 [] 0 0 (UInt8.ofNat (48 + u)) (by unfold parseUintM;rfl) (by rw [digit_nat h];omega) (by omega) (by rw [digit_nat h];omega)
   rw [List.nil_append,digit_nat h] at this
   rw [this]
   congr 1
   omega
  ·rw [dif_neg h]
   have hd:u % 10 < 10:=by omega
   have:=parseM_snoc 18446744073709551615 (decDigits (u / 10)) 0 (u / 10) (UInt8.ofNat (48 + u % 10)) (ih (u / 10) (by omega) (by omega)) (by rw [digit_nat hd];omega) (by omega) (by rw [digit_nat hd];omega)
   rw [digit_nat hd] at this
   rw [this]
   congr 1
   omega
theorem parseB_dec (u:Nat) (hu:u≤18446744073709551615):parseUintB 64 (decDigits u)=.ok u:=by
 unfold parseUintB
 rw [if_neg (dec_ne u)]
 exact parse_dec u hu
theorem parse_itoa {x:Int} (h0:-9223372036854775808≤x) (h1:x≤9223372036854775807):parseIntB 64 (itoa x)=.ok x:=by
 unfold itoa
 by_cases h:x < 0
 ·rw [if_pos h]
  unfold parseIntB
  have e45:(45:UInt8).toNat=45:=rfl
  simp only [e45]
  rw [if_pos (Or.inr trivial),parseB_dec _ (by omega)]
  simp only [not_true_eq_false,false_and,if_false,true_and]
  rw [if_neg (by omega),if_pos trivial]
  congr 1
  omega
 ·rw [if_neg h]
  cases hd:decDigits x.toNat with
  | nil => exact absurd hd (dec_ne _)
  | cons c r =>
   have hc:=dec_digits x.toNat c (by rw [hd];exact List.mem_cons_self)
   unfold parseIntB
   simp only
   rw [if_neg (by omega),← hd,parseB_dec _ (by omega)]
   have hn:¬ c.toNat=45:=by omega
   simp only [hn,not_false_eq_true,true_and,false_and,if_false]
   rw [if_neg (by omega)]
   congr 1
   omega
theorem nDigits_le:∀ (k u:Nat),u < 10 ^ (k + 1)→nDigits u≤k + 1
 | 0,u,h => by rw [nDigits_small (by simpa using h)];exact Nat.le_refl _
 | k + 1,u,h => by
  by_cases hu:u < 10
  ·rw [nDigits_small hu];omega
  ·rw [nDigits_big hu]
   have:=nDigits_le k (u / 10) (by rw [Nat.pow_succ] at h;omega)
   omega
theorem fits_digits (u:Nat):nDigits u≤18 ↔ u < 1000000000000000000:=by
 constructor
 ·intro h
  have h1:=lt_pow_nDigits u
  have h2:10 ^ nDigits u≤10 ^ 18:=Nat.pow_le_pow_right (by decide) h
  have:(10:Nat) ^ 18=1000000000000000000:=by decide
  omega
 ·intro h
  exact nDigits_le 17 u (by have:(10:Nat) ^ (17 + 1)=1000000000000000000:=(by decide);omega)
theorem trim_itoa (x:Int):(trimPrefix (itoa x) [45]).length=nDigits x.natAbs:=by
 unfold itoa
 by_cases h:x < 0
 ·rw [if_pos h]
  unfold trimPrefix hasPrefix
  rw [if_pos (by simp [List.isPrefixOf])]
  simp only [List.length_singleton,List.drop_one,List.tail_cons]
  exact decDigits_length _
 ·rw [if_neg h]
  unfold trimPrefix hasPrefix
  cases hd:decDigits x.toNat with
  | nil => exact absurd hd (dec_ne _)
  | cons c r =>
   have hc:=dec_digits x.toNat c (by rw [hd];exact List.mem_cons_self)
   have hn:¬ ((45:UInt8)==c)=true:=fun e => by
    have:=beq_iff_eq.1 e
    rw [← this] at hc
    exact absurd hc (by decide)
   rw [if_neg (by simp only [List.isPrefixOf,Bool.and_true];exact hn),← hd,decDigits_length]
   congr 1
   omega
def fit18 (x:Int):Bool:=decide (-1000000000000000000 < x∧x < 1000000000000000000)
theorem fit18_iff (x:Int):decide ((trimPrefix (itoa x) [45]).length≤18)=fit18 x:=by
 rw [trim_itoa]
 unfold fit18
 rw [Bool.eq_iff_iff,decide_eq_true_eq,decide_eq_true_eq,fits_digits]
 omega
end Go.Proofs.YteooddfilnijgaaDoor.Px
namespace Go.Proofs.YteooddfilnijgaaDoor.Px
open Go.RowKit Go.Proofs.YteooddfilnijgaaDoorW.PrintWords Go.Proofs.YteooddfilnijgaaDoorW.PrintLast Go.Proofs.YteooddfilnijgaaDoorW.PrintMore
attribute [local go_sem] max2_int min2_int max_two min_two max_three min_three max_four min_four
set_option linter.unusedVariables false
set_option linter.unusedSimpArgs false
def script_many.f (a0:Int):Option (Int):=if a0=0 then (some 3) else (if a0=1 then (some 2) else (if a0=2 then (some 2) else (some 1)))
set_option maxHeartbeats 80000000 in
set_option maxRecDepth 100000 in
theorem script_many.calls (a0:Int) (r:Int) (w:World) (h:script_many.f a0=some r) :
  Calls Tryd.prog 9 #[.int .i64 a0] w fun e w' => e=.returned (.int .i64 r)∧Drawn0 w w':=by
 have H:(if a0=0 then (some 3) else (if a0=1 then (some 2) else (if a0=2 then (some 2) else (some 1))))=some r:=h
 clear h
 by_cases c2:a0=0
 ·rw [if_pos c2] at H
  have c2b0:(a0==0)=true:=beq_iff_eq.mpr c2
  have c2b1:(a0 != 0)=false:=bne_eq_false_iff_eq.mpr c2
  clear c2
  obtain rfl:=Option.some.inj H
  go_enter Tryd.func9,Tryd.ntmps9
  go_wp2
  go_ret
  exact ⟨by first|rfl|(simp;done)|(simp [*];done),by repeat (first|exact Drawn0.refl _|apply Drawn0.step)⟩
 ·rw [if_neg c2] at H
  have c2b0:(a0==0)=false:=beq_eq_false_iff_ne.mpr c2
  have c2b1:(a0 != 0)=true:=bne_iff_ne.mpr c2
  by_cases c3:a0=1
  ·rw [if_pos c3] at H
   have c3b0:(a0==1)=true:=beq_iff_eq.mpr c3
   have c3b1:(a0 != 1)=false:=bne_eq_false_iff_eq.mpr c3
   clear c3
   obtain rfl:=Option.some.inj H
   go_enter Tryd.func9,Tryd.ntmps9
   go_wp2
   go_ret
   exact ⟨by first|rfl|(simp;done)|(simp [*];done),by repeat (first|exact Drawn0.refl _|apply Drawn0.step)⟩
  ·rw [if_neg c3] at H
   have c3b0:(a0==1)=false:=beq_eq_false_iff_ne.mpr c3
   have c3b1:(a0 != 1)=true:=bne_iff_ne.mpr c3
   by_cases c4:a0=2
   ·rw [if_pos c4] at H
    have c4b0:(a0==2)=true:=beq_iff_eq.mpr c4
    have c4b1:(a0 != 2)=false:=bne_eq_false_iff_eq.mpr c4
    clear c4
    obtain rfl:=Option.some.inj H
    go_enter Tryd.func9,Tryd.ntmps9
    go_wp2
    go_ret
    exact ⟨by first|rfl|(simp;done)|(simp [*];done),by repeat (first|exact Drawn0.refl _|apply Drawn0.step)⟩
   ·rw [if_neg c4] at H
    have c4b0:(a0==2)=false:=beq_eq_false_iff_ne.mpr c4
    have c4b1:(a0 != 2)=true:=bne_iff_ne.mpr c4
    obtain rfl:=Option.some.inj H
    go_enter Tryd.func9,Tryd.ntmps9
    go_wp2
    go_ret
    exact ⟨by first|rfl|(simp;done)|(simp [*];done),by repeat (first|exact Drawn0.refl _|apply Drawn0.step)⟩
end Go.Proofs.YteooddfilnijgaaDoor.Px
namespace Go.Proofs.YteooddfilnijgaaDoor.Px
open Go.RowKit Go.Proofs.YteooddfilnijgaaDoorW.PrintWords Go.Proofs.YteooddfilnijgaaDoorW.PrintLast Go.Proofs.YteooddfilnijgaaDoorW.PrintMore
set_option linter.unusedVariables false
set_option linter.unusedSimpArgs false
abbrev wordsV:Array Value:=#[.string ⟨#[114,117,110]⟩,.string ⟨#[105,110,112,117,116]⟩,.string ⟨#[99,108,111,99,107]⟩,.string ⟨#[116,105,99,107]⟩,.string ⟨#[100,101,108,105,118,101,114]⟩,.string ⟨#[100,114,111,112]⟩,.string ⟨#[116,119,105,99,101]⟩,.string ⟨#[99,114,97,115,104]⟩]
set_option maxHeartbeats 8000000 in
set_option maxRecDepth 100000 in
theorem words.calls (w:World):Calls Tryd.prog 10 #[] w fun e w' => e=.returned (.agg wordsV)∧Below w.heap.size w w':=by
 go_enter Tryd.func10,Tryd.ntmps10
 go_wp2
 refine bodyPost_ret (v:=.agg wordsV) ?_ rfl ⟨rfl,below_alloc (Below.refl _ _) _⟩
 simp [results,Tryd.results10,go_sem]
def nameV (k:Int):ByteArray:=if k=0 then ⟨#[114,117,110]⟩ else if k=1 then ⟨#[105,110,112,117,116]⟩ else if k=2 then ⟨#[99,108,111,99,107]⟩ else if k=3 then ⟨#[116,105,99,107]⟩ else if k=4 then ⟨#[100,101,108,105,118,101,114]⟩ else if k=5 then ⟨#[100,114,111,112]⟩ else if k=6 then ⟨#[116,119,105,99,101]⟩ else ⟨#[99,114,97,115,104]⟩
theorem words_at {k:Int} (h0:0≤k) (h7:k≤7):∀ W:World,(Instr.index 36 (.agg wordsV) (.int .i64 k)).run Tryd.prog W=.ok (.string (nameV k)) W:=by
 intro W
 obtain rfl|rfl|rfl|rfl|rfl|rfl|rfl|rfl:k=0 ∨ k=1 ∨ k=2 ∨ k=3 ∨ k=4 ∨ k=5 ∨ k=6 ∨ k=7:=by omega
 all_goals kernel_rfl
def outV (s:ByteArray):List Int→ByteArray × Int
 | [] => (s,0)
 | x :: l => if fit18 x=true then outV (s++(⟨#[32]⟩++⟨(Lib.itoa x).toArray⟩)) l else (⟨#[]⟩,1)
def numsL (k a b n:Int):List Int:=if k=0 then [a,b,n] else if k=1 ∨ k=2 then [a,n] else [a]
def printV (k a b n:Int):ByteArray × Int:=if k < 0 ∨ k > 7 then (⟨#[]⟩,1) else if k ≠ 0∧b ≠ 0 then (⟨#[]⟩,1) else if k ≠ 0∧k ≠ 1∧k ≠ 2∧n ≠ 0 then (⟨#[]⟩,1) else outV (nameV k) (numsL k a b n)
def I64 (x:Int):Prop:=-9223372036854775808≤x∧x≤9223372036854775807
theorem numV_itoa {x:Int} (h:I64 x):numV ⟨(Lib.itoa x).toArray⟩=(x,fit18 x):=by
 unfold numV
 simp only [List.toList_toArray]
 rw [parse_itoa h.1 h.2]
 have e:((Lib.itoa x)==(⟨(Lib.itoa x).toArray⟩:ByteArray).toList)=true:=by rw [Lib.toList_data];simp
 simp only [e,Bool.and_true,fit18_iff]
theorem name_size (k:Int):(nameV k).size≤100 + 30 * (0:Int).toNat:=by
 unfold nameV
 repeat' split
 all_goals decide
abbrev script_Print.ok (a b n:Int):Prop:=(-9223372036854775808≤a∧a≤9223372036854775807)∧(-9223372036854775808≤b∧b≤9223372036854775807)∧(-9223372036854775808≤n∧n≤9223372036854775807)
def script_Print.f (k a b n:Int):Option (ByteArray × Int):=if script_Print.ok a b n then some (printV k a b n) else none
set_option maxHeartbeats 80000000 in
set_option maxRecDepth 100000 in
theorem script_Print.calls (k a b n:Int) (r1:ByteArray) (r2:Int) (w:World) (hG:Aside0 (GG w)) (h:script_Print.f k a b n=some (r1,r2)) :
  Calls Tryd.prog 5 #[.agg #[.int .i64 k,.int .i64 a,.int .i64 b,.int .i64 n]] w fun e w' => e=.returned (.tuple #[.string r1,.int .i64 r2])∧Below w.heap.size w w':=by
 have hu23:=Tryd.underlying23
 have hu34:=Tryd.underlying34
 have hu38:=Tryd.underlying38
 unfold script_Print.f at h
 have hok:script_Print.ok a b n:=by
  by_cases hok:script_Print.ok a b n
  ·exact hok
  ·rw [if_neg hok] at h;cases h
 rw [if_pos hok] at h
 have HV:=Aside0.mk (Option.some.inj h)
 have HA:=Aside0.mk hok.1
 have HN:=Aside0.mk hok.2.2
 have HBB:=Aside0.mk hok.2.1
 clear h hok
 go_enter Tryd.func5,Tryd.ntmps5
 go_upto_region 1 with fail
 obtain ⟨W0,hW0⟩:∃ W0,W0=w.alloc (.cells #[.int .i64 k,.int .i64 a,.int .i64 b,.int .i64 n] 23 (0,0)):=⟨_,rfl⟩
 obtain ⟨ba,hba⟩:∃ ba,ba=w.heap.size:=⟨_,rfl⟩
 rw [← hW0,← hba]
 have HB:=Aside0.mk (show Below w.heap.size w W0 from by rw [hW0];exact below_alloc (Below.refl _ _) _)
 have KA:=Aside0.mk (show W0.heap[ba]?=some (.cells #[.int .i64 k,.int .i64 a,.int .i64 b,.int .i64 n] 23 (0,0)) from by rw [hW0,hba];exact blk_new _ _)
 clear hW0 hba
 have ca0:=(blk_cell KA.out 0).trans rfl
 have ca1:=(blk_cell KA.out 1).trans rfl
 have ca2:=(blk_cell KA.out 2).trans rfl
 have ca3:=(blk_cell KA.out 3).trans rfl
 by_cases hk:k < 0
 ·have d1:decide (k < 0)=true:=decide_eq_true hk
  have hv:printV k a b n=(⟨#[]⟩,1):=by unfold printV;rw [if_pos (.inl hk)]
  have hr:=hv.symm.trans HV.out
  injection hr with hr1 hr2
  subst hr1;subst hr2
  clear hv hk
  go_wp2
  go_ret2
  exact ⟨rfl,HB.out⟩
 have d1:decide (k < 0)=false:=decide_eq_false hk
 by_cases hk7:7 < k
 ·have d2:decide (7 < k)=true:=decide_eq_true hk7
  have hv:printV k a b n=(⟨#[]⟩,1):=by unfold printV;rw [if_pos (.inr hk7)]
  have hr:=hv.symm.trans HV.out
  injection hr with hr1 hr2
  subst hr1;subst hr2
  clear hv hk hk7
  go_wp2
  go_ret2
  exact ⟨rfl,HB.out⟩
 have d2:decide (7 < k)=false:=decide_eq_false hk7
 have HK:Aside0 (0≤k∧k≤7):=⟨by omega⟩
 have hix:=words_at (by omega:0≤k) (by omega:k≤7)
 go_upto_region 4 with fail
 obtain ⟨W1,hW1⟩:∃ W1,W1=W0.alloc (.cells #[.int .i64 a,.int .i64 b,.int .i64 n] 34 (0,0)):=⟨_,rfl⟩
 obtain ⟨bl,hbl⟩:∃ bl,bl=W0.heap.size:=⟨_,rfl⟩
 rw [← hW1,← hbl]
 have hb1:Below W0.heap.size W0 W1:=by rw [hW1];exact below_alloc (Below.refl _ _) _
 have HB1:=Aside0.mk (HB.out.trans (hb1.mono HB.out.size))
 have KA1:=Aside0.mk ((hb1.block _ (blk_lt KA.out)).trans KA.out)
 have KL1:=Aside0.mk (show W1.heap[bl]?=some (.cells #[.int .i64 a,.int .i64 b,.int .i64 n] 34 (0,0)) from by rw [hW1,hbl];exact blk_new _ _)
 have HNE:Aside0 (ba ≠ bl):=⟨by have:=blk_lt KA.out;omega⟩
 have HGE:Aside0 (w.heap.size≤bl):=⟨by rw [hbl];exact HB.out.size⟩
 clear hW1 hbl hb1 HB KA ca0 ca1 ca2 ca3 hk hk7 d1 d2
 have ca0:=(blk_cell KA1.out 0).trans rfl
 have ca1:=(blk_cell KA1.out 1).trans rfl
 have ca2:=(blk_cell KA1.out 2).trans rfl
 have ca3:=(blk_cell KA1.out 3).trans rfl
 go_wp2_with fail
 by_cases hc0:k=0
 ·skip
  refine (script_many.calls k 3 W1 (by unfold script_many.f;rw [if_pos hc0])).mono ?_
  rintro e W2 ⟨rfl,hd⟩
  have hb2:=hd.below
  have HB2:=Aside0.mk (HB1.out.trans (hb2.mono HB1.out.size))
  have KA2:=Aside0.mk ((hb2.block _ (blk_lt KA1.out)).trans KA1.out)
  have KL2:=Aside0.mk ((hb2.block _ (blk_lt KL1.out)).trans KL1.out)
  clear hd hb2 HB1 KA1 KL1 ca0 ca1 ca2 ca3
  have ca0:=(blk_cell KA2.out 0).trans rfl
  have ca1:=(blk_cell KA2.out 1).trans rfl
  have ca2:=(blk_cell KA2.out 2).trans rfl
  have ca3:=(blk_cell KA2.out 3).trans rfl
  have hv:outV (nameV k) [a,b,n]=(r1,r2):=by
   rw [← HV.out];unfold printV numsL;rw [if_neg (by omega),if_neg (by omega),if_neg (by omega),if_pos hc0]
  clear hc0
  go_upto_region 10 with fail
  have HB0:=Aside0.mk (show Below w.heap.size w W2.drew from HB2.out.trans ((below_drew (Below.refl _ _)).mono HB2.out.size))
  have KL0:=Aside0.mk (show W2.drew.heap[bl]?=some (.cells #[.int .i64 a,.int .i64 b,.int .i64 n] 34 (0,0)) from blk_drew KL2.out)
  clear HB2 KA2 KL2 ca1 ca2 ca3
  refine start_ (n:=5) (S:=fun w' => w'.cell? ⟨ba,0,none⟩=some (.int .i64 k)) (ds:=[]) #[false,false,false,false,false] (by kernel_rfl) rfl rfl (ca0) (fun hHeld => ?_)
  refine pure_ (i:=1) (N:=some 52) (v:=?_) (a':=?_) #[false,true,false,false,false] rfl rfl (by kernel_rfl) (fun _ _ _ h => h) (Or.inl ⟨by rfl,?_⟩) ?_ ?_
  rotate_left
  ·intro w'
   go_simp
   with_reducible rfl
  rotate_left
  ·simp only [Act.put,List.setIfInBounds_toArray,List.set_cons_zero,List.set_cons_succ,i64_w,i32_w]
   rfl
  refine take_ (i:=2) (N:=some 53) (v:=?_) (a':=?_) #[false,true,true,false,false] rfl rfl (by kernel_rfl) (fun _ _ _ h => h) (Or.inl ⟨by rfl,?_⟩) hHeld ?_ ?_
  rotate_left
  ·intro w' s0
   go_simp
   with_reducible rfl
  rotate_left
  ·simp only [Act.put,List.setIfInBounds_toArray,List.set_cons_zero,List.set_cons_succ,i64_w,i32_w]
   rfl
  refine one_ (i:=0) (N:=some 51) #[true,true,true,false,false] rfl rfl (by kernel_rfl) (by decide) (fun K hK => ?_)
  refine goes_ Tryd.func10 (by kernel_rfl) rfl #[] (by rfl) rfl rfl (by simp only [List.map_toArray,List.map_nil]) ?_
  refine (words.calls _).mono ?_
  rintro e w1' ⟨rfl,hbw⟩
  refine ⟨_,rfl,?_⟩
  have HB1:=Aside0.mk (Below.trans HB0.out (hbw.mono (below_size HB0.out)))
  have ca1:=pw_cell_below hbw ca0
  have KL1:=Aside0.mk ((hbw.block _ (blk_lt KL0.out)).trans KL0.out)
  clear hbw
  refine hK.out _ _ (ca1) (fun hHeld => ?_)
  clear hK K
  refine norm_ (a':=?_) ?_ ?_
  rotate_left
  ·show Act.put _ (some 51) _=_
   simp only [Act.put,List.setIfInBounds_toArray,List.set_cons_zero,List.set_cons_succ,i64_w,i32_w]
   rfl
  refine take_ (i:=3) (N:=some 54) (v:=?_) (a':=?_) #[true,true,true,true,false] rfl rfl (by kernel_rfl) (fun _ _ _ h => h) (Or.inl ⟨by rfl,?_⟩) hHeld ?_ ?_
  rotate_left
  ·intro w' s0
   go_simp
   with_reducible rfl
  rotate_left
  ·simp only [Act.put,List.setIfInBounds_toArray,List.set_cons_zero,List.set_cons_succ,i64_w,i32_w]
   rfl
  refine pure_ (i:=4) (N:=some 6) (v:=?_) (a':=?_) #[true,true,true,true,true] rfl rfl (by kernel_rfl) (fun _ _ _ h => h) (Or.inl ⟨by rfl,?_⟩) ?_ ?_
  rotate_left
  ·intro w'
   go_simp
   with_reducible rfl
  rotate_left
  ·simp only [Act.put,List.setIfInBounds_toArray,List.set_cons_zero,List.set_cons_succ,i64_w,i32_w]
   rfl
  refine done_ (by kernel_rfl) ?_
  clear hHeld ca0 ca1 KL0 HB0
  have lc0:=(blk_cell KL1.out 0).trans rfl
  have lc1:=(blk_cell KL1.out 1).trans rfl
  have lc2:=(blk_cell KL1.out 2).trans rfl
  go_wp2
  have HBT:=HB1
  have KLT:=KL1
  clear HB1 KL1 lc0 lc1 lc2
  go_loopw [58,6] (fun vi vs W => ∃ (i:Int) (s:ByteArray),vi=.int .i64 i∧vs=.string s∧Aside0 (0≤i∧i≤3)∧Aside0 (outV s ([a,b,n].drop i.toNat)=(r1,r2))∧Aside0 (s.size≤100 + 30 * i.toNat)∧Aside0 (Below w.heap.size w W)∧Aside0 (W.heap[bl]?=some (.cells #[.int .i64 a,.int .i64 b,.int .i64 n] 34 (0,0)))) (fun vi _ _ => 3 - (intOf vi).toNat)
  case atStart => exact ⟨0,nameV k,rfl,rfl,⟨by omega⟩,⟨hv⟩,⟨name_size k⟩,HBT,KLT⟩
  case round =>
   obtain ⟨i,s,rfl,rfl,HI,HO,HZ,HBr,KLr⟩:=hrel
   by_cases hi:i < 3
   ·have d1:decide (i < 3)=true:=decide_eq_true hi
    obtain ⟨x,l,hx,hl,hxc,hxr⟩:∃ x l,[a,b,n].drop i.toNat=x :: l∧[a,b,n].drop (i + 1).toNat=l∧wr.cell? ⟨bl,i.toNat,none⟩=some (.int .i64 x)∧(-9223372036854775808≤x∧x≤9223372036854775807):=by
     have h0:=HI.out.1
     obtain rfl|rfl|rfl:i=0 ∨ i=1 ∨ i=2:=by omega
     ·exact ⟨a,[b,n],rfl,rfl,(blk_cell KLr.out 0).trans rfl,HA.out⟩
     ·exact ⟨b,[n],rfl,rfl,(blk_cell KLr.out 1).trans rfl,HBB.out⟩
     ·exact ⟨n,[],rfl,rfl,(blk_cell KLr.out 2).trans rfl,HN.out⟩
    have HX:=Aside0.mk hxr
    have HO2:=Aside0.mk (show outV s (x :: l)=(r1,r2) from hx ▸ HO.out)
    have HLL:=Aside0.mk hl
    have HII:=Aside0.mk hi
    have p0:(0≤i)=True:=eq_true HI.out.1
    have p1:(i < 3)=True:=eq_true hi
    clear hx hl hxr hi HO
    go_wp2_with fail
    refine (Tryd.strconv_FormatInt_10 x HX.out.1 HX.out.2 wr (tab_below hG.out.tab HBr.out)).mono ?_
    rintro e w3 ⟨rfl,nn,os,hw⟩
    have HB3:=Aside0.mk (show Below wr.heap.size wr w3 from by rw [hw];exact (pw_below_drewN (Below.refl _ _) nn).trans ((grow_below (wr.drewN nn) os).mono (show wr.heap.size≤(wr.drewN nn).heap.size from Nat.le_refl _)))
    clear hw
    go_wp2_with fail
    have hlen:=Lib.itoa_length_le x HX.out.1 HX.out.2
    have hsz:(⟨(Lib.itoa x).toArray⟩:ByteArray).size≤21:=by show (Lib.itoa x).toArray.size≤21;rw [List.size_toArray];exact hlen
    have HB03:=Aside0.mk (HBr.out.trans (HB3.out.mono HBr.out.size))
    have hc:=number.calls ⟨(Lib.itoa x).toArray⟩ w3 (by omega) ⟨GG.below hG.out HB03.out⟩
    rw [numV_itoa HX.out] at hc
    refine hc.mono ?_
    clear hc
    rintro e w4 ⟨rfl,hb4⟩
    have HB4:=Aside0.mk (HB03.out.trans (hb4.mono HB03.out.size))
    have KL4:=Aside0.mk (((HB3.out.trans (hb4.mono HB3.out.size)).block _ (blk_lt KLr.out)).trans KLr.out)
    clear hb4 HB3 HB03 hxc KLr HBr
    by_cases hf:fit18 x=true
    ·rw [hf]
     have HO3:=Aside0.mk (show outV (s++(⟨#[32]⟩++⟨(Lib.itoa x).toArray⟩)) l=(r1,r2) from by rw [← HO2.out];exact (if_pos hf).symm)
     have HZZ:=HZ.out
     have HI2:=HI.out
     have g1:¬ 9223372036854775807 < 1 + (Lib.itoa x).length:=by omega
     have g2:¬ 9223372036854775807 < s.size + (1 + (Lib.itoa x).length):=by omega
     have hwi:wrap64 (i + 1)=i + 1:=by unfold wrap64;omega
     clear hf HZZ HI2
     go_wp2
     go_roundw
     case measure =>
      have:=HII.out
      have:=HI.out.1
      show 3 - (wrap64 (i + 1)).toNat < 3 - i.toNat
      rw [hwi]
      omega
     case rel =>
      rw [hwi]
      refine ⟨i + 1,_,rfl,rfl,⟨by have:=HII.out;have:=HI.out.1;omega⟩,⟨by rw [HLL.out];exact HO3.out⟩,⟨?_⟩,HB4,KL4⟩
      have hlen2:=HZ.out
      have:=HI.out.1
      rw [ByteArray.size_append,ByteArray.size_append]
      have:(⟨#[32]⟩:ByteArray).size=1:=rfl
      omega
    ·rw [Bool.eq_false_iff.2 hf]
     have hr:(⟨#[]⟩,1)=(r1,r2):=by rw [← HO2.out];unfold outV;rw [if_neg hf]
     injection hr with hr1 hr2
     subst hr1;subst hr2
     clear hf
     go_wp2
     go_ret2
     exact ⟨rfl,HB4.out⟩
   ·have d1:decide (i < 3)=false:=decide_eq_false hi
    have hr:(s,0)=(r1,r2):=by
     rw [← HO.out,List.drop_eq_nil_of_le (by simp only [List.length_cons,List.length_nil];have:=HI.out;omega)]
     rfl
    injection hr with hr1 hr2
    subst hr1;subst hr2
    clear hi
    go_wp2
    go_ret2
    exact ⟨rfl,HBr.out⟩
 by_cases hc1:k=1 ∨ k=2
 ·skip
  refine (script_many.calls k 2 W1 (by unfold script_many.f;rw [if_neg hc0];rcases hc1 with rfl|rfl <;> simp)).mono ?_
  rintro e W2 ⟨rfl,hd⟩
  have hb2:=hd.below
  have HB2:=Aside0.mk (HB1.out.trans (hb2.mono HB1.out.size))
  have KA2:=Aside0.mk ((hb2.block _ (blk_lt KA1.out)).trans KA1.out)
  have KL2:=Aside0.mk ((hb2.block _ (blk_lt KL1.out)).trans KL1.out)
  clear hd hb2 HB1 KA1 KL1 ca0 ca1 ca2 ca3
  have ca0:=(blk_cell KA2.out 0).trans rfl
  have ca1:=(blk_cell KA2.out 1).trans rfl
  have ca2:=(blk_cell KA2.out 2).trans rfl
  have ca3:=(blk_cell KA2.out 3).trans rfl
  by_cases hb0:b=0
  case neg =>
   have hv:printV k a b n=(⟨#[]⟩,1):=by unfold printV;rw [if_neg (by have:=HK.out;omega),if_pos ⟨hc0,hb0⟩]
   have e1:(b != 0)=true:=bne_iff_ne.mpr hb0
   clear hc0 hc1 hb0
   have hr:=hv.symm.trans HV.out
   injection hr with hr1 hr2
   subst hr1;subst hr2
   clear hv
   go_wp2
   go_ret2
   exact ⟨rfl,HB2.out⟩
  have hv:outV (nameV k) [a,n]=(r1,r2):=by
   have hK:=HK.out
   rw [← HV.out];unfold printV numsL;rw [if_neg (by omega),if_neg (by omega),if_neg (by omega),if_neg hc0,if_pos hc1]
  have e1:(b != 0)=false:=bne_eq_false_iff_eq.mpr hb0
  have lc1:=(blk_cell KL2.out 1).trans rfl
  have lf1:=blk_frozen KL2.out 1
  clear hc0 hc1 hb0
  go_upto_region 10 with fail
  obtain ⟨W3,hW3⟩:∃ W3,W3=W2.setCell ⟨bl,1,none⟩ (.int .i64 n):=⟨_,rfl⟩
  rw [← hW3]
  have HB3:=Aside0.mk (show Below w.heap.size w W3 from by rw [hW3];exact HB2.out.setCell (p:=⟨bl,1,none⟩) HGE.out _)
  have KA3:=Aside0.mk (show W3.heap[ba]?=some (.cells #[.int .i64 k,.int .i64 a,.int .i64 b,.int .i64 n] 23 (0,0)) from by rw [hW3];exact blk_far (p:=⟨bl,1,none⟩) KA2.out HNE.out _)
  have KL3:=Aside0.mk (show W3.heap[bl]?=some (.cells #[.int .i64 a,.int .i64 n,.int .i64 n] 34 (0,0)) from by rw [hW3];exact blk_set KL2.out 1 (.int .i64 n))
  clear hW3 HB2 KA2 KL2 ca0 ca1 ca2 ca3 lc1 lf1 e1
  have HB2:=HB3
  have KA2:=KA3
  have KL2:=KL3
  clear HB3 KA3 KL3
  have ca0:=(blk_cell KA2.out 0).trans rfl
  have ca1:=(blk_cell KA2.out 1).trans rfl
  have ca2:=(blk_cell KA2.out 2).trans rfl
  have ca3:=(blk_cell KA2.out 3).trans rfl
  have HB0:=Aside0.mk (show Below w.heap.size w W3.drew from HB2.out.trans ((below_drew (Below.refl _ _)).mono HB2.out.size))
  have KL0:=Aside0.mk (show W3.drew.heap[bl]?=some (.cells #[.int .i64 a,.int .i64 n,.int .i64 n] 34 (0,0)) from blk_drew KL2.out)
  clear HB2 KA2 KL2 ca1 ca2 ca3
  refine start_ (n:=5) (S:=fun w' => w'.cell? ⟨ba,0,none⟩=some (.int .i64 k)) (ds:=[]) #[false,false,false,false,false] (by kernel_rfl) rfl rfl (ca0) (fun hHeld => ?_)
  refine pure_ (i:=1) (N:=some 52) (v:=?_) (a':=?_) #[false,true,false,false,false] rfl rfl (by kernel_rfl) (fun _ _ _ h => h) (Or.inl ⟨by rfl,?_⟩) ?_ ?_
  rotate_left
  ·intro w'
   go_simp
   with_reducible rfl
  rotate_left
  ·simp only [Act.put,List.setIfInBounds_toArray,List.set_cons_zero,List.set_cons_succ,i64_w,i32_w]
   rfl
  refine take_ (i:=2) (N:=some 53) (v:=?_) (a':=?_) #[false,true,true,false,false] rfl rfl (by kernel_rfl) (fun _ _ _ h => h) (Or.inl ⟨by rfl,?_⟩) hHeld ?_ ?_
  rotate_left
  ·intro w' s0
   go_simp
   with_reducible rfl
  rotate_left
  ·simp only [Act.put,List.setIfInBounds_toArray,List.set_cons_zero,List.set_cons_succ,i64_w,i32_w]
   rfl
  refine one_ (i:=0) (N:=some 51) #[true,true,true,false,false] rfl rfl (by kernel_rfl) (by decide) (fun K hK => ?_)
  refine goes_ Tryd.func10 (by kernel_rfl) rfl #[] (by rfl) rfl rfl (by simp only [List.map_toArray,List.map_nil]) ?_
  refine (words.calls _).mono ?_
  rintro e w1' ⟨rfl,hbw⟩
  refine ⟨_,rfl,?_⟩
  have HB1:=Aside0.mk (Below.trans HB0.out (hbw.mono (below_size HB0.out)))
  have ca1:=pw_cell_below hbw ca0
  have KL1:=Aside0.mk ((hbw.block _ (blk_lt KL0.out)).trans KL0.out)
  clear hbw
  refine hK.out _ _ (ca1) (fun hHeld => ?_)
  clear hK K
  refine norm_ (a':=?_) ?_ ?_
  rotate_left
  ·show Act.put _ (some 51) _=_
   simp only [Act.put,List.setIfInBounds_toArray,List.set_cons_zero,List.set_cons_succ,i64_w,i32_w]
   rfl
  refine take_ (i:=3) (N:=some 54) (v:=?_) (a':=?_) #[true,true,true,true,false] rfl rfl (by kernel_rfl) (fun _ _ _ h => h) (Or.inl ⟨by rfl,?_⟩) hHeld ?_ ?_
  rotate_left
  ·intro w' s0
   go_simp
   with_reducible rfl
  rotate_left
  ·simp only [Act.put,List.setIfInBounds_toArray,List.set_cons_zero,List.set_cons_succ,i64_w,i32_w]
   rfl
  refine pure_ (i:=4) (N:=some 6) (v:=?_) (a':=?_) #[true,true,true,true,true] rfl rfl (by kernel_rfl) (fun _ _ _ h => h) (Or.inl ⟨by rfl,?_⟩) ?_ ?_
  rotate_left
  ·intro w'
   go_simp
   with_reducible rfl
  rotate_left
  ·simp only [Act.put,List.setIfInBounds_toArray,List.set_cons_zero,List.set_cons_succ,i64_w,i32_w]
   rfl
  refine done_ (by kernel_rfl) ?_
  clear hHeld ca0 ca1 KL0 HB0
  have lc0:=(blk_cell KL1.out 0).trans rfl
  have lc1:=(blk_cell KL1.out 1).trans rfl
  have lc2:=(blk_cell KL1.out 2).trans rfl
  go_wp2
  have HBT:=HB1
  have KLT:=KL1
  clear HB1 KL1 lc0 lc1 lc2
  go_loopw [58,6] (fun vi vs W => ∃ (i:Int) (s:ByteArray),vi=.int .i64 i∧vs=.string s∧Aside0 (0≤i∧i≤2)∧Aside0 (outV s ([a,n].drop i.toNat)=(r1,r2))∧Aside0 (s.size≤100 + 30 * i.toNat)∧Aside0 (Below w.heap.size w W)∧Aside0 (W.heap[bl]?=some (.cells #[.int .i64 a,.int .i64 n,.int .i64 n] 34 (0,0)))) (fun vi _ _ => 2 - (intOf vi).toNat)
  case atStart => exact ⟨0,nameV k,rfl,rfl,⟨by omega⟩,⟨hv⟩,⟨name_size k⟩,HBT,KLT⟩
  case round =>
   obtain ⟨i,s,rfl,rfl,HI,HO,HZ,HBr,KLr⟩:=hrel
   by_cases hi:i < 2
   ·have d1:decide (i < 2)=true:=decide_eq_true hi
    obtain ⟨x,l,hx,hl,hxc,hxr⟩:∃ x l,[a,n].drop i.toNat=x :: l∧[a,n].drop (i + 1).toNat=l∧wr.cell? ⟨bl,i.toNat,none⟩=some (.int .i64 x)∧(-9223372036854775808≤x∧x≤9223372036854775807):=by
     have h0:=HI.out.1
     obtain rfl|rfl:i=0 ∨ i=1:=by omega
     ·exact ⟨a,[n],rfl,rfl,(blk_cell KLr.out 0).trans rfl,HA.out⟩
     ·exact ⟨n,[],rfl,rfl,(blk_cell KLr.out 1).trans rfl,HN.out⟩
    have HX:=Aside0.mk hxr
    have HO2:=Aside0.mk (show outV s (x :: l)=(r1,r2) from hx ▸ HO.out)
    have HLL:=Aside0.mk hl
    have HII:=Aside0.mk hi
    have p0:(0≤i)=True:=eq_true HI.out.1
    have p1:(i < 2)=True:=eq_true hi
    clear hx hl hxr hi HO
    go_wp2_with fail
    refine (Tryd.strconv_FormatInt_10 x HX.out.1 HX.out.2 wr (tab_below hG.out.tab HBr.out)).mono ?_
    rintro e w3 ⟨rfl,nn,os,hw⟩
    have HB3:=Aside0.mk (show Below wr.heap.size wr w3 from by rw [hw];exact (pw_below_drewN (Below.refl _ _) nn).trans ((grow_below (wr.drewN nn) os).mono (show wr.heap.size≤(wr.drewN nn).heap.size from Nat.le_refl _)))
    clear hw
    go_wp2_with fail
    have hlen:=Lib.itoa_length_le x HX.out.1 HX.out.2
    have hsz:(⟨(Lib.itoa x).toArray⟩:ByteArray).size≤21:=by show (Lib.itoa x).toArray.size≤21;rw [List.size_toArray];exact hlen
    have HB03:=Aside0.mk (HBr.out.trans (HB3.out.mono HBr.out.size))
    have hc:=number.calls ⟨(Lib.itoa x).toArray⟩ w3 (by omega) ⟨GG.below hG.out HB03.out⟩
    rw [numV_itoa HX.out] at hc
    refine hc.mono ?_
    clear hc
    rintro e w4 ⟨rfl,hb4⟩
    have HB4:=Aside0.mk (HB03.out.trans (hb4.mono HB03.out.size))
    have KL4:=Aside0.mk (((HB3.out.trans (hb4.mono HB3.out.size)).block _ (blk_lt KLr.out)).trans KLr.out)
    clear hb4 HB3 HB03 hxc KLr HBr
    by_cases hf:fit18 x=true
    ·rw [hf]
     have HO3:=Aside0.mk (show outV (s++(⟨#[32]⟩++⟨(Lib.itoa x).toArray⟩)) l=(r1,r2) from by rw [← HO2.out];exact (if_pos hf).symm)
     have HZZ:=HZ.out
     have HI2:=HI.out
     have g1:¬ 9223372036854775807 < 1 + (Lib.itoa x).length:=by omega
     have g2:¬ 9223372036854775807 < s.size + (1 + (Lib.itoa x).length):=by omega
     have hwi:wrap64 (i + 1)=i + 1:=by unfold wrap64;omega
     clear hf HZZ HI2
     go_wp2
     go_roundw
     case measure =>
      have:=HII.out
      have:=HI.out.1
      show 2 - (wrap64 (i + 1)).toNat < 2 - i.toNat
      rw [hwi]
      omega
     case rel =>
      rw [hwi]
      refine ⟨i + 1,_,rfl,rfl,⟨by have:=HII.out;have:=HI.out.1;omega⟩,⟨by rw [HLL.out];exact HO3.out⟩,⟨?_⟩,HB4,KL4⟩
      have hlen2:=HZ.out
      have:=HI.out.1
      rw [ByteArray.size_append,ByteArray.size_append]
      have:(⟨#[32]⟩:ByteArray).size=1:=rfl
      omega
    ·rw [Bool.eq_false_iff.2 hf]
     have hr:(⟨#[]⟩,1)=(r1,r2):=by rw [← HO2.out];unfold outV;rw [if_neg hf]
     injection hr with hr1 hr2
     subst hr1;subst hr2
     clear hf
     go_wp2
     go_ret2
     exact ⟨rfl,HB4.out⟩
   ·have d1:decide (i < 2)=false:=decide_eq_false hi
    have hr:(s,0)=(r1,r2):=by
     rw [← HO.out,List.drop_eq_nil_of_le (by simp only [List.length_cons,List.length_nil];have:=HI.out;omega)]
     rfl
    injection hr with hr1 hr2
    subst hr1;subst hr2
    clear hi
    go_wp2
    go_ret2
    exact ⟨rfl,HBr.out⟩
 refine (script_many.calls k 1 W1 (by unfold script_many.f;rw [if_neg hc0,if_neg (by omega),if_neg (by omega)])).mono ?_
 rintro e W2 ⟨rfl,hd⟩
 have hb2:=hd.below
 have HB2:=Aside0.mk (HB1.out.trans (hb2.mono HB1.out.size))
 have KA2:=Aside0.mk ((hb2.block _ (blk_lt KA1.out)).trans KA1.out)
 have KL2:=Aside0.mk ((hb2.block _ (blk_lt KL1.out)).trans KL1.out)
 clear hd hb2 HB1 KA1 KL1 ca0 ca1 ca2 ca3
 have ca0:=(blk_cell KA2.out 0).trans rfl
 have ca1:=(blk_cell KA2.out 1).trans rfl
 have ca2:=(blk_cell KA2.out 2).trans rfl
 have ca3:=(blk_cell KA2.out 3).trans rfl
 by_cases hb0:b=0
 case neg =>
  have hv:printV k a b n=(⟨#[]⟩,1):=by unfold printV;rw [if_neg (by have:=HK.out;omega),if_pos ⟨hc0,hb0⟩]
  have e1:(b != 0)=true:=bne_iff_ne.mpr hb0
  clear hc0 hc1 hb0
  have hr:=hv.symm.trans HV.out
  injection hr with hr1 hr2
  subst hr1;subst hr2
  clear hv
  go_wp2
  go_ret2
  exact ⟨rfl,HB2.out⟩
 have e1:(b != 0)=false:=bne_eq_false_iff_eq.mpr hb0
 by_cases hn0:n=0
 case neg =>
  have hv:printV k a b n=(⟨#[]⟩,1):=by unfold printV;rw [if_neg (by have:=HK.out;omega),if_neg (by omega),if_pos ⟨hc0,by omega,by omega,hn0⟩]
  have e2:(n != 0)=true:=bne_iff_ne.mpr hn0
  clear hc0 hc1 hb0 hn0
  have hr:=hv.symm.trans HV.out
  injection hr with hr1 hr2
  subst hr1;subst hr2
  clear hv
  go_wp2
  go_ret2
  exact ⟨rfl,HB2.out⟩
 have e2:(n != 0)=false:=bne_eq_false_iff_eq.mpr hn0
 have hv:outV (nameV k) [a]=(r1,r2):=by
  have hK:=HK.out
  rw [← HV.out];unfold printV numsL;rw [if_neg (by omega),if_neg (by omega),if_neg (by omega),if_neg hc0,if_neg hc1]
 clear hc0 hc1 hb0 hn0
 go_upto_region 10 with fail
 clear e1 e2
 have HB0:=Aside0.mk (show Below w.heap.size w W2.drew from HB2.out.trans ((below_drew (Below.refl _ _)).mono HB2.out.size))
 have KL0:=Aside0.mk (show W2.drew.heap[bl]?=some (.cells #[.int .i64 a,.int .i64 b,.int .i64 n] 34 (0,0)) from blk_drew KL2.out)
 clear HB2 KA2 KL2 ca1 ca2 ca3
 refine start_ (n:=5) (S:=fun w' => w'.cell? ⟨ba,0,none⟩=some (.int .i64 k)) (ds:=[]) #[false,false,false,false,false] (by kernel_rfl) rfl rfl (ca0) (fun hHeld => ?_)
 refine pure_ (i:=1) (N:=some 52) (v:=?_) (a':=?_) #[false,true,false,false,false] rfl rfl (by kernel_rfl) (fun _ _ _ h => h) (Or.inl ⟨by rfl,?_⟩) ?_ ?_
 rotate_left
 ·intro w'
  go_simp
  with_reducible rfl
 rotate_left
 ·simp only [Act.put,List.setIfInBounds_toArray,List.set_cons_zero,List.set_cons_succ,i64_w,i32_w]
  rfl
 refine take_ (i:=2) (N:=some 53) (v:=?_) (a':=?_) #[false,true,true,false,false] rfl rfl (by kernel_rfl) (fun _ _ _ h => h) (Or.inl ⟨by rfl,?_⟩) hHeld ?_ ?_
 rotate_left
 ·intro w' s0
  go_simp
  with_reducible rfl
 rotate_left
 ·simp only [Act.put,List.setIfInBounds_toArray,List.set_cons_zero,List.set_cons_succ,i64_w,i32_w]
  rfl
 refine one_ (i:=0) (N:=some 51) #[true,true,true,false,false] rfl rfl (by kernel_rfl) (by decide) (fun K hK => ?_)
 refine goes_ Tryd.func10 (by kernel_rfl) rfl #[] (by rfl) rfl rfl (by simp only [List.map_toArray,List.map_nil]) ?_
 refine (words.calls _).mono ?_
 rintro e w1' ⟨rfl,hbw⟩
 refine ⟨_,rfl,?_⟩
 have HB1:=Aside0.mk (Below.trans HB0.out (hbw.mono (below_size HB0.out)))
 have ca1:=pw_cell_below hbw ca0
 have KL1:=Aside0.mk ((hbw.block _ (blk_lt KL0.out)).trans KL0.out)
 clear hbw
 refine hK.out _ _ (ca1) (fun hHeld => ?_)
 clear hK K
 refine norm_ (a':=?_) ?_ ?_
 rotate_left
 ·show Act.put _ (some 51) _=_
  simp only [Act.put,List.setIfInBounds_toArray,List.set_cons_zero,List.set_cons_succ,i64_w,i32_w]
  rfl
 refine take_ (i:=3) (N:=some 54) (v:=?_) (a':=?_) #[true,true,true,true,false] rfl rfl (by kernel_rfl) (fun _ _ _ h => h) (Or.inl ⟨by rfl,?_⟩) hHeld ?_ ?_
 rotate_left
 ·intro w' s0
  go_simp
  with_reducible rfl
 rotate_left
 ·simp only [Act.put,List.setIfInBounds_toArray,List.set_cons_zero,List.set_cons_succ,i64_w,i32_w]
  rfl
 refine pure_ (i:=4) (N:=some 6) (v:=?_) (a':=?_) #[true,true,true,true,true] rfl rfl (by kernel_rfl) (fun _ _ _ h => h) (Or.inl ⟨by rfl,?_⟩) ?_ ?_
 rotate_left
 ·intro w'
  go_simp
  with_reducible rfl
 rotate_left
 ·simp only [Act.put,List.setIfInBounds_toArray,List.set_cons_zero,List.set_cons_succ,i64_w,i32_w]
  rfl
 refine done_ (by kernel_rfl) ?_
 clear hHeld ca0 ca1 KL0 HB0
 have lc0:=(blk_cell KL1.out 0).trans rfl
 have lc1:=(blk_cell KL1.out 1).trans rfl
 have lc2:=(blk_cell KL1.out 2).trans rfl
 go_wp2
 have HBT:=HB1
 have KLT:=KL1
 clear HB1 KL1 lc0 lc1 lc2
 go_loopw [58,6] (fun vi vs W => ∃ (i:Int) (s:ByteArray),vi=.int .i64 i∧vs=.string s∧Aside0 (0≤i∧i≤1)∧Aside0 (outV s ([a].drop i.toNat)=(r1,r2))∧Aside0 (s.size≤100 + 30 * i.toNat)∧Aside0 (Below w.heap.size w W)∧Aside0 (W.heap[bl]?=some (.cells #[.int .i64 a,.int .i64 b,.int .i64 n] 34 (0,0)))) (fun vi _ _ => 1 - (intOf vi).toNat)
 case atStart => exact ⟨0,nameV k,rfl,rfl,⟨by omega⟩,⟨hv⟩,⟨name_size k⟩,HBT,KLT⟩
 case round =>
  obtain ⟨i,s,rfl,rfl,HI,HO,HZ,HBr,KLr⟩:=hrel
  by_cases hi:i < 1
  ·have d1:decide (i < 1)=true:=decide_eq_true hi
   obtain ⟨x,l,hx,hl,hxc,hxr⟩:∃ x l,[a].drop i.toNat=x :: l∧[a].drop (i + 1).toNat=l∧wr.cell? ⟨bl,i.toNat,none⟩=some (.int .i64 x)∧(-9223372036854775808≤x∧x≤9223372036854775807):=by
    have h0:=HI.out.1
    obtain rfl:i=0:=by omega
    ·exact ⟨a,[],rfl,rfl,(blk_cell KLr.out 0).trans rfl,HA.out⟩
   have HX:=Aside0.mk hxr
   have HO2:=Aside0.mk (show outV s (x :: l)=(r1,r2) from hx ▸ HO.out)
   have HLL:=Aside0.mk hl
   have HII:=Aside0.mk hi
   have p0:(0≤i)=True:=eq_true HI.out.1
   have p1:(i < 1)=True:=eq_true hi
   clear hx hl hxr hi HO
   go_wp2_with fail
   refine (Tryd.strconv_FormatInt_10 x HX.out.1 HX.out.2 wr (tab_below hG.out.tab HBr.out)).mono ?_
   rintro e w3 ⟨rfl,nn,os,hw⟩
   have HB3:=Aside0.mk (show Below wr.heap.size wr w3 from by rw [hw];exact (pw_below_drewN (Below.refl _ _) nn).trans ((grow_below (wr.drewN nn) os).mono (show wr.heap.size≤(wr.drewN nn).heap.size from Nat.le_refl _)))
   clear hw
   go_wp2_with fail
   have hlen:=Lib.itoa_length_le x HX.out.1 HX.out.2
   have hsz:(⟨(Lib.itoa x).toArray⟩:ByteArray).size≤21:=by show (Lib.itoa x).toArray.size≤21;rw [List.size_toArray];exact hlen
   have HB03:=Aside0.mk (HBr.out.trans (HB3.out.mono HBr.out.size))
   have hc:=number.calls ⟨(Lib.itoa x).toArray⟩ w3 (by omega) ⟨GG.below hG.out HB03.out⟩
   rw [numV_itoa HX.out] at hc
   refine hc.mono ?_
   clear hc
   rintro e w4 ⟨rfl,hb4⟩
   have HB4:=Aside0.mk (HB03.out.trans (hb4.mono HB03.out.size))
   have KL4:=Aside0.mk (((HB3.out.trans (hb4.mono HB3.out.size)).block _ (blk_lt KLr.out)).trans KLr.out)
   clear hb4 HB3 HB03 hxc KLr HBr
   by_cases hf:fit18 x=true
   ·rw [hf]
    have HO3:=Aside0.mk (show outV (s++(⟨#[32]⟩++⟨(Lib.itoa x).toArray⟩)) l=(r1,r2) from by rw [← HO2.out];exact (if_pos hf).symm)
    have HZZ:=HZ.out
    have HI2:=HI.out
    have g1:¬ 9223372036854775807 < 1 + (Lib.itoa x).length:=by omega
    have g2:¬ 9223372036854775807 < s.size + (1 + (Lib.itoa x).length):=by omega
    have hwi:wrap64 (i + 1)=i + 1:=by unfold wrap64;omega
    clear hf HZZ HI2
    go_wp2
    go_roundw
    case measure =>
     have:=HII.out
     have:=HI.out.1
     show 1 - (wrap64 (i + 1)).toNat < 1 - i.toNat
     rw [hwi]
     omega
    case rel =>
     rw [hwi]
     refine ⟨i + 1,_,rfl,rfl,⟨by have:=HII.out;have:=HI.out.1;omega⟩,⟨by rw [HLL.out];exact HO3.out⟩,⟨?_⟩,HB4,KL4⟩
     have hlen2:=HZ.out
     have:=HI.out.1
     rw [ByteArray.size_append,ByteArray.size_append]
     have:(⟨#[32]⟩:ByteArray).size=1:=rfl
     omega
   ·rw [Bool.eq_false_iff.2 hf]
    have hr:(⟨#[]⟩,1)=(r1,r2):=by rw [← HO2.out];unfold outV;rw [if_neg hf]
    injection hr with hr1 hr2
    subst hr1;subst hr2
    clear hf
    go_wp2
    go_ret2
    exact ⟨rfl,HB4.out⟩
  ·have d1:decide (i < 1)=false:=decide_eq_false hi
   have hr:(s,0)=(r1,r2):=by
    rw [← HO.out,List.drop_eq_nil_of_le (by simp only [List.length_cons,List.length_nil];have:=HI.out;omega)]
    rfl
   injection hr with hr1 hr2
   subst hr1;subst hr2
   clear hi
   go_wp2
   go_ret2
   exact ⟨rfl,HBr.out⟩
end Go.Proofs.YteooddfilnijgaaDoor.Px
namespace Go.Proofs.YteooddfilnijgaaDoor.Px
open Go.RowKit Go.Proofs.YteooddfilnijgaaDoorW.PrintWords Go.Proofs.YteooddfilnijgaaDoorW.PrintLast Go.Proofs.YteooddfilnijgaaDoorW.PrintMore
attribute [local go_sem] max2_int min2_int max_two min_two max_three min_three max_four min_four
set_option linter.unusedVariables false
set_option linter.unusedSimpArgs false
def understudylaw23_awake.f :Option (Bool):=(script_Print.f 0 0 0 5).bind fun bt123 => (if bt123.1.toList=([114,117,110,32,48,32,48,32,53]:List UInt8) then (some (bt123.2==0)) else (some false))
set_option maxHeartbeats 80000000 in
set_option maxRecDepth 100000 in
theorem understudylaw23_awake.calls  (r:Bool) (w:World) (hG:Aside0 (GG w)) (h:understudylaw23_awake.f =some r) :
  Calls Tryd.prog 7 #[] w fun e w' => e=.returned (.bool r)∧Below w.heap.size w w':=by
 have hu23:=Tryd.underlying23
 have HB:=Aside0.mk (Below.refl w.heap.size w)
 have H:((script_Print.f 0 0 0 5).bind fun bt123 => (if bt123.1.toList=([114,117,110,32,48,32,48,32,53]:List UInt8) then (some (bt123.2==0)) else (some false)))=some r:=h
 clear h
 replace H:=Option.bind_eq_some_iff.mp H
 obtain ⟨⟨t123,t124⟩,A10,H⟩:=H
 replace H:(if t123.toList=([114,117,110,32,48,32,48,32,53]:List UInt8) then (some (t124==0)) else (some false))=some r:=H
 have A1:=Aside0.mk A10
 clear A10
 by_cases c2:t123.toList=([114,117,110,32,48,32,48,32,53]:List UInt8)
 ·rw [if_pos c2] at H
  have c2b0:(t123.toList==([114,117,110,32,48,32,48,32,53]:List UInt8))=true:=beq_iff_eq.mpr c2
  have c2b1:(t123.toList != ([114,117,110,32,48,32,48,32,53]:List UInt8))=false:=bne_eq_false_iff_eq.mpr c2
  clear c2
  obtain rfl:=Option.some.inj H
  go_enter Tryd.func7,Tryd.ntmps7
  go_wp2_with (first|((with_reducible refine gate_callee (f:=5) rfl ?_);refine goesL_ (some 5) rfl rfl Tryd.func5 (by kernel_rfl) rfl #[.agg #[.int .i64 0,.int .i64 0,.int .i64 0,.int .i64 5]] rfl (by (try simp only [List.map_toArray,List.map_cons,List.map_nil]);first|done|rfl|(simp only [List.length_drop,List.length_take];rfl)) ?_;(with_reducible refine (script_Print.calls 0 0 0 5 t123 t124 _ ?side1 A1.out).mono ?_);(case side1 => exact ⟨GG.below hG.out (by repeat (first|(with_reducible first|exact HB.out|apply below_alloc|apply pw_below_drewN|apply below_drew1)|exact HB.out))⟩);rintro e w3 ⟨rfl,hb⟩;refine ⟨_,rfl,?_⟩;have n0_:=Aside0.mk (below_step (by repeat (first|(with_reducible first|exact HB.out|apply below_alloc|apply pw_below_drewN|apply below_drew1)|exact HB.out)) hb);clear HB;have HB:=n0_;clear n0_;(try clear hb);(try clear hb2);(try clear hk);(try clear hi)))
  go_ret
  exact ⟨by first|rfl|(simp [errW_none,errW_some] <;> rfl)|(simp [*,errW_none,errW_some] <;> rfl),by repeat (first|(with_reducible first|exact HB.out|apply below_alloc|apply pw_below_drewN|apply below_drew1)|exact HB.out)⟩
 ·rw [if_neg c2] at H
  have c2b0:(t123.toList==([114,117,110,32,48,32,48,32,53]:List UInt8))=false:=beq_eq_false_iff_ne.mpr c2
  have c2b1:(t123.toList != ([114,117,110,32,48,32,48,32,53]:List UInt8))=true:=bne_iff_ne.mpr c2
  obtain rfl:=Option.some.inj H
  go_enter Tryd.func7,Tryd.ntmps7
  go_wp2_with (first|((with_reducible refine gate_callee (f:=5) rfl ?_);refine goesL_ (some 5) rfl rfl Tryd.func5 (by kernel_rfl) rfl #[.agg #[.int .i64 0,.int .i64 0,.int .i64 0,.int .i64 5]] rfl (by (try simp only [List.map_toArray,List.map_cons,List.map_nil]);first|done|rfl|(simp only [List.length_drop,List.length_take];rfl)) ?_;(with_reducible refine (script_Print.calls 0 0 0 5 t123 t124 _ ?side1 A1.out).mono ?_);(case side1 => exact ⟨GG.below hG.out (by repeat (first|(with_reducible first|exact HB.out|apply below_alloc|apply pw_below_drewN|apply below_drew1)|exact HB.out))⟩);rintro e w4 ⟨rfl,hb⟩;refine ⟨_,rfl,?_⟩;have n0_:=Aside0.mk (below_step (by repeat (first|(with_reducible first|exact HB.out|apply below_alloc|apply pw_below_drewN|apply below_drew1)|exact HB.out)) hb);clear HB;have HB:=n0_;clear n0_;(try clear hb);(try clear hb2);(try clear hk);(try clear hi)))
  go_ret
  exact ⟨by first|rfl|(simp [errW_none,errW_some] <;> rfl)|(simp [*,errW_none,errW_some] <;> rfl),by repeat (first|(with_reducible first|exact HB.out|apply below_alloc|apply pw_below_drewN|apply below_drew1)|exact HB.out)⟩
def understudylaw23_ScriptPrints.f (k:Nat) (a0_0:Int) (a0_1:Int) (a0_2:Int) (a0_3:Int):Option (Bool):=(script_Print.f a0_0 a0_1 a0_2 a0_3).bind fun bt126 => ((understudyref23_Print.f k a0_0 a0_1 a0_2 a0_3).bind fun bt128 => (if bt126.1.toList=bt128.1.toList then (if bt126.2=bt128.2 then ((understudylaw23_awake.f).bind fun t130 => (some t130)) else (some false)) else (some false)))
theorem understudylaw23_ScriptPrints.mono:∀ a0 a1 a2 a3 k,LeO (understudylaw23_ScriptPrints.f k a0 a1 a2 a3) (understudylaw23_ScriptPrints.f (k + 1) a0 a1 a2 a3):=by
 intro a0 a1 a2 a3 k
 unfold understudylaw23_ScriptPrints.f
 repeat' first
   | (with_reducible exact understudyref23_Print.mono _ _ _ _ _)
   | (with_reducible exact LeO.refl _)
   | (with_reducible exact LeO.none _)
   | (with_reducible refine LeO.ite ?_ ?_)
   | (with_reducible refine LeO.bind ?_ (fun _ => ?_))
   | exact understudyref23_Print.mono _ _ _ _ _
   | exact LeO.none _
   | refine LeO.ite ?_ ?_
   | refine LeO.bind ?_ (fun _ => ?_)
set_option maxHeartbeats 80000000 in
set_option maxRecDepth 100000 in
theorem understudylaw23_ScriptPrints.calls (k:Nat) (a0_0:Int) (a0_1:Int) (a0_2:Int) (a0_3:Int) (r:Bool) (w:World) (hG:Aside0 (GG w)) (h:understudylaw23_ScriptPrints.f k a0_0 a0_1 a0_2 a0_3=some r) :
  Calls Tryd.prog 3 #[.agg #[.int .i64 a0_0,.int .i64 a0_1,.int .i64 a0_2,.int .i64 a0_3]] w fun e w' => e=.returned (.bool r)∧Below w.heap.size w w':=by
 have hu23:=Tryd.underlying23
 have HB:=Aside0.mk (Below.refl w.heap.size w)
 have H:((script_Print.f a0_0 a0_1 a0_2 a0_3).bind fun bt126 => ((understudyref23_Print.f k a0_0 a0_1 a0_2 a0_3).bind fun bt128 => (if bt126.1.toList=bt128.1.toList then (if bt126.2=bt128.2 then ((understudylaw23_awake.f).bind fun t130 => (some t130)) else (some false)) else (some false))))=some r:=h
 clear h
 replace H:=Option.bind_eq_some_iff.mp H
 obtain ⟨⟨t126,t127⟩,A20,H⟩:=H
 replace H:((understudyref23_Print.f k a0_0 a0_1 a0_2 a0_3).bind fun bt128 => (if t126.toList=bt128.1.toList then (if t127=bt128.2 then ((understudylaw23_awake.f).bind fun t130 => (some t130)) else (some false)) else (some false)))=some r:=H
 have A2:=Aside0.mk A20
 clear A20
 replace H:=Option.bind_eq_some_iff.mp H
 obtain ⟨⟨t128,t129⟩,A30,H⟩:=H
 replace H:(if t126.toList=t128.toList then (if t127=t129 then ((understudylaw23_awake.f).bind fun t130 => (some t130)) else (some false)) else (some false))=some r:=H
 have A3:=Aside0.mk A30
 clear A30
 by_cases c4:t126.toList=t128.toList
 ·rw [if_pos c4] at H
  have c4b0:(t126.toList==t128.toList)=true:=beq_iff_eq.mpr c4
  have c4b1:(t126.toList != t128.toList)=false:=bne_eq_false_iff_eq.mpr c4
  clear c4
  by_cases c5:t127=t129
  ·rw [if_pos c5] at H
   have c5b0:(t127==t129)=true:=beq_iff_eq.mpr c5
   have c5b1:(t127 != t129)=false:=bne_eq_false_iff_eq.mpr c5
   clear c5
   replace H:=Option.bind_eq_some_iff.mp H
   obtain ⟨t130,A60,H⟩:=H
   replace H:(some t130)=some r:=H
   have A6:=Aside0.mk A60
   clear A60
   obtain rfl:=Option.some.inj H
   go_enter Tryd.func3,Tryd.ntmps3
   go_wp2_with (first|((with_reducible refine gate_dst (N:=1) rfl ?_);refine box_event ?hg (N:=1) ?hd (cs:=#[.int .i64 a0_0,.int .i64 a0_1,.int .i64 a0_2,.int .i64 a0_3]) (t:=23) ?hr ?_;(case hd => rfl);(case hg => rfl);(case hr => first|(go_simp;done)|(go_simp;rfl));intro gb125 hg w7 hbox hb;have n0_:=Aside0.mk (below_step (by repeat (first|(with_reducible first|exact HB.out|apply below_alloc|apply pw_below_drewN|apply below_drew1)|exact HB.out)) hb);have n1_:=Aside0.mk (hbox);have n2_:=Aside0.mk ((by rw [hg];exact (below_size (by repeat (first|(with_reducible first|exact HB.out|apply below_alloc|apply pw_below_drewN|apply below_drew1)|exact HB.out))):w.heap.size≤gb125));have n3_:=Aside0.mk ((by rw [hg];exact (below_size (by repeat (first|(with_reducible first|exact HB.out|apply below_alloc|apply pw_below_drewN|apply below_drew1)|exact HB.out))):w.heap.size≤gb125));clear HB;have HB:=n0_;have BK125:=n1_;have GW125:=n2_;have GE125:=n3_;clear n0_ n1_ n2_ n3_;clear hb hbox hg;have hcz8_0:w7.cell? ⟨gb125,0,none⟩=some (.int .i64 a0_0):=(blk_cell BK125.out 0).trans rfl;have hcz8_1:w7.cell? ⟨gb125,1,none⟩=some (.int .i64 a0_1):=(blk_cell BK125.out 1).trans rfl;have hcz8_2:w7.cell? ⟨gb125,2,none⟩=some (.int .i64 a0_2):=(blk_cell BK125.out 2).trans rfl;have hcz8_3:w7.cell? ⟨gb125,3,none⟩=some (.int .i64 a0_3):=(blk_cell BK125.out 3).trans rfl;have hfz8_0:=blk_frozen BK125.out 0;have hfz8_1:=blk_frozen BK125.out 1;have hfz8_2:=blk_frozen BK125.out 2;have hfz8_3:=blk_frozen BK125.out 3)|((with_reducible refine gate_callee (f:=5) rfl ?_);refine goesL_ (some 9) rfl rfl Tryd.func5 (by kernel_rfl) rfl #[.agg #[.int .i64 a0_0,.int .i64 a0_1,.int .i64 a0_2,.int .i64 a0_3]] rfl (by (try simp only [List.map_toArray,List.map_cons,List.map_nil]);first|done|rfl|(simp only [List.length_drop,List.length_take];rfl)) ?_;(with_reducible refine (script_Print.calls a0_0 a0_1 a0_2 a0_3 t126 t127 _ ?side1 A2.out).mono ?_);(case side1 => exact ⟨GG.below hG.out (by repeat (first|(with_reducible first|exact HB.out|apply below_alloc|apply pw_below_drewN|apply below_drew1|refine below_set ?_ GE125.out)|exact HB.out))⟩);rintro e w9 ⟨rfl,hb⟩;refine ⟨_,rfl,?_⟩;have n0_:=Aside0.mk (blk_below (g:=gb125) (o:=.cells #[.int .i64 a0_0,.int .i64 a0_1,.int .i64 a0_2,.int .i64 a0_3] 23 (0,0)) (by (with_reducible repeat (first|refine blk_drewN ?_ _|refine blk_drew ?_|refine blk_alloc ?_ _));exact BK125.out) hb);have n1_:=Aside0.mk (below_step (by repeat (first|(with_reducible first|exact HB.out|apply below_alloc|apply pw_below_drewN|apply below_drew1|refine below_set ?_ GE125.out)|exact HB.out)) hb);clear BK125;clear HB;have BK125:=n0_;have HB:=n1_;clear n0_ n1_;(try clear hb);(try clear hb2);(try clear hk);(try clear hi);have hcz10_0:w9.cell? ⟨gb125,0,none⟩=some (.int .i64 a0_0):=(blk_cell BK125.out 0).trans rfl;have hcz10_1:w9.cell? ⟨gb125,1,none⟩=some (.int .i64 a0_1):=(blk_cell BK125.out 1).trans rfl;have hcz10_2:w9.cell? ⟨gb125,2,none⟩=some (.int .i64 a0_2):=(blk_cell BK125.out 2).trans rfl;have hcz10_3:w9.cell? ⟨gb125,3,none⟩=some (.int .i64 a0_3):=(blk_cell BK125.out 3).trans rfl;have hfz10_0:=blk_frozen BK125.out 0;have hfz10_1:=blk_frozen BK125.out 1;have hfz10_2:=blk_frozen BK125.out 2;have hfz10_3:=blk_frozen BK125.out 3)|((with_reducible refine gate_callee (f:=6) rfl ?_);refine goesL_ (some 14) rfl rfl Tryd.func6 (by kernel_rfl) rfl #[.agg #[.int .i64 a0_0,.int .i64 a0_1,.int .i64 a0_2,.int .i64 a0_3]] rfl (by (try simp only [List.map_toArray,List.map_cons,List.map_nil]);first|done|rfl|(simp only [List.length_drop,List.length_take];rfl)) ?_;(with_reducible refine (understudyref23_Print.calls k a0_0 a0_1 a0_2 a0_3 t128 t129 _ A3.out).mono ?_);rintro e w11 ⟨rfl,hb⟩;refine ⟨_,rfl,?_⟩;have n0_:=Aside0.mk (blk_below (g:=gb125) (o:=.cells #[.int .i64 a0_0,.int .i64 a0_1,.int .i64 a0_2,.int .i64 a0_3] 23 (0,0)) (by (with_reducible repeat (first|refine blk_drewN ?_ _|refine blk_drew ?_|refine blk_alloc ?_ _));exact BK125.out) hb);have n1_:=Aside0.mk (below_step (by repeat (first|(with_reducible first|exact HB.out|apply below_alloc|apply pw_below_drewN|apply below_drew1|refine below_set ?_ GE125.out)|exact HB.out)) hb);clear BK125;clear HB;have BK125:=n0_;have HB:=n1_;clear n0_ n1_;(try clear hb);(try clear hb2);(try clear hk);(try clear hi))|(go_at_call 7;(with_reducible refine (understudylaw23_awake.calls  t130 _ ?side1 A6.out).mono ?_);(case side1 => exact ⟨GG.below hG.out (by repeat (first|(with_reducible first|exact HB.out|apply below_alloc|apply pw_below_drewN|apply below_drew1|refine below_set ?_ GE125.out)|exact HB.out))⟩);rintro e w12 ⟨rfl,hb⟩;have n0_:=Aside0.mk (blk_below (g:=gb125) (o:=.cells #[.int .i64 a0_0,.int .i64 a0_1,.int .i64 a0_2,.int .i64 a0_3] 23 (0,0)) (by (with_reducible repeat (first|refine blk_drewN ?_ _|refine blk_drew ?_|refine blk_alloc ?_ _));exact BK125.out) hb);have n1_:=Aside0.mk (below_step (by repeat (first|(with_reducible first|exact HB.out|apply below_alloc|apply pw_below_drewN|apply below_drew1|refine below_set ?_ GE125.out)|exact HB.out)) hb);clear BK125;clear HB;have BK125:=n0_;have HB:=n1_;clear n0_ n1_;(try clear hb);(try clear hb2);(try clear hk);(try clear hi)))
   go_ret
   exact ⟨by first|rfl|(simp [errW_none,errW_some] <;> rfl)|(simp [*,errW_none,errW_some] <;> rfl),by repeat (first|(with_reducible first|exact HB.out|apply below_alloc|apply pw_below_drewN|apply below_drew1|refine below_set ?_ GE125.out)|exact HB.out)⟩
  ·rw [if_neg c5] at H
   have c5b0:(t127==t129)=false:=beq_eq_false_iff_ne.mpr c5
   have c5b1:(t127 != t129)=true:=bne_iff_ne.mpr c5
   obtain rfl:=Option.some.inj H
   go_enter Tryd.func3,Tryd.ntmps3
   go_wp2_with (first|((with_reducible refine gate_dst (N:=1) rfl ?_);refine box_event ?hg (N:=1) ?hd (cs:=#[.int .i64 a0_0,.int .i64 a0_1,.int .i64 a0_2,.int .i64 a0_3]) (t:=23) ?hr ?_;(case hd => rfl);(case hg => rfl);(case hr => first|(go_simp;done)|(go_simp;rfl));intro gb125 hg w13 hbox hb;have n0_:=Aside0.mk (below_step (by repeat (first|(with_reducible first|exact HB.out|apply below_alloc|apply pw_below_drewN|apply below_drew1)|exact HB.out)) hb);have n1_:=Aside0.mk (hbox);have n2_:=Aside0.mk ((by rw [hg];exact (below_size (by repeat (first|(with_reducible first|exact HB.out|apply below_alloc|apply pw_below_drewN|apply below_drew1)|exact HB.out))):w.heap.size≤gb125));have n3_:=Aside0.mk ((by rw [hg];exact (below_size (by repeat (first|(with_reducible first|exact HB.out|apply below_alloc|apply pw_below_drewN|apply below_drew1)|exact HB.out))):w.heap.size≤gb125));clear HB;have HB:=n0_;have BK125:=n1_;have GW125:=n2_;have GE125:=n3_;clear n0_ n1_ n2_ n3_;clear hb hbox hg;have hcz14_0:w13.cell? ⟨gb125,0,none⟩=some (.int .i64 a0_0):=(blk_cell BK125.out 0).trans rfl;have hcz14_1:w13.cell? ⟨gb125,1,none⟩=some (.int .i64 a0_1):=(blk_cell BK125.out 1).trans rfl;have hcz14_2:w13.cell? ⟨gb125,2,none⟩=some (.int .i64 a0_2):=(blk_cell BK125.out 2).trans rfl;have hcz14_3:w13.cell? ⟨gb125,3,none⟩=some (.int .i64 a0_3):=(blk_cell BK125.out 3).trans rfl;have hfz14_0:=blk_frozen BK125.out 0;have hfz14_1:=blk_frozen BK125.out 1;have hfz14_2:=blk_frozen BK125.out 2;have hfz14_3:=blk_frozen BK125.out 3)|((with_reducible refine gate_callee (f:=5) rfl ?_);refine goesL_ (some 9) rfl rfl Tryd.func5 (by kernel_rfl) rfl #[.agg #[.int .i64 a0_0,.int .i64 a0_1,.int .i64 a0_2,.int .i64 a0_3]] rfl (by (try simp only [List.map_toArray,List.map_cons,List.map_nil]);first|done|rfl|(simp only [List.length_drop,List.length_take];rfl)) ?_;(with_reducible refine (script_Print.calls a0_0 a0_1 a0_2 a0_3 t126 t127 _ ?side1 A2.out).mono ?_);(case side1 => exact ⟨GG.below hG.out (by repeat (first|(with_reducible first|exact HB.out|apply below_alloc|apply pw_below_drewN|apply below_drew1|refine below_set ?_ GE125.out)|exact HB.out))⟩);rintro e w15 ⟨rfl,hb⟩;refine ⟨_,rfl,?_⟩;have n0_:=Aside0.mk (blk_below (g:=gb125) (o:=.cells #[.int .i64 a0_0,.int .i64 a0_1,.int .i64 a0_2,.int .i64 a0_3] 23 (0,0)) (by (with_reducible repeat (first|refine blk_drewN ?_ _|refine blk_drew ?_|refine blk_alloc ?_ _));exact BK125.out) hb);have n1_:=Aside0.mk (below_step (by repeat (first|(with_reducible first|exact HB.out|apply below_alloc|apply pw_below_drewN|apply below_drew1|refine below_set ?_ GE125.out)|exact HB.out)) hb);clear BK125;clear HB;have BK125:=n0_;have HB:=n1_;clear n0_ n1_;(try clear hb);(try clear hb2);(try clear hk);(try clear hi);have hcz16_0:w15.cell? ⟨gb125,0,none⟩=some (.int .i64 a0_0):=(blk_cell BK125.out 0).trans rfl;have hcz16_1:w15.cell? ⟨gb125,1,none⟩=some (.int .i64 a0_1):=(blk_cell BK125.out 1).trans rfl;have hcz16_2:w15.cell? ⟨gb125,2,none⟩=some (.int .i64 a0_2):=(blk_cell BK125.out 2).trans rfl;have hcz16_3:w15.cell? ⟨gb125,3,none⟩=some (.int .i64 a0_3):=(blk_cell BK125.out 3).trans rfl;have hfz16_0:=blk_frozen BK125.out 0;have hfz16_1:=blk_frozen BK125.out 1;have hfz16_2:=blk_frozen BK125.out 2;have hfz16_3:=blk_frozen BK125.out 3)|((with_reducible refine gate_callee (f:=6) rfl ?_);refine goesL_ (some 14) rfl rfl Tryd.func6 (by kernel_rfl) rfl #[.agg #[.int .i64 a0_0,.int .i64 a0_1,.int .i64 a0_2,.int .i64 a0_3]] rfl (by (try simp only [List.map_toArray,List.map_cons,List.map_nil]);first|done|rfl|(simp only [List.length_drop,List.length_take];rfl)) ?_;(with_reducible refine (understudyref23_Print.calls k a0_0 a0_1 a0_2 a0_3 t128 t129 _ A3.out).mono ?_);rintro e w17 ⟨rfl,hb⟩;refine ⟨_,rfl,?_⟩;have n0_:=Aside0.mk (blk_below (g:=gb125) (o:=.cells #[.int .i64 a0_0,.int .i64 a0_1,.int .i64 a0_2,.int .i64 a0_3] 23 (0,0)) (by (with_reducible repeat (first|refine blk_drewN ?_ _|refine blk_drew ?_|refine blk_alloc ?_ _));exact BK125.out) hb);have n1_:=Aside0.mk (below_step (by repeat (first|(with_reducible first|exact HB.out|apply below_alloc|apply pw_below_drewN|apply below_drew1|refine below_set ?_ GE125.out)|exact HB.out)) hb);clear BK125;clear HB;have BK125:=n0_;have HB:=n1_;clear n0_ n1_;(try clear hb);(try clear hb2);(try clear hk);(try clear hi)))
   go_ret
   exact ⟨by first|rfl|(simp [errW_none,errW_some] <;> rfl)|(simp [*,errW_none,errW_some] <;> rfl),by repeat (first|(with_reducible first|exact HB.out|apply below_alloc|apply pw_below_drewN|apply below_drew1|refine below_set ?_ GE125.out)|exact HB.out)⟩
 ·rw [if_neg c4] at H
  have c4b0:(t126.toList==t128.toList)=false:=beq_eq_false_iff_ne.mpr c4
  have c4b1:(t126.toList != t128.toList)=true:=bne_iff_ne.mpr c4
  obtain rfl:=Option.some.inj H
  go_enter Tryd.func3,Tryd.ntmps3
  go_wp2_with (first|((with_reducible refine gate_dst (N:=1) rfl ?_);refine box_event ?hg (N:=1) ?hd (cs:=#[.int .i64 a0_0,.int .i64 a0_1,.int .i64 a0_2,.int .i64 a0_3]) (t:=23) ?hr ?_;(case hd => rfl);(case hg => rfl);(case hr => first|(go_simp;done)|(go_simp;rfl));intro gb125 hg w18 hbox hb;have n0_:=Aside0.mk (below_step (by repeat (first|(with_reducible first|exact HB.out|apply below_alloc|apply pw_below_drewN|apply below_drew1)|exact HB.out)) hb);have n1_:=Aside0.mk (hbox);have n2_:=Aside0.mk ((by rw [hg];exact (below_size (by repeat (first|(with_reducible first|exact HB.out|apply below_alloc|apply pw_below_drewN|apply below_drew1)|exact HB.out))):w.heap.size≤gb125));have n3_:=Aside0.mk ((by rw [hg];exact (below_size (by repeat (first|(with_reducible first|exact HB.out|apply below_alloc|apply pw_below_drewN|apply below_drew1)|exact HB.out))):w.heap.size≤gb125));clear HB;have HB:=n0_;have BK125:=n1_;have GW125:=n2_;have GE125:=n3_;clear n0_ n1_ n2_ n3_;clear hb hbox hg;have hcz19_0:w18.cell? ⟨gb125,0,none⟩=some (.int .i64 a0_0):=(blk_cell BK125.out 0).trans rfl;have hcz19_1:w18.cell? ⟨gb125,1,none⟩=some (.int .i64 a0_1):=(blk_cell BK125.out 1).trans rfl;have hcz19_2:w18.cell? ⟨gb125,2,none⟩=some (.int .i64 a0_2):=(blk_cell BK125.out 2).trans rfl;have hcz19_3:w18.cell? ⟨gb125,3,none⟩=some (.int .i64 a0_3):=(blk_cell BK125.out 3).trans rfl;have hfz19_0:=blk_frozen BK125.out 0;have hfz19_1:=blk_frozen BK125.out 1;have hfz19_2:=blk_frozen BK125.out 2;have hfz19_3:=blk_frozen BK125.out 3)|((with_reducible refine gate_callee (f:=5) rfl ?_);refine goesL_ (some 9) rfl rfl Tryd.func5 (by kernel_rfl) rfl #[.agg #[.int .i64 a0_0,.int .i64 a0_1,.int .i64 a0_2,.int .i64 a0_3]] rfl (by (try simp only [List.map_toArray,List.map_cons,List.map_nil]);first|done|rfl|(simp only [List.length_drop,List.length_take];rfl)) ?_;(with_reducible refine (script_Print.calls a0_0 a0_1 a0_2 a0_3 t126 t127 _ ?side1 A2.out).mono ?_);(case side1 => exact ⟨GG.below hG.out (by repeat (first|(with_reducible first|exact HB.out|apply below_alloc|apply pw_below_drewN|apply below_drew1|refine below_set ?_ GE125.out)|exact HB.out))⟩);rintro e w20 ⟨rfl,hb⟩;refine ⟨_,rfl,?_⟩;have n0_:=Aside0.mk (blk_below (g:=gb125) (o:=.cells #[.int .i64 a0_0,.int .i64 a0_1,.int .i64 a0_2,.int .i64 a0_3] 23 (0,0)) (by (with_reducible repeat (first|refine blk_drewN ?_ _|refine blk_drew ?_|refine blk_alloc ?_ _));exact BK125.out) hb);have n1_:=Aside0.mk (below_step (by repeat (first|(with_reducible first|exact HB.out|apply below_alloc|apply pw_below_drewN|apply below_drew1|refine below_set ?_ GE125.out)|exact HB.out)) hb);clear BK125;clear HB;have BK125:=n0_;have HB:=n1_;clear n0_ n1_;(try clear hb);(try clear hb2);(try clear hk);(try clear hi);have hcz21_0:w20.cell? ⟨gb125,0,none⟩=some (.int .i64 a0_0):=(blk_cell BK125.out 0).trans rfl;have hcz21_1:w20.cell? ⟨gb125,1,none⟩=some (.int .i64 a0_1):=(blk_cell BK125.out 1).trans rfl;have hcz21_2:w20.cell? ⟨gb125,2,none⟩=some (.int .i64 a0_2):=(blk_cell BK125.out 2).trans rfl;have hcz21_3:w20.cell? ⟨gb125,3,none⟩=some (.int .i64 a0_3):=(blk_cell BK125.out 3).trans rfl;have hfz21_0:=blk_frozen BK125.out 0;have hfz21_1:=blk_frozen BK125.out 1;have hfz21_2:=blk_frozen BK125.out 2;have hfz21_3:=blk_frozen BK125.out 3)|((with_reducible refine gate_callee (f:=6) rfl ?_);refine goesL_ (some 14) rfl rfl Tryd.func6 (by kernel_rfl) rfl #[.agg #[.int .i64 a0_0,.int .i64 a0_1,.int .i64 a0_2,.int .i64 a0_3]] rfl (by (try simp only [List.map_toArray,List.map_cons,List.map_nil]);first|done|rfl|(simp only [List.length_drop,List.length_take];rfl)) ?_;(with_reducible refine (understudyref23_Print.calls k a0_0 a0_1 a0_2 a0_3 t128 t129 _ A3.out).mono ?_);rintro e w22 ⟨rfl,hb⟩;refine ⟨_,rfl,?_⟩;have n0_:=Aside0.mk (blk_below (g:=gb125) (o:=.cells #[.int .i64 a0_0,.int .i64 a0_1,.int .i64 a0_2,.int .i64 a0_3] 23 (0,0)) (by (with_reducible repeat (first|refine blk_drewN ?_ _|refine blk_drew ?_|refine blk_alloc ?_ _));exact BK125.out) hb);have n1_:=Aside0.mk (below_step (by repeat (first|(with_reducible first|exact HB.out|apply below_alloc|apply pw_below_drewN|apply below_drew1|refine below_set ?_ GE125.out)|exact HB.out)) hb);clear BK125;clear HB;have BK125:=n0_;have HB:=n1_;clear n0_ n1_;(try clear hb);(try clear hb2);(try clear hk);(try clear hi)))
  go_ret
  exact ⟨by first|rfl|(simp [errW_none,errW_some] <;> rfl)|(simp [*,errW_none,errW_some] <;> rfl),by repeat (first|(with_reducible first|exact HB.out|apply below_alloc|apply pw_below_drewN|apply below_drew1|refine below_set ?_ GE125.out)|exact HB.out)⟩
end Go.Proofs.YteooddfilnijgaaDoor.Px
namespace Go.Proofs.YteooddfilnijgaaDoor.Px
open Go.RowKit Go.Proofs.YteooddfilnijgaaDoorW.PrintWords Go.Proofs.YteooddfilnijgaaDoorW.PrintLast Go.Proofs.YteooddfilnijgaaDoorW.PrintMore
set_option linter.unusedVariables false
theorem R_strings (W:World) (base:Nat) (l:List ByteArray) (hb:base≤W.heap.size) (hm:l.length≤9223372036854775807) :
  Kd.R Kd.string 9 (W.alloc (.cells (l.map Value.string).toArray 9)) base (fun _ => True) (.slice (some ⟨W.heap.size,0,none⟩) l.length l.length) l:=by
 refine ⟨fun _ _ => trivial,l.map Value.string,?_,?_⟩
 ·have h2:=World.ownsRow_lit (base:=base) (e:=9) (size:=1) W (l.map Value.string).toArray l.length hb (by simpa [maxLen] using hm) (by simp)
  rw [show Kd.string.sz=1 from rfl]
  simpa using h2
 ·refine ⟨by show (l.map Value.string).length=l.length * 1;simp,fun j p hj => ?_⟩
  obtain ⟨hjl,hp⟩:=List.getElem?_eq_some_iff.1 hj
  show ((l.map Value.string).drop (j * 1)).take 1=[.string p]
  rw [Nat.mul_one,List.take_one,List.head?_drop,List.getElem?_map,hj]
  rfl
def strings_Split.f (a0 a1:ByteArray):Option (List ByteArray) :=
 if a0.size < 4294967281∧1≤a1.size then some (Lib.splitB a1 0 (Lib.countB a0 a1) a0) else none
theorem strings_Split.calls (a0 a1:ByteArray) (r:List ByteArray) (w:World) (hG:Aside0 (GG w)) (h:strings_Split.f a0 a1=some r) :
  Calls Tryd.prog 21 #[.string a0,.string a1] w fun e w' => ∃ v0_:Value,e=.returned (v0_)∧Kd.R Kd.string 9 w' w.heap.size (fun _ => True) v0_ r∧Below w.heap.size w w':=by
 unfold strings_Split.f at h
 by_cases hs:a0.size < 4294967281∧1≤a1.size
 ·rw [if_pos hs] at h
  obtain rfl:=Option.some.inj h
  obtain ⟨m,hm⟩:=hG.out.ml
  refine (Tryd.strings_Split a0 a1 m w hs.1 hm hs.2).mono ?_
  rintro e w' ⟨rfl,rfl⟩
  have hl:(Lib.splitB a1 0 (Lib.countB a0 a1) a0).length=Lib.countB a0 a1 + 1:=Lib.splitB_all a1 hs.2 0 _ a0 rfl
  have hc:=Lib.splitB_length_le a1 0 (Lib.countB a0 a1) a0
  have hR:=R_strings w w.heap.size (Lib.splitB a1 0 (Lib.countB a0 a1) a0) (Nat.le_refl _) (by have:=Lib.countB_le a1 hs.2 a0.size a0 (Nat.le_refl _);have:=hs.1;omega)
  rw [hl] at hR
  exact ⟨_,rfl,hR,below_alloc (Below.refl _ _) _⟩
 ·rw [if_neg hs] at h
  exact absurd h (by simp)
def strings_CutPrefix.f (a0 a1:ByteArray):Option (ByteArray × Bool):=some (⟨(Lib.trimPrefix a0.data.toList a1.data.toList).toArray⟩,Lib.hasPrefix a0.data.toList a1.data.toList)
theorem strings_CutPrefix.calls (a0 a1:ByteArray) (r1:ByteArray) (r2:Bool) (w:World) (h:strings_CutPrefix.f a0 a1=some (r1,r2)) :
  Calls Tryd.prog 32 #[.string a0,.string a1] w fun e w' => e=.returned (.tuple #[.string r1,.bool r2])∧Drawn0 w w':=by
 simp only [strings_CutPrefix.f,Option.some.injEq,Prod.mk.injEq] at h
 obtain ⟨rfl,rfl⟩:=h
 refine (Tryd.strings_CutPrefix a0 a1 w).mono ?_
 rintro e w' ⟨he,rfl⟩
 exact ⟨he,Drawn0.refl _⟩
def strings_IndexByte.f (a0:ByteArray) (a1:Int):Option Int:=some (Lib.indexByte a0.data.toList a1.toNat.toUInt8)
theorem strings_IndexByte.calls (a0:ByteArray) (a1:Int) (r:Int) (w:World) (h:strings_IndexByte.f a0 a1=some r) :
  Calls Tryd.prog 33 #[.string a0,.int .u8 a1] w fun e w' => e=.returned (.int .i64 r)∧Drawn0 w w':=by
 simp only [strings_IndexByte.f,Option.some.injEq] at h
 subst h
 refine (Tryd.strings_IndexByte a0 a1 w).mono ?_
 rintro e w' ⟨he,rfl⟩
 exact ⟨he,Drawn0.refl _⟩
def script_number.f (a0:ByteArray):Option (Int × Bool):=if a0.size≤281474976710656 then some (numV a0) else none
theorem script_number.calls (a0:ByteArray) (r1:Int) (r2:Bool) (w:World) (hG:Aside0 (GG w)) (h:script_number.f a0=some (r1,r2)) :
  Calls Tryd.prog 12 #[.string a0] w fun e w' => e=.returned (.tuple #[.int .i64 r1,.bool r2])∧Below w.heap.size w w':=by
 unfold script_number.f at h
 by_cases hs:a0.size≤281474976710656
 ·rw [if_pos hs] at h
  have h:=Option.some.inj h
  have h1:(numV a0).1=r1:=by rw [h]
  have h2:(numV a0).2=r2:=by rw [h]
  rw [← h1,← h2]
  exact number.calls a0 w hs hG
 ·rw [if_neg hs] at h
  exact absurd h (by simp)
end Go.Proofs.YteooddfilnijgaaDoor.Px
namespace Go.Proofs.YteooddfilnijgaaDoor.Px
open Go.RowKit Go.Proofs.YteooddfilnijgaaDoorW.PrintWords Go.Proofs.YteooddfilnijgaaDoorW.PrintLast Go.Proofs.YteooddfilnijgaaDoorW.PrintMore
set_option linter.unusedVariables false
set_option linter.unusedSimpArgs false
def kindL (s : ByteArray) : List Int → Int
  | [] => -1
  | k :: l => if nameV k = s then k else kindL s l
def kindV (s : ByteArray) : Int := kindL s [0, 1, 2, 3, 4, 5, 6, 7]
def script_kind.f (a0 : ByteArray) : Option Int := some (kindV a0)
set_option maxHeartbeats 8000000 in
set_option maxRecDepth 100000 in
theorem script_kind.calls (a0 : ByteArray) (r : Int) (w : World) (h : script_kind.f a0 = some r) :
    Calls Tryd.prog 23 #[.string a0] w fun e w' => e = .returned (.int .i64 r) ∧ Below w.heap.size w w' := by
  have HK0 := Aside0.mk (Option.some.inj h)
  clear h
  go_enter Tryd.func23, Tryd.ntmps23
  go_wp2_with fail
  refine (words.calls _).mono ?_
  rintro e w1 ⟨rfl, hb⟩
  have HBT := Aside0.mk hb
  clear hb
  go_wp2
  go_loopw [6] (fun vi W => ∃ i : Int, vi = .int .i64 i ∧ Aside0 (0 ≤ i ∧ i ≤ 8) ∧ Aside0 (kindL a0 (([0, 1, 2, 3, 4, 5, 6, 7] : List Int).drop i.toNat) = r) ∧ Aside0 (Below w.heap.size w W)) (fun vi _ => 8 - (intOf vi).toNat)
  case atStart => exact ⟨0, rfl, ⟨by omega⟩, HK0, HBT⟩
  case round =>
    obtain ⟨i, rfl, HI, HK, HBr⟩ := hrel
    by_cases hi : i < 8
    · have d1 : decide (i < 8) = true := decide_eq_true hi
      have hx : ([0, 1, 2, 3, 4, 5, 6, 7] : List Int).drop i.toNat = i :: ([0, 1, 2, 3, 4, 5, 6, 7] : List Int).drop (i + 1).toNat := by
        have h0 := HI.out.1
        obtain rfl | rfl | rfl | rfl | rfl | rfl | rfl | rfl : i = 0 ∨ i = 1 ∨ i = 2 ∨ i = 3 ∨ i = 4 ∨ i = 5 ∨ i = 6 ∨ i = 7 := by omega
        all_goals rfl
      have hix := words_at HI.out.1 (by omega : i ≤ 7)
      have hwi : wrap64 (i + 1) = i + 1 := by have := HI.out; unfold wrap64; omega
      have HII := Aside0.mk hi
      by_cases he : nameV i = a0
      · have e1 : ((nameV i).toList == a0.toList) = true := by rw [he]; simp
        have e3 : decide (nameV i = a0) = true := decide_eq_true he
        have hr : i = r := by rw [← HK.out, hx]; exact (if_pos he).symm
        clear HK
        subst hr
        clear hx hi he
        go_wp2
        trace_state
        go_ret
        exact ⟨rfl, HBr.out⟩
      · have e3 : decide (nameV i = a0) = false := decide_eq_false he
        have e1 : ((nameV i).toList == a0.toList) = false := by
          rw [beq_eq_false_iff_ne]
          intro h1
          refine he ?_
          rw [Lib.toList_data, Lib.toList_data] at h1
          have h2 := Array.toList_inj.1 h1
          cases hn : nameV i; cases a0; simp_all
        have HK2 := Aside0.mk (show kindL a0 (([0, 1, 2, 3, 4, 5, 6, 7] : List Int).drop (i + 1).toNat) = r by rw [← HK.out, hx]; exact (if_neg he).symm)
        clear hx hi he HK
        go_wp2
        go_roundw
        case measure =>
          have := HII.out
          have := HI.out.1
          show 8 - (wrap64 (i + 1)).toNat < 8 - i.toNat
          rw [hwi]
          omega
        case rel =>
          rw [hwi]
          exact ⟨i + 1, rfl, ⟨by have := HII.out; have := HI.out.1; omega⟩, HK2, HBr⟩
    · have d1 : decide (i < 8) = false := decide_eq_false hi
      have hr : -1 = r := by
        rw [← HK.out, List.drop_eq_nil_of_le (by simp only [List.length_cons, List.length_nil]; have := HI.out; omega)]
        rfl
      clear HK
      subst hr
      clear hi
      go_wp2
      go_ret
      exact ⟨rfl, HBr.out⟩
def hexN (c : Int) : Int := if c < 128 then Lib.indexByte ([48, 49, 50, 51, 52, 53, 54, 55, 56, 57, 97, 98, 99, 100, 101, 102] : List UInt8) (c % 256).toNat.toUInt8 else -1
def hexL (s : ByteArray) : Nat → Nat → List Int → Int → Option (List Int × Int)
  | 0, _, out, high => some (out, high)
  | k + 1, pos, out, high => if pos < s.size then
      (if hexN (Utf8.decode s pos).1 < 0 then none
       else if high < 0 then hexL s k (pos + (Utf8.decode s pos).2) out (hexN (Utf8.decode s pos).1)
       else hexL s k (pos + (Utf8.decode s pos).2) (out ++ [(16 * high + hexN (Utf8.decode s pos).1) % 256]) (-1))
    else some (out, high)
theorem hexN_le (c : Int) : -1 ≤ hexN c ∧ hexN c ≤ 15 := by
  unfold hexN
  split
  · have h1 := Lib.indexByte_ge ([48, 49, 50, 51, 52, 53, 54, 55, 56, 57, 97, 98, 99, 100, 101, 102] : List UInt8) (c % 256).toNat.toUInt8
    refine ⟨h1, ?_⟩
    by_cases h2 : 0 ≤ Lib.indexByte ([48, 49, 50, 51, 52, 53, 54, 55, 56, 57, 97, 98, 99, 100, 101, 102] : List UInt8) (c % 256).toNat.toUInt8
    · have h3 := (Lib.indexByte_some (o := (Lib.indexByte ([48, 49, 50, 51, 52, 53, 54, 55, 56, 57, 97, 98, 99, 100, 101, 102] : List UInt8) (c % 256).toNat.toUInt8).toNat) (Int.toNat_of_nonneg h2).symm).1
      obtain ⟨h4, _⟩ := List.getElem?_eq_some_iff.1 h3
      simp only [List.length_cons, List.length_nil] at h4
      omega
    · omega
  · omega
end Go.Proofs.YteooddfilnijgaaDoor.Px
namespace Go.Proofs.YteooddfilnijgaaDoor.Px
open Go.RowKit Go.Proofs.YteooddfilnijgaaDoorW.PrintWords Go.Proofs.YteooddfilnijgaaDoorW.PrintLast Go.Proofs.YteooddfilnijgaaDoorW.PrintMore
set_option linter.unusedVariables false
set_option linter.unusedSimpArgs false
theorem hex_info:(Tryd.prog.info? 5).map (fun i => (i.zero,i.size,i.bytes))=some (some (.int .u8 0),1,1):=by kernel_rfl
def hexO (ok:Bool) (x:Option (List Int × Int)):List Int × Bool:=match x with
 | none => ([],false)
 | some (out,high) => (out,ok && decide (high < 0))
def script_hex.f (a0:ByteArray):Option (List Int × Bool):=if a0.size≤4294967296 then
 some (hexO (Lib.hasPrefix a0.data.toList (⟨#[61]⟩:ByteArray).data.toList) (hexL ⟨(Lib.trimPrefix a0.data.toList (⟨#[61]⟩:ByteArray).data.toList).toArray⟩ (⟨(Lib.trimPrefix a0.data.toList (⟨#[61]⟩:ByteArray).data.toList).toArray⟩:ByteArray).size 0 [] (-1))) else none
theorem trim_size (a0 p:ByteArray):(⟨(Lib.trimPrefix a0.data.toList p.data.toList).toArray⟩:ByteArray).size≤a0.size:=by
 show (Lib.trimPrefix a0.data.toList p.data.toList).toArray.size≤a0.data.size
 rw [List.size_toArray]
 have:=Lib.trimPrefix_le a0.data.toList p.data.toList
 rw [Array.length_toList] at this
 exact this
theorem or_hex {h n:Int} (h0:0≤h) (h1:h≤15) (n0:0≤n) (n1:n≤15):Go.bits .or .i32 (wrap32 (h * 16)) n % 256=(16 * h + n) % 256:=by
 have e:∀ a b:Fin 16,Go.bits .or .i32 (wrap32 (((a.val:Nat):Int) * 16)) ((b.val:Nat):Int) % 256=(16 * ((a.val:Nat):Int) + ((b.val:Nat):Int)) % 256:=by decide +kernel
 have:=e ⟨h.toNat,by omega⟩ ⟨n.toNat,by omega⟩
 simp only [Int.toNat_of_nonneg h0,Int.toNat_of_nonneg n0] at this
 exact this
set_option maxHeartbeats 8000000 in
set_option maxRecDepth 100000 in
theorem script_hex.calls (a0:ByteArray) (r1:List Int) (r2:Bool) (w:World) (h:script_hex.f a0=some (r1,r2)) :
  Calls Tryd.prog 22 #[.string a0] w fun e w' => ∃ v0_:Value,e=.returned (.tuple #[v0_,.bool r2])∧Kd.R (Kd.int .u8) 5 w' w.heap.size (fun _ => True) v0_ r1∧Below w.heap.size w w':=by
 have hu:=Tryd.underlying46
 have hu9:=Tryd.underlying9
 unfold script_hex.f at h
 have hsz:a0.size≤4294967296:=by
  by_cases hs:a0.size≤4294967296
  ·exact hs
  ·rw [if_neg hs] at h;cases h
 rw [if_pos hsz] at h
 have HV0:=Option.some.inj h
 have hrs:=trim_size a0 ⟨#[61]⟩
 clear h
 go_enter Tryd.func22,Tryd.ntmps22
 go_wp2_with fail
 refine (Tryd.strings_CutPrefix a0 ⟨#[61]⟩ w).mono ?_
 rintro e w1 ⟨rfl,hw1⟩
 obtain rfl:w=w1:=hw1.symm
 generalize hre:(⟨(Lib.trimPrefix a0.data.toList (⟨#[61]⟩:ByteArray).data.toList).toArray⟩:ByteArray)=rest at HV0 hrs ⊢
 generalize hok:Lib.hasPrefix a0.data.toList (⟨#[61]⟩:ByteArray).data.toList=ok at HV0 ⊢
 have HV:=Aside0.mk HV0
 have HRS:=Aside0.mk (show rest.size≤4294967296 by omega)
 have HB0:=Aside0.mk (below_alloc (Below.refl w.heap.size w) (.stringIter rest 0))
 clear HV0 hrs hsz hre hok
 go_wp2
 go_loopw [6,7] (fun vo vh W => ∃ (out:List Int) (high:Int) (pos fuel:Nat),vh=.int .i32 high∧Aside0 (Kd.R (Kd.int .u8) 5 W (w.heap.size + 1) (fun k => w.heap.size < k) vo out)∧Aside0 (W.heap[w.heap.size]?=some (.stringIter rest pos))∧Aside0 (Below w.heap.size w W)∧Aside0 (-1≤high∧high≤15)∧Aside0 (out.length≤pos∧rest.size≤pos + fuel)∧Aside0 (hexO ok (hexL rest fuel pos out high)=(r1,r2))) (fun _ _ W => rest.size - W.iterPos w.heap.size)
 case atStart => exact ⟨[],-1,0,rest.size,rfl,⟨Kd.R_nil _ _ _ _ _⟩,⟨World.iter_heap _ _ _⟩,HB0,⟨by omega⟩,⟨by simp⟩,HV⟩
 case round =>
  obtain ⟨out,high,pos,fuel,rfl,HO,HIT,HBr,HH,HL,HX⟩:=hrel
  by_cases hp:pos < rest.size
  ·have hnx:=fun ty => Lib.run_next_any_at (P:=Tryd.prog) wr w.heap.size rest pos ty HIT.out hp
   obtain ⟨c,hc⟩:∃ c:Nat,(Utf8.decode rest pos).1=c:=⟨_,rfl⟩
   obtain ⟨p2,hp2⟩:∃ p:Nat,pos + (Utf8.decode rest pos).2=p:=⟨_,rfl⟩
   rw [hc,hp2] at hnx
   have HC1:=Aside0.mk hc
   have HBn:=Aside0.mk (Lib.below_iterAt HBr.out (Nat.le_refl w.heap.size) rest p2)
   have HITn:=Aside0.mk (Lib.iterAt_heap wr w.heap.size rest pos p2 HIT.out)
   have HOn:=Aside0.mk (Kd.R_move (w1:=wr.iterAt w.heap.size rest p2) HO.out (fun k hk => Lib.iterAt_other wr w.heap.size k rest p2 (by omega)))
   obtain ⟨f,rfl⟩:∃ f,fuel=f + 1:=⟨fuel - 1,by have:=HL.out.2;omega⟩
   have hp2':pos + 1≤p2:=by have:=Lib.decode_width_pos rest pos hp;omega
   have HP:=Aside0.mk hp
   have HP2:=Aside0.mk hp2'
   have HM:=Aside0.mk (show rest.size - (wr.iterAt w.heap.size rest p2).iterPos w.heap.size < rest.size - wr.iterPos w.heap.size by
    simp only [World.iterPos,HITn.out,HIT.out];omega)
   have HX2:=Aside0.mk (show hexO ok (if hexN c < 0 then none else if high < 0 then hexL rest f p2 out (hexN c) else hexL rest f p2 (out++[(16 * high + hexN c) % 256]) (-1))=(r1,r2) by
    rw [← HX.out,hexL.eq_2,if_pos hp,hc,hp2])
   clear HX HO HIT HBr hp2'
   by_cases h1:(c:Int) < 128
   ·have d1:decide ((c:Int) < 128)=true:=decide_eq_true h1
    have HN:=Aside0.mk (show Lib.indexByte (⟨#[48,49,50,51,52,53,54,55,56,57,97,98,99,100,101,102]⟩:ByteArray).data.toList ((c:Int) % 256).toNat.toUInt8=hexN c from (if_pos h1).symm)
    clear hp hc hp2 h1
    go_wp2_with fail
    refine (Tryd.strings_IndexByte _ _ _).mono ?_
    rintro e w2 ⟨rfl,hw2⟩
    obtain rfl:=hw2.symm
    rw [HN.out]
    have hb:=hexN_le c
    generalize hexN c=n at HX2 hb ⊢
    clear HN
    have hw3:wrap32 n=n:=by unfold wrap32;omega
    by_cases hn:n < 0
    ·have dn:decide (n < 0)=true:=decide_eq_true hn
     have HR:=Aside0.mk (show ([],false)=(r1,r2) by rw [← HX2.out,if_pos hn];rfl)
     clear hb hn
     go_wp2
     go_ret2
     injection HR.out with hr1 hr2
     exact ⟨_,by rw [← hr2];rfl,by rw [← hr1];exact Kd.R_nil _ _ _ _ _,HBn.out⟩
    ·have dn:decide (n < 0)=false:=decide_eq_false hn
     by_cases hh:high < 0
     ·have dh:decide (high < 0)=true:=decide_eq_true hh
      have HX3:=Aside0.mk (show hexO ok (hexL rest f p2 out n)=(r1,r2) by rw [← HX2.out,if_neg hn,if_pos hh])
      have HNN:=Aside0.mk hb
      clear hb hn hh
      go_wp2
      go_roundw
      case measure => exact HM.out
      case rel =>
       exact ⟨out,n,p2,f,by rw [hw3],HOn,HITn,HBn,HNN,⟨by have:=HL.out.1;have:=HL.out.2;have:=HP2.out;omega⟩,HX3⟩
     ·have dh:decide (high < 0)=false:=decide_eq_false hh
      have HX3:=Aside0.mk (show hexO ok (hexL rest f p2 (out++[(16 * high + n) % 256]) (-1))=(r1,r2) by rw [← HX2.out,if_neg hn,if_neg hh])
      have hor:=or_hex (h:=high) (n:=n) (by omega) HH.out.2 (by omega) hb.2
      rw [← hor] at HX3
      have hlt:=blk_lt HITn.out
      have HLT:=Aside0.mk hlt
      have HLL:=Aside0.mk (show (out.length + 1) * 1≤140737488355328 by have:=HL.out.1;have:=HP.out;have:=HRS.out;omega)
      clear hb hn hh hor hlt
      go_wp2_with (first|((with_reducible refine gate_builtin (b:=.append) (xs:=#[.tmp 27,.tmp 33]) rfl ?_);at_builtin;refine Kd.R_append (Kd.int .u8) (w0:=wr.iterAt w.heap.size rest p2) (w.heap.size + 1) rfl (.tmp 27) (.tmp 33) 46 5 (.int .u8 0) 1 rfl hu hex_info rfl (by decide) (by decide) u6 out (Go.bits .or .i32 (wrap32 (high * 16)) n % 256) [.int .u8 (Go.bits .or .i32 (wrap32 (high * 16)) n % 256)] (fun k => w.heap.size < k) (fun _ => False) rfl rfl ?aP (fun _ hk => hk.elim) ?aF HOn.out (Below.refl _ _) HLT.out HLL.out ?_;(case aP => exact rfl);(case aF => exact (fun k hk => by have:=HLT.out;omega));intro v1 w1 ho hb hg hat;have HO1:=Aside0.mk ho;have HB1:=Aside0.mk (HBn.out.trans (hb.mono (Nat.le_succ _)));have HIT1:=Aside0.mk ((hb.block w.heap.size (Nat.lt_succ_self _)).trans HITn.out);clear ho hb hg hat))
      go_roundw
      case measure => 
       have:=HM.out
       simp only [World.iterPos,HIT1.out,HITn.out] at this ⊢
       exact this
      case rel =>
       exact ⟨_,-1,p2,f,rfl,HO1,HIT1,HB1,⟨by omega⟩,⟨by rw [List.length_append];have:=HL.out.1;have:=HL.out.2;have:=HP2.out;simp only [List.length_cons,List.length_nil];omega⟩,HX3⟩
   ·have d1:decide ((c:Int) < 128)=false:=decide_eq_false h1
    have HR:=Aside0.mk (show ([],false)=(r1,r2) by rw [← HX2.out,show hexN c=-1 from if_neg h1];rfl)
    clear hp hc hp2 h1
    go_wp2
    go_ret2
    injection HR.out with hr1 hr2
    exact ⟨_,by rw [← hr2];rfl,by rw [← hr1];exact Kd.R_nil _ _ _ _ _,HBn.out⟩
  ·have hnx:=fun ty => Lib.run_next_end_at (P:=Tryd.prog) wr w.heap.size rest pos ty HIT.out hp
   have hr:(out,ok && decide (high < 0))=(r1,r2):=by
    rw [← HX.out]
    cases fuel with
    | zero => rfl
    | succ k => unfold hexL;rw [if_neg hp];rfl
   injection hr with hr1 hr2
   have HR2:=Aside0.mk hr2
   have HOO:=Aside0.mk (Kd.R_lower (Kd.R_mono HO.out (fun _ _ => trivial)) (Nat.le_succ w.heap.size))
   clear hr2 HO HX HIT
   cases ok
   ·go_wp2
    go_ret2
    exact ⟨_,by rw [← HR2.out];rfl,by rw [← hr1];exact HOO.out,HBr.out⟩
   ·by_cases hh:high < 0
    ·have dh:decide (high < 0)=true:=decide_eq_true hh
     go_wp2
     go_ret2
     exact ⟨_,by rw [← HR2.out,dh];rfl,by rw [← hr1];exact HOO.out,HBr.out⟩
    ·have dh:decide (high < 0)=false:=decide_eq_false hh
     go_wp2
     go_ret2
     exact ⟨_,by rw [← HR2.out,dh];rfl,by rw [← hr1];exact HOO.out,HBr.out⟩
end Go.Proofs.YteooddfilnijgaaDoor.Px
namespace Go.Proofs.YteooddfilnijgaaDoor.Px
open Go.RowKit Go.Proofs.YteooddfilnijgaaDoorW.PrintWords Go.Proofs.YteooddfilnijgaaDoorW.PrintLast Go.Proofs.YteooddfilnijgaaDoorW.PrintMore
attribute [local go_sem] max2_int min2_int max_two min_two max_three min_three max_four min_four
set_option linter.unusedVariables false
set_option linter.unusedSimpArgs false
mutual
def script_Line.j0:Nat→List ByteArray→Bool→Option (ByteArray × List Int × List Int × Int)
 | 0,_,_ => none
 | k + 1,x6,x26 => if x26=true then (if 1 < (x6.length:Int) then ((script_hex.f (rdOf ByteArray.empty x6 1)).bind fun bt136 => (if bt136.2=true then (if 0 < (x6.length:Int) then (some (rdOf ByteArray.empty x6 0,bt136.1,([]:List Int),0)) else (none)) else (some ((⟨#[]⟩:ByteArray),([]:List Int),([]:List Int),4)))) else (none)) else (if 0 < (x6.length:Int) then ((script_kind.f (rdOf ByteArray.empty x6 0)).bind fun t142 => (if t142 ≥ 0 then ((script_many.f t142).bind fun t143 => (script_Line.j1 k x6 t142 t143)) else (script_Line.j1 k x6 t142 1))) else (none))
def script_Line.j1:Nat→List ByteArray→Int→Int→Option (ByteArray × List Int × List Int × Int)
 | 0,_,_,_ => none
 | k + 1,x6,x9,x10 => if x9 < 0 then (if 0 < (x6.length:Int) then (if (rdOf ByteArray.empty x6 0).toList=([109,97,99,104,105,110,101,115]:List UInt8) then (script_Line.j2 k x6 ((x6.length:Int) != (wrap64 (x10 + 1)))) else (script_Line.j2 k x6 true)) else (none)) else (script_Line.j2 k x6 ((x6.length:Int) != (wrap64 (x10 + 1))))
def script_Line.j2:Nat→List ByteArray→Bool→Option (ByteArray × List Int × List Int × Int)
 | 0,_,_ => none
 | k + 1,x6,x61 => if x61=true then (some ((⟨#[]⟩:ByteArray),([]:List Int),([]:List Int),4)) else (if 1≤(x6.length:Int) then ((some (x6.drop 1:List ByteArray)).bind fun y145 => (script_Line.l0 k x6 ([]:List Int) y145 (y145.length:Int) 0)) else (none))
def script_Line.l0:Nat→List ByteArray→List Int→List ByteArray→Int→Int→Option (ByteArray × List Int × List Int × Int)
 | 0,_,_,_,_,_ => none
 | k + 1,x6,x11,x63,x64,x65 => if x65 < x64 then (if 0≤x65 then (if x65 < (x63.length:Int) then ((script_number.f (rdOf ByteArray.empty x63 x65)).bind fun bt150 => (if bt150.2=true then (if x11.length < 17592186044416 then (script_Line.l0 k x6 (x11++[bt150.1]) x63 x64 (wrap64 (x65 + 1))) else (none)) else (some ((⟨#[]⟩:ByteArray),([]:List Int),([]:List Int),4)))) else (none)) else (none)) else (if 0 < (x6.length:Int) then (some (rdOf ByteArray.empty x6 0,([]:List Int),x11,0)) else (none))
end
def script_Line.f (k:Nat) (a0:ByteArray):Option (ByteArray × List Int × List Int × Int):=(strings_Split.f a0 (⟨#[32]⟩:ByteArray)).bind fun t131 => (if 0 < (t131.length:Int) then (if (rdOf ByteArray.empty t131 0).toList=([102,105,108,101]:List UInt8) then (script_Line.j0 k t131 ((t131.length:Int)==2)) else (script_Line.j0 k t131 false)) else (none))
theorem script_Line.mono_l:∀ k,(∀ y0 y1,LeO (script_Line.j0 k y0 y1) (script_Line.j0 (k + 1) y0 y1))∧(∀ y0 y1 y2,LeO (script_Line.j1 k y0 y1 y2) (script_Line.j1 (k + 1) y0 y1 y2))∧(∀ y0 y1,LeO (script_Line.j2 k y0 y1) (script_Line.j2 (k + 1) y0 y1))∧(∀ y0 y1 y2 y3 y4,LeO (script_Line.l0 k y0 y1 y2 y3 y4) (script_Line.l0 (k + 1) y0 y1 y2 y3 y4))
 | 0 => ⟨fun _ _ r h => by simp [script_Line.j0] at h,fun _ _ _ r h => by simp [script_Line.j1] at h,fun _ _ r h => by simp [script_Line.j2] at h,fun _ _ _ _ _ r h => by simp [script_Line.l0] at h⟩
 | k + 1 => by
  obtain ⟨ih0,ih1,ih2,ih3⟩:=script_Line.mono_l k
  refine ⟨?_,?_,?_,?_⟩
  ·intro y0 y1
   unfold script_Line.j0
   repeat' first
   | (with_reducible exact ih0 _ _)
   | (with_reducible exact ih1 _ _ _)
   | (with_reducible exact ih2 _ _)
   | (with_reducible exact ih3 _ _ _ _ _)
   | (with_reducible exact LeO.refl _)
   | (with_reducible exact LeO.none _)
   | (with_reducible refine LeO.ite ?_ ?_)
   | (with_reducible refine LeO.bind ?_ (fun _ => ?_))
   | exact ih0 _ _
   | exact ih1 _ _ _
   | exact ih2 _ _
   | exact ih3 _ _ _ _ _
   | exact LeO.none _
   | refine LeO.ite ?_ ?_
   | refine LeO.bind ?_ (fun _ => ?_)
  ·intro y0 y1 y2
   unfold script_Line.j1
   repeat' first
   | (with_reducible exact ih0 _ _)
   | (with_reducible exact ih1 _ _ _)
   | (with_reducible exact ih2 _ _)
   | (with_reducible exact ih3 _ _ _ _ _)
   | (with_reducible exact LeO.refl _)
   | (with_reducible exact LeO.none _)
   | (with_reducible refine LeO.ite ?_ ?_)
   | (with_reducible refine LeO.bind ?_ (fun _ => ?_))
   | exact ih0 _ _
   | exact ih1 _ _ _
   | exact ih2 _ _
   | exact ih3 _ _ _ _ _
   | exact LeO.none _
   | refine LeO.ite ?_ ?_
   | refine LeO.bind ?_ (fun _ => ?_)
  ·intro y0 y1
   unfold script_Line.j2
   repeat' first
   | (with_reducible exact ih0 _ _)
   | (with_reducible exact ih1 _ _ _)
   | (with_reducible exact ih2 _ _)
   | (with_reducible exact ih3 _ _ _ _ _)
   | (with_reducible exact LeO.refl _)
   | (with_reducible exact LeO.none _)
   | (with_reducible refine LeO.ite ?_ ?_)
   | (with_reducible refine LeO.bind ?_ (fun _ => ?_))
   | exact ih0 _ _
   | exact ih1 _ _ _
   | exact ih2 _ _
   | exact ih3 _ _ _ _ _
   | exact LeO.none _
   | refine LeO.ite ?_ ?_
   | refine LeO.bind ?_ (fun _ => ?_)
  ·intro y0 y1 y2 y3 y4
   unfold script_Line.l0
   repeat' first
   | (with_reducible exact ih0 _ _)
   | (with_reducible exact ih1 _ _ _)
   | (with_reducible exact ih2 _ _)
   | (with_reducible exact ih3 _ _ _ _ _)
   | (with_reducible exact LeO.refl _)
   | (with_reducible exact LeO.none _)
   | (with_reducible refine LeO.ite ?_ ?_)
   | (with_reducible refine LeO.bind ?_ (fun _ => ?_))
   | exact ih0 _ _
   | exact ih1 _ _ _
   | exact ih2 _ _
   | exact ih3 _ _ _ _ _
   | exact LeO.none _
   | refine LeO.ite ?_ ?_
   | refine LeO.bind ?_ (fun _ => ?_)
theorem script_Line.mono:∀ a0 k,LeO (script_Line.f k a0) (script_Line.f (k + 1) a0):=by
 intro a0 k
 obtain ⟨ih0,ih1,ih2,ih3⟩:=script_Line.mono_l k
 unfold script_Line.f
 repeat' first
   | (with_reducible exact ih0 _ _)
   | (with_reducible exact ih1 _ _ _)
   | (with_reducible exact ih2 _ _)
   | (with_reducible exact ih3 _ _ _ _ _)
   | (with_reducible exact LeO.refl _)
   | (with_reducible exact LeO.none _)
   | (with_reducible refine LeO.ite ?_ ?_)
   | (with_reducible refine LeO.bind ?_ (fun _ => ?_))
   | exact ih0 _ _
   | exact ih1 _ _ _
   | exact ih2 _ _
   | exact ih3 _ _ _ _ _
   | exact LeO.none _
   | refine LeO.ite ?_ ?_
   | refine LeO.bind ?_ (fun _ => ?_)
set_option maxHeartbeats 80000000 in
set_option maxRecDepth 100000 in
theorem script_Line.calls (k:Nat) (a0:ByteArray) (r1:ByteArray) (r2:List Int) (r3:List Int) (r4:Int) (w:World) (hG:Aside0 (GG w)) (h:script_Line.f k a0=some (r1,r2,r3,r4)) :
  Calls Tryd.prog 16 #[.string a0] w fun e w' => ∃ v1_ v2_:Value,e=.returned (.tuple #[.string r1,v1_,v2_,.int .i64 r4])∧Kd.R (Kd.int .u8) 5 w' w.heap.size (fun _ => True) v1_ r2∧Kd.R (Kd.int .i64) 2 w' w.heap.size (fun _ => True) v2_ r3∧Below w.heap.size w w':=by
 have HB:=Aside0.mk (Below.refl w.heap.size w)
 have H:((strings_Split.f a0 (⟨#[32]⟩:ByteArray)).bind fun t131 => (if 0 < (t131.length:Int) then (if (rdOf ByteArray.empty t131 0).toList=([102,105,108,101]:List UInt8) then (script_Line.j0 k t131 ((t131.length:Int)==2)) else (script_Line.j0 k t131 false)) else (none)))=some (r1,r2,r3,r4):=h
 clear h
 replace H:=Option.bind_eq_some_iff.mp H
 obtain ⟨t131,A20,H⟩:=H
 replace H:(if 0 < (t131.length:Int) then (if (rdOf ByteArray.empty t131 0).toList=([102,105,108,101]:List UInt8) then (script_Line.j0 k t131 ((t131.length:Int)==2)) else (script_Line.j0 k t131 false)) else (none))=some (r1,r2,r3,r4):=H
 have A2:=Aside0.mk A20
 clear A20
 have HC3:=Aside0.mk H
 clear H
 go_enter Tryd.func16,Tryd.ntmps16
 go_upto_region 2 with (first|((with_reducible refine gate_callee (f:=21) rfl ?_);refine goesL_ (some 17) rfl rfl Tryd.func21 (by kernel_rfl) rfl #[.string a0,.string (⟨#[32]⟩:ByteArray)] rfl (by (try simp only [List.map_toArray,List.map_cons,List.map_nil]);first|done|rfl|(simp only [List.length_drop,List.length_take];rfl)) ?_;(with_reducible refine (strings_Split.calls a0 (⟨#[32]⟩:ByteArray) t131 _ ?side1 A2.out).mono ?_);(case side1 => exact ⟨GG.below hG.out (by repeat (first|(with_reducible first|exact HB.out|apply below_alloc|apply pw_below_drewN|apply below_drew1)|exact HB.out))⟩);rintro e w4 ⟨v132,rfl,ho0,hb⟩;refine ⟨_,rfl,?_⟩;have n0_:=Aside0.mk (Kd.R_lower ho0 (below_size (by repeat (first|(with_reducible first|exact HB.out|apply below_alloc|apply pw_below_drewN|apply below_drew1)|exact HB.out))));have n1_:=Aside0.mk (below_step (by repeat (first|(with_reducible first|exact HB.out|apply below_alloc|apply pw_below_drewN|apply below_drew1)|exact HB.out)) hb);clear HB;have HO133:=n0_;have HB:=n1_;clear n0_ n1_;(try clear hb);(try clear hb2);(try clear hk);(try clear hi);(try clear ho0)))
 (try simp only [Act.put,List.setIfInBounds_toArray,List.set_cons_zero,List.set_cons_succ])
 go_cut [26] (fun v26 wc => ∃ (kq:Nat) (x26_2:Bool),v26=.bool x26_2∧Aside0 (script_Line.j0 kq t131 x26_2=some (r1,r2,r3,r4))∧Aside0 (kq≤k)∧Aside0 (Kd.R Kd.string 9 wc w.heap.size (fun _ => True) v132 t131)∧Aside0 (Below w.heap.size w wc))
 case first =>
  have H:=HC3.out
  clear HC3
  by_cases c5:0 < (t131.length:Int)
  ·rw [if_pos c5] at H
   have c5b0:decide (0 < (t131.length:Int))=true:=decide_eq_true c5
   have c5b1:decide (0 < t131.length)=true:=decide_eq_true (by omega)
   clear c5
   (first|rw [c5b0]|(simp only [i64_w,i32_w];rw [c5b0])|skip)
   by_cases c6:(rdOf ByteArray.empty t131 0).toList=([102,105,108,101]:List UInt8)
   ·rw [if_pos c6] at H
    have c6b0:((rdOf ByteArray.empty t131 0).toList==([102,105,108,101]:List UInt8))=true:=beq_iff_eq.mpr c6
    have c6b1:((rdOf ByteArray.empty t131 0).toList != ([102,105,108,101]:List UInt8))=false:=bne_eq_false_iff_eq.mpr c6
    clear c6
    have H':=Aside0.mk H
    clear H
    obtain ⟨Ao7,co7,eo7⟩:=Kd.R_slice HO133.out
    subst eo7
    have p134:0≤(0:Int):=(by omega)
    have q134:0 < (t131.length:Int):=of_decide_eq_true (by first|(with_reducible assumption)|assumption)
    obtain ⟨ad134,e134,hx134_0⟩:=Kd.at_string (Kd.R_reads' HO133.out).2.2 0 p134 q134
    cases e134
    have qi134:(0 < t131.length)=True:=eq_true (by omega)
    (try rw [show ((0:Int)).toNat=0 from rfl] at hx134_0)
    (try rw [Addr.add_zero'] at hx134_0)
    replace p134:=eq_true p134
    replace q134:=eq_true q134
    go_wp2
    go_meet
    case rel => exact ⟨_,(((t131.length:Int)==2)),(by first|rfl|(simp;done)|(simp [*];done)),H',⟨by first|omega|exact Nat.le_refl _⟩,⟨by (with_reducible repeat (first|apply Kd.R_alloc|apply Kd.R_drewN|apply Kd.R_drew));exact HO133.out⟩,⟨by repeat (first|(with_reducible first|exact HB.out|apply below_alloc|apply pw_below_drewN|apply below_drew1)|exact HB.out)⟩⟩
   ·rw [if_neg c6] at H
    have c6b0:((rdOf ByteArray.empty t131 0).toList==([102,105,108,101]:List UInt8))=false:=beq_eq_false_iff_ne.mpr c6
    have c6b1:((rdOf ByteArray.empty t131 0).toList != ([102,105,108,101]:List UInt8))=true:=bne_iff_ne.mpr c6
    have H':=Aside0.mk H
    clear H
    obtain ⟨Ao8,co8,eo8⟩:=Kd.R_slice HO133.out
    subst eo8
    have p134:0≤(0:Int):=(by omega)
    have q134:0 < (t131.length:Int):=of_decide_eq_true (by first|(with_reducible assumption)|assumption)
    obtain ⟨ad134,e134,hx134_0⟩:=Kd.at_string (Kd.R_reads' HO133.out).2.2 0 p134 q134
    cases e134
    have qi134:(0 < t131.length)=True:=eq_true (by omega)
    (try rw [show ((0:Int)).toNat=0 from rfl] at hx134_0)
    (try rw [Addr.add_zero'] at hx134_0)
    replace p134:=eq_true p134
    replace q134:=eq_true q134
    go_wp2
    go_meet
    case rel => exact ⟨_,(false),(by first|rfl|(simp;done)|(simp [*];done)),H',⟨by first|omega|exact Nat.le_refl _⟩,⟨by (with_reducible repeat (first|apply Kd.R_alloc|apply Kd.R_drewN|apply Kd.R_drew));exact HO133.out⟩,⟨by repeat (first|(with_reducible first|exact HB.out|apply below_alloc|apply pw_below_drewN|apply below_drew1)|exact HB.out)⟩⟩
  ·rw [if_neg c5] at H
   exact absurd H (by simp)
 case rest =>
  clear HC3
  try clear c1;try clear p1;try clear q1;try clear hx1;try clear qi1;try clear c2;try clear p2;try clear c5;try clear c5b0;try clear c5b1;try clear c6;try clear c6b0;try clear c6b1;try clear hx134_0;try clear p134;try clear q134
  obtain ⟨kq,x26_2,rfl,HA,HJ2,HO_6,HB⟩:=hcut
  cases kq with
  | zero => exact absurd HA.out (by simp [script_Line.j0])
  | succ kj2 =>
   have H:=HA.out
   clear HA
   simp only [script_Line.j0] at H
   by_cases c9:x26_2=true
   ·subst c9
    have H1:(if 1 < (t131.length:Int) then ((script_hex.f (rdOf ByteArray.empty t131 1)).bind fun bt136 => (if bt136.2=true then (if 0 < (t131.length:Int) then (some (rdOf ByteArray.empty t131 0,bt136.1,([]:List Int),0)) else (none)) else (some ((⟨#[]⟩:ByteArray),([]:List Int),([]:List Int),4)))) else (none))=some (r1,r2,r3,r4):=by rw [if_pos rfl] at H;exact H
    clear H
    have H:=H1
    clear H1
    by_cases c10:1 < (t131.length:Int)
    ·rw [if_pos c10] at H
     have c10b0:decide (1 < (t131.length:Int))=true:=decide_eq_true c10
     have c10b1:decide (1 < t131.length)=true:=decide_eq_true (by omega)
     clear c10
     replace H:=Option.bind_eq_some_iff.mp H
     obtain ⟨⟨t136,t137⟩,A110,H⟩:=H
     replace H:(if t137=true then (if 0 < (t131.length:Int) then (some (rdOf ByteArray.empty t131 0,t136,([]:List Int),0)) else (none)) else (some ((⟨#[]⟩:ByteArray),([]:List Int),([]:List Int),4)))=some (r1,r2,r3,r4):=H
     have A11:=Aside0.mk A110
     clear A110
     by_cases c12:t137=true
     ·subst c12
      have H1:(if 0 < (t131.length:Int) then (some (rdOf ByteArray.empty t131 0,t136,([]:List Int),0)) else (none))=some (r1,r2,r3,r4):=by rw [if_pos rfl] at H;exact H
      clear H
      have H:=H1
      clear H1
      by_cases c13:0 < (t131.length:Int)
      ·rw [if_pos c13] at H
       have c13b0:decide (0 < (t131.length:Int))=true:=decide_eq_true c13
       have c13b1:decide (0 < t131.length)=true:=decide_eq_true (by omega)
       clear c13
       simp only [Option.some.injEq,Prod.mk.injEq] at H
       obtain ⟨rfl,rfl,rfl,rfl⟩:=H
       obtain ⟨Ao14,co14,eo14⟩:=Kd.R_slice HO_6.out
       subst eo14
       have p135:0≤(1:Int):=(by omega)
       have q135:1 < (t131.length:Int):=of_decide_eq_true (by first|(with_reducible assumption)|assumption)
       obtain ⟨ad135,e135,hx135_0⟩:=Kd.at_string (Kd.R_reads' HO_6.out).2.2 1 p135 q135
       cases e135
       (try simp only [show (1:Int).toNat=1 from rfl,Nat.reduceMul,Nat.reduceEqDiff,Go.Addr.add,↓reduceIte] at hx135_0)
       have qi135:(1 < t131.length)=True:=eq_true (by omega)
       (try rw [show ((1:Int)).toNat=1 from rfl] at hx135_0)
       replace p135:=eq_true p135
       replace q135:=eq_true q135
       go_wp2_with (first|((with_reducible refine gate_callee (f:=22) rfl ?_);refine goesL_ (some 31) rfl rfl Tryd.func22 (by kernel_rfl) rfl #[.string (rdOf ByteArray.empty t131 1)] rfl (by (try simp only [List.map_toArray,List.map_cons,List.map_nil]);first|done|rfl|(simp only [List.length_drop,List.length_take];rfl)) ?_;(with_reducible refine (script_hex.calls (rdOf ByteArray.empty t131 1) t136 true _ A11.out).mono ?_);rintro e w15 ⟨v138,rfl,ho0,hb⟩;refine ⟨_,rfl,?_⟩;have n0_:=Aside0.mk (Kd.R_below (by (with_reducible repeat (first|apply Kd.R_alloc|apply Kd.R_drewN|apply Kd.R_drew));exact HO_6.out) hb);have n1_:=Aside0.mk (Kd.R_lower ho0 (below_size (by repeat (first|(with_reducible first|exact HB.out|apply below_alloc|apply pw_below_drewN|apply below_drew1)|exact HB.out))));have n2_:=Aside0.mk (below_step (by repeat (first|(with_reducible first|exact HB.out|apply below_alloc|apply pw_below_drewN|apply below_drew1)|exact HB.out)) hb);clear HO_6;clear HB;have HO_6:=n0_;have HO139:=n1_;have HB:=n2_;clear n0_ n1_ n2_;(try clear hb);(try clear hb2);(try clear hk);(try clear hi);(try clear ho0);have p140:0≤(0:Int):=(by omega);have q140:0 < (t131.length:Int):=of_decide_eq_true (by first|(with_reducible assumption)|assumption);obtain ⟨ad140,e140,hx140_0⟩:=Kd.at_string (Kd.R_reads' HO_6.out).2.2 0 p140 q140;obtain rfl:ad135=ad140:=(by injection e140);have qi140:(0 < t131.length)=True:=eq_true (by omega);(try rw [show ((0:Int)).toNat=0 from rfl] at hx140_0);(try rw [Addr.add_zero'] at hx140_0);replace p140:=eq_true p140;replace q140:=eq_true q140))
       refine bodyPost_ret (results_list (rs:=[.tmp 2,.tmp 3,.tmp 4,.tmp 5]) rfl (by simp) (.tmp (.tmp (.tmp (.tmp .nil))))) rfl ?_
       exact ⟨_,_,by first|rfl|(simp [errW_none,errW_some] <;> rfl)|(simp [*,errW_none,errW_some] <;> rfl),by (with_reducible repeat (first|apply Kd.R_alloc|apply Kd.R_drewN|apply Kd.R_drew));exact HO139.out,by first|exact Kd.R_nil _ _ _ _ _|exact Kd.N_nil _ _ _ _ _|exact Kd.V_nil _ _ _ _ _|exact Kd.Q_nil _ _ _ _ _|exact Kd.S_nil _ _ _ _ _,by repeat (first|(with_reducible first|exact HB.out|apply below_alloc|apply pw_below_drewN|apply below_drew1)|exact HB.out)⟩
      ·rw [if_neg c13] at H
       exact absurd H (by simp)
     ·replace c12:=Bool.eq_false_iff.mpr c12
      subst c12
      have H1:(some ((⟨#[]⟩:ByteArray),([]:List Int),([]:List Int),4))=some (r1,r2,r3,r4):=by rw [if_neg (show ¬ (false=true) by decide)] at H;exact H
      clear H
      have H:=H1
      clear H1
      simp only [Option.some.injEq,Prod.mk.injEq] at H
      obtain ⟨rfl,rfl,rfl,rfl⟩:=H
      obtain ⟨Ao16,co16,eo16⟩:=Kd.R_slice HO_6.out
      subst eo16
      have p135:0≤(1:Int):=(by omega)
      have q135:1 < (t131.length:Int):=of_decide_eq_true (by first|(with_reducible assumption)|assumption)
      obtain ⟨ad135,e135,hx135_0⟩:=Kd.at_string (Kd.R_reads' HO_6.out).2.2 1 p135 q135
      cases e135
      (try simp only [show (1:Int).toNat=1 from rfl,Nat.reduceMul,Nat.reduceEqDiff,Go.Addr.add,↓reduceIte] at hx135_0)
      have qi135:(1 < t131.length)=True:=eq_true (by omega)
      (try rw [show ((1:Int)).toNat=1 from rfl] at hx135_0)
      replace p135:=eq_true p135
      replace q135:=eq_true q135
      go_wp2_with (first|((with_reducible refine gate_callee (f:=22) rfl ?_);refine goesL_ (some 31) rfl rfl Tryd.func22 (by kernel_rfl) rfl #[.string (rdOf ByteArray.empty t131 1)] rfl (by (try simp only [List.map_toArray,List.map_cons,List.map_nil]);first|done|rfl|(simp only [List.length_drop,List.length_take];rfl)) ?_;(with_reducible refine (script_hex.calls (rdOf ByteArray.empty t131 1) t136 false _ A11.out).mono ?_);rintro e w17 ⟨v138,rfl,ho0,hb⟩;refine ⟨_,rfl,?_⟩;have n0_:=Aside0.mk (Kd.R_below (by (with_reducible repeat (first|apply Kd.R_alloc|apply Kd.R_drewN|apply Kd.R_drew));exact HO_6.out) hb);have n1_:=Aside0.mk (Kd.R_lower ho0 (below_size (by repeat (first|(with_reducible first|exact HB.out|apply below_alloc|apply pw_below_drewN|apply below_drew1)|exact HB.out))));have n2_:=Aside0.mk (below_step (by repeat (first|(with_reducible first|exact HB.out|apply below_alloc|apply pw_below_drewN|apply below_drew1)|exact HB.out)) hb);clear HO_6;clear HB;have HO_6:=n0_;have HO139:=n1_;have HB:=n2_;clear n0_ n1_ n2_;(try clear hb);(try clear hb2);(try clear hk);(try clear hi);(try clear ho0)))
      refine bodyPost_ret (results_list (rs:=[.tmp 2,.tmp 3,.tmp 4,.tmp 5]) rfl (by simp) (.tmp (.tmp (.tmp (.tmp .nil))))) rfl ?_
      exact ⟨_,_,by first|rfl|(simp [errW_none,errW_some] <;> rfl)|(simp [*,errW_none,errW_some] <;> rfl),by first|exact Kd.R_nil _ _ _ _ _|exact Kd.N_nil _ _ _ _ _|exact Kd.V_nil _ _ _ _ _|exact Kd.Q_nil _ _ _ _ _|exact Kd.S_nil _ _ _ _ _,by first|exact Kd.R_nil _ _ _ _ _|exact Kd.N_nil _ _ _ _ _|exact Kd.V_nil _ _ _ _ _|exact Kd.Q_nil _ _ _ _ _|exact Kd.S_nil _ _ _ _ _,by repeat (first|(with_reducible first|exact HB.out|apply below_alloc|apply pw_below_drewN|apply below_drew1)|exact HB.out)⟩
    ·rw [if_neg c10] at H
     exact absurd H (by simp)
   ·replace c9:=Bool.eq_false_iff.mpr c9
    subst c9
    have H1:(if 0 < (t131.length:Int) then ((script_kind.f (rdOf ByteArray.empty t131 0)).bind fun t142 => (if t142 ≥ 0 then ((script_many.f t142).bind fun t143 => (script_Line.j1 kj2 t131 t142 t143)) else (script_Line.j1 kj2 t131 t142 1))) else (none))=some (r1,r2,r3,r4):=by rw [if_neg (show ¬ (false=true) by decide)] at H;exact H
    clear H
    have H:=H1
    clear H1
    by_cases c18:0 < (t131.length:Int)
    ·rw [if_pos c18] at H
     have c18b0:decide (0 < (t131.length:Int))=true:=decide_eq_true c18
     have c18b1:decide (0 < t131.length)=true:=decide_eq_true (by omega)
     clear c18
     replace H:=Option.bind_eq_some_iff.mp H
     obtain ⟨t142,A190,H⟩:=H
     replace H:(if t142 ≥ 0 then ((script_many.f t142).bind fun t143 => (script_Line.j1 kj2 t131 t142 t143)) else (script_Line.j1 kj2 t131 t142 1))=some (r1,r2,r3,r4):=H
     have A19:=Aside0.mk A190
     clear A190
     have HC20:=Aside0.mk H
     clear H
     obtain ⟨Ao21,co21,eo21⟩:=Kd.R_slice HO_6.out
     subst eo21
     have p141:0≤(0:Int):=(by omega)
     have q141:0 < (t131.length:Int):=of_decide_eq_true (by first|(with_reducible assumption)|assumption)
     obtain ⟨ad141,e141,hx141_0⟩:=Kd.at_string (Kd.R_reads' HO_6.out).2.2 0 p141 q141
     cases e141
     have qi141:(0 < t131.length)=True:=eq_true (by omega)
     (try rw [show ((0:Int)).toNat=0 from rfl] at hx141_0)
     (try rw [Addr.add_zero'] at hx141_0)
     replace p141:=eq_true p141
     replace q141:=eq_true q141
     go_upto_if 44 with (first|((with_reducible refine gate_callee (f:=23) rfl ?_);refine goesL_ (some 42) rfl rfl Tryd.func23 (by kernel_rfl) rfl #[.string (rdOf ByteArray.empty t131 0)] rfl (by (try simp only [List.map_toArray,List.map_cons,List.map_nil]);first|done|rfl|(simp only [List.length_drop,List.length_take];rfl)) ?_;(with_reducible refine (script_kind.calls (rdOf ByteArray.empty t131 0) t142 _ A19.out).mono ?_);rintro e w22 ⟨rfl,hb⟩;refine ⟨_,rfl,?_⟩;have n0_:=Aside0.mk (Kd.R_below (by (with_reducible repeat (first|apply Kd.R_alloc|apply Kd.R_drewN|apply Kd.R_drew));exact HO_6.out) hb);have n1_:=Aside0.mk (below_step (by repeat (first|(with_reducible first|exact HB.out|apply below_alloc|apply pw_below_drewN|apply below_drew1)|exact HB.out)) hb);clear HO_6;clear HB;have HO_6:=n0_;have HB:=n1_;clear n0_ n1_;(try clear hb);(try clear hb2);(try clear hk);(try clear hi)))
     (try simp only [Act.put,List.setIfInBounds_toArray,List.set_cons_zero,List.set_cons_succ])
     go_cut [10] (fun v10 wc => ∃ (kq:Nat) (x10_19:Int),v10=.int .i64 x10_19∧Aside0 (script_Line.j1 kq t131 t142 x10_19=some (r1,r2,r3,r4))∧Aside0 (kq≤kj2)∧Aside0 (Kd.R Kd.string 9 wc w.heap.size (fun _ => True) (.slice (some ad141) t131.length co21) t131)∧Aside0 (Below w.heap.size w wc))
     case first =>
      have H:=HC20.out
      clear HC20
      by_cases c23:t142 ≥ 0
      ·rw [if_pos c23] at H
       have c23b0:decide (0≤t142)=true:=decide_eq_true c23
       clear c23
       (first|rw [c23b0]|(simp only [i64_w,i32_w];rw [c23b0])|skip)
       replace H:=Option.bind_eq_some_iff.mp H
       obtain ⟨t143,A240,H⟩:=H
       replace H:(script_Line.j1 kj2 t131 t142 t143)=some (r1,r2,r3,r4):=H
       have A24:=Aside0.mk A240
       clear A240
       have H':=Aside0.mk H
       clear H
       go_wp2_with (first|((with_reducible refine gate_callee (f:=9) rfl ?_);refine goesL_ (some 46) rfl rfl Tryd.func9 (by kernel_rfl) rfl #[.int .i64 t142] rfl (by (try simp only [List.map_toArray,List.map_cons,List.map_nil]);first|done|rfl|(simp only [List.length_drop,List.length_take];rfl)) ?_;(with_reducible refine (script_many.calls t142 t143 _ A24.out).mono ?_);rintro e w' ⟨rfl,⟨nd,rfl⟩⟩;refine ⟨_,rfl,?_⟩))
       go_meet
       case rel => exact ⟨_,(t143),(by first|rfl|(simp;done)|(simp [*];done)),H',⟨by have:=HJ2.out;first|omega|exact Nat.le_refl _⟩,⟨by (with_reducible repeat (first|apply Kd.R_alloc|apply Kd.R_drewN|apply Kd.R_drew));exact HO_6.out⟩,⟨by repeat (first|(with_reducible first|exact HB.out|apply below_alloc|apply pw_below_drewN|apply below_drew1)|exact HB.out)⟩⟩
      ·rw [if_neg c23] at H
       have c23b0:decide (0≤t142)=false:=decide_eq_false c23
       clear c23
       (first|rw [c23b0]|(simp only [i64_w,i32_w];rw [c23b0])|skip)
       have H':=Aside0.mk H
       clear H
       go_wp2
       go_meet
       case rel => exact ⟨_,(1),(by first|rfl|(simp;done)|(simp [*];done)),H',⟨by have:=HJ2.out;first|omega|exact Nat.le_refl _⟩,⟨by (with_reducible repeat (first|apply Kd.R_alloc|apply Kd.R_drewN|apply Kd.R_drew));exact HO_6.out⟩,⟨by repeat (first|(with_reducible first|exact HB.out|apply below_alloc|apply pw_below_drewN|apply below_drew1)|exact HB.out)⟩⟩
     case rest =>
      clear HC20
      try clear c1;try clear p1;try clear q1;try clear hx1;try clear qi1;try clear c2;try clear p2;try clear c5;try clear c5b0;try clear c5b1;try clear c6;try clear c6b0;try clear c6b1;try clear c9;try clear c10;try clear c10b0;try clear c10b1;try clear c12;try clear c13;try clear c13b0;try clear c13b1;try clear p13;try clear q13;try clear hx13;try clear qi13;try clear p14;try clear q14;try clear hx14;try clear qi14;try clear c16;try clear c18;try clear c18b0;try clear c18b1;try clear c21;try clear c22;try clear c23;try clear c23b0;try clear hx134_0;try clear hx135_0;try clear hx140_0;try clear hx141_0;try clear p1;try clear p134;try clear p135;try clear p140;try clear p141;try clear p2;try clear q1;try clear q134;try clear q135;try clear q140;try clear q141
      obtain ⟨kq,x10_19,rfl,HA,HJ19,HO_6,HB⟩:=hcut
      cases kq with
      | zero => exact absurd HA.out (by simp [script_Line.j1])
      | succ kj19 =>
       have H:=HA.out
       clear HA
       simp only [script_Line.j1] at H
       have HC25:=Aside0.mk H
       clear H
       go_upto_region 11 with (fail)
       go_cut [61] (fun v61 wc => ∃ (kq:Nat) (x61_24:Bool),v61=.bool x61_24∧Aside0 (script_Line.j2 kq t131 x61_24=some (r1,r2,r3,r4))∧Aside0 (kq≤kj19)∧Aside0 (Kd.R Kd.string 9 wc w.heap.size (fun _ => True) (.slice (some ad141) t131.length co21) t131)∧Aside0 (Below w.heap.size w wc))
       case first =>
        have H:=HC25.out
        clear HC25
        by_cases c26:t142 < 0
        ·rw [if_pos c26] at H
         have c26b0:decide (t142 < 0)=true:=decide_eq_true c26
         clear c26
         (first|rw [c26b0]|(simp only [i64_w,i32_w];rw [c26b0])|skip)
         by_cases c27:0 < (t131.length:Int)
         ·rw [if_pos c27] at H
          have c27b0:decide (0 < (t131.length:Int))=true:=decide_eq_true c27
          have c27b1:decide (0 < t131.length)=true:=decide_eq_true (by omega)
          clear c27
          by_cases c28:(rdOf ByteArray.empty t131 0).toList=([109,97,99,104,105,110,101,115]:List UInt8)
          ·rw [if_pos c28] at H
           have c28b0:((rdOf ByteArray.empty t131 0).toList==([109,97,99,104,105,110,101,115]:List UInt8))=true:=beq_iff_eq.mpr c28
           have c28b1:((rdOf ByteArray.empty t131 0).toList != ([109,97,99,104,105,110,101,115]:List UInt8))=false:=bne_eq_false_iff_eq.mpr c28
           clear c28
           have H':=Aside0.mk H
           clear H
           have p144:0≤(0:Int):=(by omega)
           have q144:0 < (t131.length:Int):=of_decide_eq_true (by first|(with_reducible assumption)|assumption)
           obtain ⟨ad144,e144,hx144_0⟩:=Kd.at_string (Kd.R_reads' HO_6.out).2.2 0 p144 q144
           obtain rfl:ad141=ad144:=(by injection e144)
           have qi144:(0 < t131.length)=True:=eq_true (by omega)
           (try rw [show ((0:Int)).toNat=0 from rfl] at hx144_0)
           (try rw [Addr.add_zero'] at hx144_0)
           replace p144:=eq_true p144
           replace q144:=eq_true q144
           go_wp2
           go_meet
           case rel => exact ⟨_,(((t131.length:Int) != (wrap64 (x10_19 + 1)))),(by first|rfl|(simp;done)|(simp [*];done)),H',⟨by have:=HJ2.out;have:=HJ19.out;first|omega|exact Nat.le_refl _⟩,⟨by (with_reducible repeat (first|apply Kd.R_alloc|apply Kd.R_drewN|apply Kd.R_drew));exact HO_6.out⟩,⟨by repeat (first|(with_reducible first|exact HB.out|apply below_alloc|apply pw_below_drewN|apply below_drew1)|exact HB.out)⟩⟩
          ·rw [if_neg c28] at H
           have c28b0:((rdOf ByteArray.empty t131 0).toList==([109,97,99,104,105,110,101,115]:List UInt8))=false:=beq_eq_false_iff_ne.mpr c28
           have c28b1:((rdOf ByteArray.empty t131 0).toList != ([109,97,99,104,105,110,101,115]:List UInt8))=true:=bne_iff_ne.mpr c28
           have H':=Aside0.mk H
           clear H
           have p144:0≤(0:Int):=(by omega)
           have q144:0 < (t131.length:Int):=of_decide_eq_true (by first|(with_reducible assumption)|assumption)
           obtain ⟨ad144,e144,hx144_0⟩:=Kd.at_string (Kd.R_reads' HO_6.out).2.2 0 p144 q144
           obtain rfl:ad141=ad144:=(by injection e144)
           have qi144:(0 < t131.length)=True:=eq_true (by omega)
           (try rw [show ((0:Int)).toNat=0 from rfl] at hx144_0)
           (try rw [Addr.add_zero'] at hx144_0)
           replace p144:=eq_true p144
           replace q144:=eq_true q144
           go_wp2
           go_meet
           case rel => exact ⟨_,(true),(by first|rfl|(simp;done)|(simp [*];done)),H',⟨by have:=HJ2.out;have:=HJ19.out;first|omega|exact Nat.le_refl _⟩,⟨by (with_reducible repeat (first|apply Kd.R_alloc|apply Kd.R_drewN|apply Kd.R_drew));exact HO_6.out⟩,⟨by repeat (first|(with_reducible first|exact HB.out|apply below_alloc|apply pw_below_drewN|apply below_drew1)|exact HB.out)⟩⟩
         ·rw [if_neg c27] at H
          exact absurd H (by simp)
        ·rw [if_neg c26] at H
         have c26b0:decide (t142 < 0)=false:=decide_eq_false c26
         clear c26
         (first|rw [c26b0]|(simp only [i64_w,i32_w];rw [c26b0])|skip)
         have H':=Aside0.mk H
         clear H
         go_wp2
         go_meet
         case rel => exact ⟨_,(((t131.length:Int) != (wrap64 (x10_19 + 1)))),(by first|rfl|(simp;done)|(simp [*];done)),H',⟨by have:=HJ2.out;have:=HJ19.out;first|omega|exact Nat.le_refl _⟩,⟨by (with_reducible repeat (first|apply Kd.R_alloc|apply Kd.R_drewN|apply Kd.R_drew));exact HO_6.out⟩,⟨by repeat (first|(with_reducible first|exact HB.out|apply below_alloc|apply pw_below_drewN|apply below_drew1)|exact HB.out)⟩⟩
       case rest =>
        clear HC25
        try clear c1;try clear p1;try clear q1;try clear hx1;try clear qi1;try clear c2;try clear p2;try clear c5;try clear c5b0;try clear c5b1;try clear c6;try clear c6b0;try clear c6b1;try clear p6;try clear c9;try clear c10;try clear c10b0;try clear c10b1;try clear c12;try clear c13;try clear c13b0;try clear c13b1;try clear p13;try clear q13;try clear hx13;try clear qi13;try clear p14;try clear q14;try clear hx14;try clear qi14;try clear c16;try clear c18;try clear c18b0;try clear c18b1;try clear c21;try clear c22;try clear c23;try clear c23b0;try clear c26;try clear c26b0;try clear c27;try clear c27b0;try clear c27b1;try clear c28;try clear c28b0;try clear c28b1;try clear hx134_0;try clear hx135_0;try clear hx140_0;try clear hx141_0;try clear hx144_0;try clear p1;try clear p13;try clear p134;try clear p135;try clear p14;try clear p140;try clear p141;try clear p144;try clear p2;try clear q1;try clear q13;try clear q134;try clear q135;try clear q14;try clear q140;try clear q141;try clear q144
        obtain ⟨kq,x61_24,rfl,HA,HJ24,HO_6,HB⟩:=hcut
        cases kq with
        | zero => exact absurd HA.out (by simp [script_Line.j2])
        | succ kj24 =>
         have H:=HA.out
         clear HA
         simp only [script_Line.j2] at H
         by_cases c29:x61_24=true
         ·subst c29
          have H1:(some ((⟨#[]⟩:ByteArray),([]:List Int),([]:List Int),4))=some (r1,r2,r3,r4):=by rw [if_pos rfl] at H;exact H
          clear H
          have H:=H1
          clear H1
          simp only [Option.some.injEq,Prod.mk.injEq] at H
          obtain ⟨rfl,rfl,rfl,rfl⟩:=H
          go_wp2
          refine bodyPost_ret (results_list (rs:=[.tmp 2,.tmp 3,.tmp 4,.tmp 5]) rfl (by simp) (.tmp (.tmp (.tmp (.tmp .nil))))) rfl ?_
          exact ⟨_,_,by first|rfl|(simp [errW_none,errW_some] <;> rfl)|(simp [*,errW_none,errW_some] <;> rfl),by first|exact Kd.R_nil _ _ _ _ _|exact Kd.N_nil _ _ _ _ _|exact Kd.V_nil _ _ _ _ _|exact Kd.Q_nil _ _ _ _ _|exact Kd.S_nil _ _ _ _ _,by first|exact Kd.R_nil _ _ _ _ _|exact Kd.N_nil _ _ _ _ _|exact Kd.V_nil _ _ _ _ _|exact Kd.Q_nil _ _ _ _ _|exact Kd.S_nil _ _ _ _ _,by repeat (first|(with_reducible first|exact HB.out|apply below_alloc|apply pw_below_drewN|apply below_drew1)|exact HB.out)⟩
         ·replace c29:=Bool.eq_false_iff.mpr c29
          subst c29
          have H1:(if 1≤(t131.length:Int) then ((some (t131.drop 1:List ByteArray)).bind fun y145 => (script_Line.l0 kj24 t131 ([]:List Int) y145 (y145.length:Int) 0)) else (none))=some (r1,r2,r3,r4):=by rw [if_neg (show ¬ (false=true) by decide)] at H;exact H
          clear H
          have H:=H1
          clear H1
          by_cases c30:1≤(t131.length:Int)
          ·rw [if_pos c30] at H
           have c30b0:=eq_true c30
           have c30b1:decide (1≤(t131.length:Int))=true:=decide_eq_true c30
           clear c30
           obtain ⟨y145,hy145⟩:∃ y_:List ByteArray,y_=(t131.drop 1):=⟨_,rfl⟩
           replace H:(script_Line.l0 kj24 t131 ([]:List Int) y145 (y145.length:Int) 0)=some (r1,r2,r3,r4):=by first|(rw [hy145];with_reducible exact H)|(have H2_:=(Option.bind_some _ _).symm.trans H;rw [hy145];with_reducible exact H2_)|(have H2_:=(Option.bind_some _ _).symm.trans H;with_reducible exact H2_)|with_reducible exact H|(rw [hy145];exact H)|exact H
           have Ny145:=Aside0.mk hy145
           clear hy145
           have H':=Aside0.mk H
           clear H
           have q31:(1:Int)≤((t131.length:Int):Int):=of_decide_eq_true (by first|(with_reducible assumption)|assumption)
           obtain ⟨i031,hi031,_,hsz31,_⟩:=info_parts info9
           have hroom31:t131.length≤co21:=(Kd.R_reads' HO_6.out).2.1
           have hC31:Kd.C Kd.string _ (some ad141) t131.length t131:=(Kd.R_reads' HO_6.out).2.2
           have hcut31:=cut_from (P:=Tryd.prog) 42 9 .i64 Tryd.underlying42 hi031 1 hsz31 (some ad141) t131.length co21 1 (by omega) q31
           have hr31:=Kd.C_drop (m:=(1:Int).toNat) (c:=co21) hC31 (by omega) hroom31
           obtain ⟨A31,hA31⟩:∃ A1,A1=(if co21=(1:Int).toNat then (some ad141) else ((some ad141):Option Addr).map (·.add ((1:Int).toNat * 1))):=⟨_,rfl⟩
           obtain ⟨c31,hc31⟩:∃ c1,c1=co21 - (1:Int).toNat:=⟨_,rfl⟩
           have hy31:y145.length=t131.length - (1:Int).toNat:=(by rw [Ny145.out,List.length_drop] <;> omega)
           rw [show (t131).drop (1:Int).toNat=y145 from Ny145.out.symm] at hr31
           replace hr31:Kd.C Kd.string _ A31 y145.length y145:=(by rw [hA31];exact hr31)
           rw [← hy31,← hA31,← hc31] at hcut31
           have HR148:=Aside0.mk hr31
           have HC148:=Aside0.mk (show y145.length≤c31 from by rw [hy31,hc31];exact Nat.sub_le_sub_right hroom31 _)
           clear hr31 hC31 hroom31 hi031 hsz31 hc31
           have KY31:=Aside0.mk hy31
           have KA31:=Aside0.mk hA31
           clear hy31 hA31
           have KL31:=Aside0.mk (show 1≤t131.length from by omega)
           replace q31:=eq_true q31
           go_wp2
           go_loopg [11,65] kj24 (fun kq v11 v65 w' => ∃ (x11_4:List Int) (x65_4:Int),v65=.int .i64 x65_4∧Aside0 (script_Line.l0 kq t131 x11_4 y145 (y145.length:Int) x65_4=some (r1,r2,r3,r4))∧Aside0 (kq≤kj24)∧Aside0 (Kd.R Kd.string 9 w' w.heap.size (fun _ => True) (.slice (some ad141) t131.length co21) t131)∧Aside0 (Kd.R (Kd.int .i64) 2 w' w.heap.size (fun _ => True) v11 x11_4)∧Aside0 (Kd.C Kd.string w' A31 y145.length y145)∧Aside0 (Below w.heap.size w w'))
           case atStart => exact ⟨(([]:List Int)),(0),(by first|rfl|(simp;done)|(simp [*];done)),H',⟨Nat.le_refl _⟩,⟨by (with_reducible repeat (first|apply Kd.R_alloc|apply Kd.R_drewN|apply Kd.R_drew));exact HO_6.out⟩,⟨by first|exact Kd.R_nil _ _ _ _ _|exact Kd.N_nil _ _ _ _ _|exact Kd.V_nil _ _ _ _ _|exact Kd.Q_nil _ _ _ _ _|exact Kd.S_nil _ _ _ _ _⟩,⟨by repeat (first|(with_reducible exact HR148.out)|(with_reducible refine Kd.C_alloc ?_ _)|(with_reducible refine Kd.C_drewN ?_ _)|(with_reducible refine Kd.C_drew ?_)|exact HR148.out)⟩,⟨by repeat (first|(with_reducible first|exact HB.out|apply below_alloc|apply pw_below_drewN|apply below_drew1)|exact HB.out)⟩⟩
           case round =>
            clear H'
            try clear c1;try clear p1;try clear q1;try clear hx1;try clear qi1;try clear c2;try clear p2;try clear c3;try clear q3;try clear c5;try clear c5b0;try clear c5b1;try clear c6;try clear c6b0;try clear c6b1;try clear p6;try clear c9;try clear c10;try clear c10b0;try clear c10b1;try clear c12;try clear c13;try clear c13b0;try clear c13b1;try clear p13;try clear q13;try clear hx13;try clear qi13;try clear p14;try clear q14;try clear hx14;try clear qi14;try clear c16;try clear c18;try clear c18b0;try clear c18b1;try clear c21;try clear c22;try clear c23;try clear c23b0;try clear c26;try clear c26b0;try clear c27;try clear c27b0;try clear c27b1;try clear c28;try clear c28b0;try clear c28b1;try clear c29;try clear c30;try clear c30b0;try clear c30b1;try clear c31;try clear q31;try clear hx134_0;try clear hx135_0;try clear hx140_0;try clear hx141_0;try clear hx144_0;try clear p1;try clear p13;try clear p134;try clear p135;try clear p14;try clear p140;try clear p141;try clear p144;try clear p2;try clear p6;try clear q1;try clear q13;try clear q134;try clear q135;try clear q14;try clear q140;try clear q141;try clear q144;try clear q31
            obtain ⟨x11_4,x65_4,rfl,HA,HK4,HO_6,HO_11,HR148,HB⟩:=hrel
            cases gk with
            | zero => exact absurd HA.out (by simp [script_Line.l0])
            | succ k4 =>
             have H:=HA.out
             clear HA
             simp only [script_Line.l0] at H
             by_cases c32:x65_4 < (y145.length:Int)
             ·rw [if_pos c32] at H
              have c32b0:decide (x65_4 < (y145.length:Int))=true:=decide_eq_true c32
              clear c32
              by_cases c33:0≤x65_4
              ·rw [if_pos c33] at H
               have c33b0:decide (0≤x65_4)=true:=decide_eq_true c33
               clear c33
               by_cases c34:x65_4 < (y145.length:Int)
               ·rw [if_pos c34] at H
                have c34b0:decide (x65_4 < (y145.length:Int))=true:=decide_eq_true c34
                clear c34
                replace H:=Option.bind_eq_some_iff.mp H
                obtain ⟨⟨t150,t151⟩,A350,H⟩:=H
                replace H:(if t151=true then (if x11_4.length < 17592186044416 then (script_Line.l0 k4 t131 (x11_4++[t150]) y145 (y145.length:Int) (wrap64 (x65_4 + 1))) else (none)) else (some ((⟨#[]⟩:ByteArray),([]:List Int),([]:List Int),4)))=some (r1,r2,r3,r4):=H
                have A35:=Aside0.mk A350
                clear A350
                by_cases c36:t151=true
                ·subst c36
                 have H1:(if x11_4.length < 17592186044416 then (script_Line.l0 k4 t131 (x11_4++[t150]) y145 (y145.length:Int) (wrap64 (x65_4 + 1))) else (none))=some (r1,r2,r3,r4):=by rw [if_pos rfl] at H;exact H
                 clear H
                 have H:=H1
                 clear H1
                 by_cases c37:x11_4.length < 17592186044416
                 ·rw [if_pos c37] at H
                  have LMc37:=Aside0.mk c37
                  clear c37
                  obtain ⟨y152,hy152⟩:∃ y_:List Int,y_=(x11_4++[t150]):=⟨_,rfl⟩
                  replace H:(script_Line.l0 k4 t131 y152 y145 (y145.length:Int) (wrap64 (x65_4 + 1)))=some (r1,r2,r3,r4):=by first|(rw [hy152];with_reducible exact H)|(have H2_:=(Option.bind_some _ _).symm.trans H;rw [hy152];with_reducible exact H2_)|(have H2_:=(Option.bind_some _ _).symm.trans H;with_reducible exact H2_)|with_reducible exact H|(rw [hy152];exact H)|exact H
                  have Ny152:=Aside0.mk hy152
                  clear hy152
                  have H':=Aside0.mk H
                  clear H
                  have p149:0≤(x65_4:Int):=of_decide_eq_true (by first|(with_reducible assumption)|assumption)
                  have q149:x65_4 < (y145.length:Int):=of_decide_eq_true (by first|(with_reducible assumption)|assumption)
                  obtain ⟨ad149,e149,hx149_0⟩:=Kd.at_string HR148.out x65_4 p149 q149
                  cases e149
                  try replace hx149_0:=(HB.out.cell (World.block_lt_of_cell? w _ hx149_0)).trans hx149_0
                  replace p149:=eq_true p149
                  replace q149:=eq_true q149
                  go_wp2_with (first|((with_reducible refine gate_callee (f:=12) rfl ?_);refine goesL_ (some 71) rfl rfl Tryd.func12 (by kernel_rfl) rfl #[.string (rdOf ByteArray.empty y145 x65_4)] rfl (by (try simp only [List.map_toArray,List.map_cons,List.map_nil]);first|done|rfl|(simp only [List.length_drop,List.length_take];rfl)) ?_;(with_reducible refine (script_number.calls (rdOf ByteArray.empty y145 x65_4) t150 true _ ?side1 A35.out).mono ?_);(case side1 => exact ⟨GG.below hG.out (by repeat (first|(with_reducible first|exact HB.out|apply below_alloc|apply pw_below_drewN|apply below_drew1)|exact HB.out))⟩);rintro e w38 ⟨rfl,hb⟩;refine ⟨_,rfl,?_⟩;have n0_:=Aside0.mk (Kd.R_below (by (with_reducible repeat (first|apply Kd.R_alloc|apply Kd.R_drewN|apply Kd.R_drew));exact HO_6.out) hb);have n1_:=Aside0.mk (Kd.R_below (by (with_reducible repeat (first|apply Kd.R_alloc|apply Kd.R_drewN|apply Kd.R_drew));exact HO_11.out) hb);have n2_:=Aside0.mk (Kd.C_below (by repeat (first|(with_reducible exact HR148.out)|(with_reducible refine Kd.C_alloc ?_ _)|(with_reducible refine Kd.C_drewN ?_ _)|(with_reducible refine Kd.C_drew ?_)|exact HR148.out)) hb);have n3_:=Aside0.mk (below_step (by repeat (first|(with_reducible first|exact HB.out|apply below_alloc|apply pw_below_drewN|apply below_drew1)|exact HB.out)) hb);clear HO_6;clear HO_11;clear HR148;clear HB;have HO_6:=n0_;have HO_11:=n1_;have HR148:=n2_;have HB:=n3_;clear n0_ n1_ n2_ n3_;(try clear hb);(try clear hb2);(try clear hk);(try clear hi))|((with_reducible refine gate_builtin (b:=.append) (xs:=#[.tmp 76,.tmp 78]) rfl ?_);(try (refine gate_guard (by rfl) ?_;dsimp only));at_builtin;refine Kd.R_append (Kd.int .i64) (w0:=w) w.heap.size rfl (.tmp 76) (.tmp 78) 38 2 (.int .i64 0) 8 rfl Tryd.underlying38 info2 rfl (by decide) (by omega) u11 x11_4 t150 [.int .i64 t150] (fun _ => True) (fun _ => False) rfl rfl ?aP (fun _ hk => hk.elim) ?aF ?aO ?aB ?aS ?aL ?_;(case aP => exact rfl);(case aB => exact (by repeat (first|(with_reducible first|exact HB.out|apply below_alloc|apply pw_below_drewN|apply below_drew1)|exact HB.out)));(case aF => exact (fun _ _ => trivial));(case aO => exact (by (with_reducible repeat (first|apply Kd.R_alloc|apply Kd.R_drewN|apply Kd.R_drew));exact HO_11.out));(case aS => exact (below_size (by repeat (first|(with_reducible first|exact HB.out|apply below_alloc|apply pw_below_drewN|apply below_drew1)|exact HB.out))));(case aL => have:=LMc37.out;omega);intro v153 w39 ho hb hg hat;rw [← Ny152.out] at ho;have n0_:=Aside0.mk (Kd.R_over' (by (with_reducible repeat (first|apply Kd.R_alloc|apply Kd.R_drewN|apply Kd.R_drew));exact HO_6.out) (Kd.R_typed (by (with_reducible repeat (first|apply Kd.R_alloc|apply Kd.R_drewN|apply Kd.R_drew));exact HO_11.out)) (by decide) hg);have n1_:=Aside0.mk (hb);have n2_:=Aside0.mk ((show Kd.C Kd.string w39 (some ad149) y145.length y145 from by rw [Ny145.out,KA31.out];exact Kd.C_drop (m:=1) (c:=co21) ((Kd.R_reads' (Kd.R_over' (by (with_reducible repeat (first|apply Kd.R_alloc|apply Kd.R_drewN|apply Kd.R_drew));exact HO_6.out) (Kd.R_typed (by (with_reducible repeat (first|apply Kd.R_alloc|apply Kd.R_drewN|apply Kd.R_drew));exact HO_11.out)) (by decide) hg)).2.2) KL31.out ((Kd.R_reads' (Kd.R_over' (by (with_reducible repeat (first|apply Kd.R_alloc|apply Kd.R_drewN|apply Kd.R_drew));exact HO_6.out) (Kd.R_typed (by (with_reducible repeat (first|apply Kd.R_alloc|apply Kd.R_drewN|apply Kd.R_drew));exact HO_11.out)) (by decide) hg)).2.1)));have n3_:=Aside0.mk (ho);clear HO_6;clear HB;clear HR148;clear HO_11;have HO_6:=n0_;have HB:=n1_;have HR148:=n2_;have HO154:=n3_;clear n0_ n1_ n2_ n3_;clear ho hb hg hat))
                  go_roundg k4
                  case measure => have:=HJ2.out;have:=HJ19.out;have:=HJ24.out;have:=HK4.out;omega
                  case rel => exact ⟨(y152),(wrap64 (x65_4 + 1)),(by first|rfl|(simp;done)|(simp [*];done)),H',⟨by have:=HJ2.out;have:=HJ19.out;have:=HJ24.out;have:=HK4.out;omega⟩,⟨by (with_reducible repeat (first|apply Kd.R_alloc|apply Kd.R_drewN|apply Kd.R_drew));exact HO_6.out⟩,⟨by (with_reducible repeat (first|apply Kd.R_alloc|apply Kd.R_drewN|apply Kd.R_drew));exact HO154.out⟩,⟨by repeat (first|(with_reducible exact HR148.out)|(with_reducible refine Kd.C_alloc ?_ _)|(with_reducible refine Kd.C_drewN ?_ _)|(with_reducible refine Kd.C_drew ?_)|exact HR148.out)⟩,⟨by repeat (first|(with_reducible first|exact HB.out|apply below_alloc|apply pw_below_drewN|apply below_drew1)|exact HB.out)⟩⟩
                 ·rw [if_neg c37] at H
                  exact absurd H (by simp)
                ·replace c36:=Bool.eq_false_iff.mpr c36
                 subst c36
                 have H1:(some ((⟨#[]⟩:ByteArray),([]:List Int),([]:List Int),4))=some (r1,r2,r3,r4):=by rw [if_neg (show ¬ (false=true) by decide)] at H;exact H
                 clear H
                 have H:=H1
                 clear H1
                 simp only [Option.some.injEq,Prod.mk.injEq] at H
                 obtain ⟨rfl,rfl,rfl,rfl⟩:=H
                 have p149:0≤(x65_4:Int):=of_decide_eq_true (by first|(with_reducible assumption)|assumption)
                 have q149:x65_4 < (y145.length:Int):=of_decide_eq_true (by first|(with_reducible assumption)|assumption)
                 obtain ⟨ad149,e149,hx149_0⟩:=Kd.at_string HR148.out x65_4 p149 q149
                 cases e149
                 try replace hx149_0:=(HB.out.cell (World.block_lt_of_cell? w _ hx149_0)).trans hx149_0
                 replace p149:=eq_true p149
                 replace q149:=eq_true q149
                 go_wp2_with (first|((with_reducible refine gate_callee (f:=12) rfl ?_);refine goesL_ (some 71) rfl rfl Tryd.func12 (by kernel_rfl) rfl #[.string (rdOf ByteArray.empty y145 x65_4)] rfl (by (try simp only [List.map_toArray,List.map_cons,List.map_nil]);first|done|rfl|(simp only [List.length_drop,List.length_take];rfl)) ?_;(with_reducible refine (script_number.calls (rdOf ByteArray.empty y145 x65_4) t150 false _ ?side1 A35.out).mono ?_);(case side1 => exact ⟨GG.below hG.out (by repeat (first|(with_reducible first|exact HB.out|apply below_alloc|apply pw_below_drewN|apply below_drew1)|exact HB.out))⟩);rintro e w40 ⟨rfl,hb⟩;refine ⟨_,rfl,?_⟩;have n0_:=Aside0.mk (Kd.R_below (by (with_reducible repeat (first|apply Kd.R_alloc|apply Kd.R_drewN|apply Kd.R_drew));exact HO_6.out) hb);have n1_:=Aside0.mk (Kd.R_below (by (with_reducible repeat (first|apply Kd.R_alloc|apply Kd.R_drewN|apply Kd.R_drew));exact HO_11.out) hb);have n2_:=Aside0.mk (Kd.C_below (by repeat (first|(with_reducible exact HR148.out)|(with_reducible refine Kd.C_alloc ?_ _)|(with_reducible refine Kd.C_drewN ?_ _)|(with_reducible refine Kd.C_drew ?_)|exact HR148.out)) hb);have n3_:=Aside0.mk (below_step (by repeat (first|(with_reducible first|exact HB.out|apply below_alloc|apply pw_below_drewN|apply below_drew1)|exact HB.out)) hb);clear HO_6;clear HO_11;clear HR148;clear HB;have HO_6:=n0_;have HO_11:=n1_;have HR148:=n2_;have HB:=n3_;clear n0_ n1_ n2_ n3_;(try clear hb);(try clear hb2);(try clear hk);(try clear hi)))
                 refine bodyPost_ret (results_list (rs:=[.tmp 2,.tmp 3,.tmp 4,.tmp 5]) rfl (by simp) (.tmp (.tmp (.tmp (.tmp .nil))))) rfl ?_
                 exact ⟨_,_,by first|rfl|(simp [errW_none,errW_some] <;> rfl)|(simp [*,errW_none,errW_some] <;> rfl),by first|exact Kd.R_nil _ _ _ _ _|exact Kd.N_nil _ _ _ _ _|exact Kd.V_nil _ _ _ _ _|exact Kd.Q_nil _ _ _ _ _|exact Kd.S_nil _ _ _ _ _,by first|exact Kd.R_nil _ _ _ _ _|exact Kd.N_nil _ _ _ _ _|exact Kd.V_nil _ _ _ _ _|exact Kd.Q_nil _ _ _ _ _|exact Kd.S_nil _ _ _ _ _,by repeat (first|(with_reducible first|exact HB.out|apply below_alloc|apply pw_below_drewN|apply below_drew1)|exact HB.out)⟩
               ·rw [if_neg c34] at H
                exact absurd H (by simp)
              ·rw [if_neg c33] at H
               exact absurd H (by simp)
             ·rw [if_neg c32] at H
              have c32b0:decide (x65_4 < (y145.length:Int))=false:=decide_eq_false c32
              clear c32
              by_cases c41:0 < (t131.length:Int)
              ·rw [if_pos c41] at H
               have c41b0:decide (0 < (t131.length:Int))=true:=decide_eq_true c41
               have c41b1:decide (0 < t131.length)=true:=decide_eq_true (by omega)
               clear c41
               simp only [Option.some.injEq,Prod.mk.injEq] at H
               obtain ⟨rfl,rfl,rfl,rfl⟩:=H
               have p155:0≤(0:Int):=(by omega)
               have q155:0 < (t131.length:Int):=of_decide_eq_true (by first|(with_reducible assumption)|assumption)
               obtain ⟨ad155,e155,hx155_0⟩:=Kd.at_string (Kd.R_reads' HO_6.out).2.2 0 p155 q155
               obtain rfl:ad141=ad155:=(by injection e155)
               have qi155:(0 < t131.length)=True:=eq_true (by omega)
               (try rw [show ((0:Int)).toNat=0 from rfl] at hx155_0)
               (try rw [Addr.add_zero'] at hx155_0)
               replace p155:=eq_true p155
               replace q155:=eq_true q155
               go_wp2
               refine bodyPost_ret (results_list (rs:=[.tmp 2,.tmp 3,.tmp 4,.tmp 5]) rfl (by simp) (.tmp (.tmp (.tmp (.tmp .nil))))) rfl ?_
               exact ⟨_,_,by first|rfl|(simp [errW_none,errW_some] <;> rfl)|(simp [*,errW_none,errW_some] <;> rfl),by first|exact Kd.R_nil _ _ _ _ _|exact Kd.N_nil _ _ _ _ _|exact Kd.V_nil _ _ _ _ _|exact Kd.Q_nil _ _ _ _ _|exact Kd.S_nil _ _ _ _ _,by (with_reducible repeat (first|apply Kd.R_alloc|apply Kd.R_drewN|apply Kd.R_drew));exact HO_11.out,by repeat (first|(with_reducible first|exact HB.out|apply below_alloc|apply pw_below_drewN|apply below_drew1)|exact HB.out)⟩
              ·rw [if_neg c41] at H
               exact absurd H (by simp)
          ·rw [if_neg c30] at H
           exact absurd H (by simp)
    ·rw [if_neg c18] at H
     exact absurd H (by simp)
end Go.Proofs.YteooddfilnijgaaDoor.Px
