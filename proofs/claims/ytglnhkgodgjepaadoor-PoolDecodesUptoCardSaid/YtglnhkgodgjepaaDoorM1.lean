/- What the bound on bulk gives. -/
/- What the package-level variables hold, as a fact of the world that stays as the world grows: unicode/utf8's tables; errors.errorType, the handle of 'error'. -/
/- Small laws for the rows: what the bound on bulk gives; a slice of whole numbers, as the walks want it; what the listed tables and errors.errorType give. -/
/- What a type's reading as data gives of a value: a value of the printed kinds, well formed, no bulkier than the datum. -/
import Derived.Test.YtglnhkgodgjepaaDoorRows
import Derived.Test.YtglnhkgodgjepaaDoorProg
import Derived.Below
import Derived.Deep.Draws
import Derived.Deep.AppendLies
import Derived.Maps.AppendAt
import Derived.OwnWalk
import Derived.Laws.BytesArg
import Derived.Laws.MakeOwn
import Derived.Laws.OwnMore
import Derived.Deep.OwnRows
import Derived.Tactics
import Derived.Lib.ConvBytes
import Derived.Laws.Slices
import Derived.WalkKit
import Derived.KernelRfl
import Derived.RowKit3
import Derived.Deep.LoopGhost
import Derived.Deep.QuietTactic
import Derived.BigQuiet
import Derived.WideLaws
import Derived.Deep.DeepCutAuto
import Derived.Deep.CutBlock
import Derived.Deep.RegionHeld3
import Derived.Laws.Rows
import Derived.Lib.AppendStr
import Derived.ArgAppend
import Derived.Laws.IdiomCopy
import Derived.OrdersHeld
import Derived.Laws.BitsLemmas
import Derived.RowKit
import Derived.Test.YtglnhkgodgjepaaDoorWWords
import Derived.Test.YtglnhkgodgjepaaDoorWLast
import Derived.Test.YtglnhkgodgjepaaDoorWQPut
import Derived.Test.YtglnhkgodgjepaaDoorWApart
import Derived.Test.YtglnhkgodgjepaaDoorWArr
import Derived.Test.YtglnhkgodgjepaaDoorWZeros
import Derived.Test.YtglnhkgodgjepaaDoorWFoot
import Derived.Test.YtglnhkgodgjepaaDoorWKept
import Derived.Test.YtglnhkgodgjepaaDoorWShare
import Derived.Test.YtglnhkgodgjepaaDoorWN
import Derived.Test.YtglnhkgodgjepaaDoorWFootNe
import Derived.Test.YtglnhkgodgjepaaDoorWAt
import Derived.Test.YtglnhkgodgjepaaDoorWEqStruct
import Derived.Test.YtglnhkgodgjepaaDoorWRepsOne
import Derived.Test.YtglnhkgodgjepaaDoorWGuard
import Derived.Test.YtglnhkgodgjepaaDoorWNEv
import Derived.Test.YtglnhkgodgjepaaDoorWMore
import Derived.Test.YtglnhkgodgjepaaDoorShelf
import Derived.Shelf.Unicode.DecodeSlow
import Derived.Lib.ValidU
import Derived.Test.YtglnhkgodgjepaaDoorWSized
import Derived.ProofKit
import Derived.OpenShut
import Derived.ShutString
import Derived.Lib.LaidU8T
import Derived.Lib.LaidIn
import Derived.PinnedBridge
import Derived.MakeChecks
import Derived.LaidSub
import Derived.LaidHandle
import Derived.ChangeArms
import Derived.ChangeOld
namespace Go.Proofs.YtglnhkgodgjepaaDoor.Px
set_option linter.unusedVariables false
theorem bulk_one {H : Type} (d : DataW H) : 1 ≤ Rows.uptoBulk d := by
  cases d with
  | lit l => cases l <;> simp [Rows.uptoBulk]
  | nil => simp [Rows.uptoBulk]
  | ptr d => simp [Rows.uptoBulk]
  | slice elems spare => simp [Rows.uptoBulk]
  | agg parts => simp [Rows.uptoBulk]
  | iface t d => simp [Rows.uptoBulk]
  | map entries => simp [Rows.uptoBulk]
  | held h => simp [Rows.uptoBulk]
theorem bulk_part_le {H : Type} {d : DataW H} {l : List (DataW H)} (h : d ∈ l) : Rows.uptoBulk d ≤ Rows.uptoBulkAll l := by
  induction l with
  | nil => cases h
  | cons x r ih =>
    simp only [Rows.uptoBulkAll]
    rcases List.mem_cons.1 h with e | e
    · subst e; omega
    · have := ih e; omega
theorem bulk_length {H : Type} (l : List (DataW H)) : l.length ≤ Rows.uptoBulkAll l := by
  induction l with
  | nil => simp [Rows.uptoBulkAll]
  | cons x r ih => have := bulk_one x; simp only [Rows.uptoBulkAll, List.length_cons]; omega
theorem bulk_part {H : Type} {ds gs : List (DataW H)} {d : DataW H} (hk : Rows.uptoSmall H (ds ++ gs) = true) (hm : d ∈ ds) : Rows.uptoBulk d ≤ 1048576 := by
  have h : Rows.uptoBulkAll (ds ++ gs) ≤ 1048576 := of_decide_eq_true hk
  exact Nat.le_trans (bulk_part_le (List.mem_append_left _ hm)) h
end Go.Proofs.YtglnhkgodgjepaaDoor.Px
namespace Go.Proofs.YtglnhkgodgjepaaDoor.Px
open Go.RowKit Go.Proofs.YtglnhkgodgjepaaDoorW.PrintWords Go.Proofs.YtglnhkgodgjepaaDoorW.PrintLast Go.Proofs.YtglnhkgodgjepaaDoorW.PrintMore
attribute [local go_sem] max2_int min2_int max_two min_two max_three min_three max_four min_four
set_option linter.unusedVariables false
set_option linter.unusedSimpArgs false
def errW:Option Int→Value
 | none => .nilIface
 | some c => .iface 0 (.int .i64 c)
theorem errW_none:errW none=.nilIface:=rfl
theorem errW_some (c:Int):errW (some c)=.iface 0 (.int .i64 c):=rfl
theorem info5:(Tryd.prog.info? 5).map (fun i => (i.zero,i.size,i.bytes))=some (some (.int .u8 0),1,1):=by kernel_rfl
theorem info33:(Tryd.prog.info? 33).map (fun i => (i.zero,i.size,i.bytes))=some (some (.agg #[(.int .i64 0),(.string ⟨#[]⟩),(.int .i64 0),(.int .i64 0),(.int .i64 0)]),5,48):=by kernel_rfl
structure S33 where
 f0:Int
 f1:ByteArray
 f2:Int
 f3:Int
 f4:Int
def z33:S33:=⟨(0:Int),(⟨#[]⟩:ByteArray),(0:Int),(0:Int),(0:Int)⟩
def k33:Kd S33:=Kd.iso (Kd.pair (Kd.int .i64) (Kd.pair Kd.string (Kd.pair (Kd.int .i64) (Kd.pair (Kd.int .i64) (Kd.int .i64))))) (fun x:S33 => (x.f0,x.f1,x.f2,x.f3,x.f4))
theorem k33_open {w:World} {x:S33} {cs:List Value} (h:k33.K w x cs):cs=[.int .i64 x.f0,.string x.f1,.int .i64 x.f2,.int .i64 x.f3,.int .i64 x.f4]:=by
 obtain ⟨_,_,rfl,rfl,⟨_,_,rfl,rfl,⟨_,_,rfl,rfl,⟨_,_,rfl,rfl,rfl⟩⟩⟩⟩:=h
 exact rfl
theorem k33_mkM (w:World) (base:Nat) (ok:Nat→Prop) (x:S33) :k33.M w base ok x [.int .i64 x.f0,.string x.f1,.int .i64 x.f2,.int .i64 x.f3,.int .i64 x.f4]:=⟨[.int .i64 x.f0],[.string x.f1,.int .i64 x.f2,.int .i64 x.f3,.int .i64 x.f4],rfl,rfl,⟨[.string x.f1],[.int .i64 x.f2,.int .i64 x.f3,.int .i64 x.f4],rfl,rfl,⟨[.int .i64 x.f2],[.int .i64 x.f3,.int .i64 x.f4],rfl,rfl,⟨[.int .i64 x.f3],[.int .i64 x.f4],rfl,rfl,rfl⟩⟩⟩⟩
def rd_T33 (xs:List S33) (i:Int):S33:=xs.getD i.toNat z33
theorem at_T33 {w:World} {A:Option Addr} {n:Nat} {xs:List S33} (h:Kd.C k33 w A n xs) (i:Int) (h0:0≤i) (h1:i < n):∃ ad ,A=some ad∧w.cell? (ad.add (i.toNat * 5))=some (.int .i64 (rd_T33 xs i).f0)∧w.cell? ⟨(ad.add (i.toNat * 5)).block,(ad.add (i.toNat * 5)).off + 1,none⟩=some (.string (rd_T33 xs i).f1)∧w.cell? ⟨(ad.add (i.toNat * 5)).block,(ad.add (i.toNat * 5)).off + 2,none⟩=some (.int .i64 (rd_T33 xs i).f2)∧w.cell? ⟨(ad.add (i.toNat * 5)).block,(ad.add (i.toNat * 5)).off + 3,none⟩=some (.int .i64 (rd_T33 xs i).f3)∧w.cell? ⟨(ad.add (i.toNat * 5)).block,(ad.add (i.toNat * 5)).off + 4,none⟩=some (.int .i64 (rd_T33 xs i).f4):=by
 obtain ⟨ad,c,e,_,hK,hc0⟩:=Kd.C_get h z33 i h0 h1
 have hc:∀ j u,c[j]?=some u→w.cell? (ad.add (i.toNat * 5 + j))=some u:=hc0
 obtain rfl:=k33_open hK
 exact ⟨ad,e,hc 0 _ rfl,by rw [← add_field _ _ 1 (by omega)];exact hc 1 _ rfl,by rw [← add_field _ _ 2 (by omega)];exact hc 2 _ rfl,by rw [← add_field _ _ 3 (by omega)];exact hc 3 _ rfl,by rw [← add_field _ _ 4 (by omega)];exact hc 4 _ rfl⟩
end Go.Proofs.YtglnhkgodgjepaaDoor.Px
namespace Go.Proofs.YtglnhkgodgjepaaDoor.Px
open Go.RowKit Go.Proofs.YtglnhkgodgjepaaDoorW.PrintWords Go.Proofs.YtglnhkgodgjepaaDoorW.PrintLast Go.Proofs.YtglnhkgodgjepaaDoorW.PrintMore
structure GG (w:World):Prop where mk ::
 tabs:Lib.Utf8Tabs (Tryd.laysValid_ren.g 3) (Tryd.laysValid_ren.g 4) w
 et:w.cell? ⟨0,0,none⟩=some (.iface 122 (.agg #[.pointer (some ⟨3,49,none⟩)]))
theorem GG.below {w w':World} (h:GG w) (hb:Below w.heap.size w w'):GG w':=⟨Utf8Tabs_below h.tabs hb,pw_cell_below hb h.et⟩
end Go.Proofs.YtglnhkgodgjepaaDoor.Px
namespace Go.Proofs.YtglnhkgodgjepaaDoor.Px
open Go.RowKit Go.ChangeShapes Go.WideShapes Go.ChangeAt Go.Lib Go.Proofs.YtglnhkgodgjepaaDoorW.PrintWords Go.Proofs.YtglnhkgodgjepaaDoorW.PrintLast Go.Proofs.YtglnhkgodgjepaaDoorW.PrintMore
set_option linter.unusedVariables false
theorem int_row {H : Type} {enc : TypeId × Value → H} {P : Program} {W : World} {t e : TypeId} {k : IntKind} {a : Option Addr} {len cap : Nat} {d : DataW H} {p : List MemPlace}
    (ht : P.underlying t = some (.slice e)) (he : P.underlying e = some (.int k)) (hc : P.cellsOf e = 1) (h : DataW.Trod enc P W 0 (fun _ => true) true t (.slice a len cap) d p) :
    ∃ l : List Int, len = l.length ∧ ReadsInt W k a l.length l ∧ (∀ x ∈ l, (Lit.int k x).wf = true) ∧ l.length ≤ cap ∧ l.length ≤ maxLen ∧ ∀ B, Rows.uptoBulk d ≤ B → l.length ≤ B := by
  obtain ⟨fuel, hf⟩ := h
  rcases open_ints ht he hc hf with ⟨hcs, hx⟩ | ⟨x, l, c, zs, hcs, _, hl, hm, hz, hx, hcell, hwz⟩
  · simp [Value.cells] at hcs
    obtain ⟨rfl, rfl, rfl⟩ := hcs
    obtain ⟨l, e1, h1, h2, h3, h4⟩ := ReadsInt.ofRowC (k := k) (w := W) (zs := []) (.inl ⟨rfl, rfl, rfl, rfl⟩)
    exact ⟨l, e1, h1, h3, h4, h2, fun B _ => by omega⟩
  · simp [Value.cells] at hcs
    obtain ⟨rfl, rfl, rfl⟩ := hcs
    simp only [if_true] at hz
    obtain ⟨l, e1, h1, h2, h3, h4⟩ := ReadsInt.ofRowC (k := k) (w := W) (.inr ⟨_, rfl, hl, hm, hz, hcell, hwz⟩)
    refine ⟨l, e1, h1, h3, h4, h2, fun B hB => ?_⟩
    obtain ⟨hx, _⟩ := Prod.mk.inj hx
    subst hx
    simp only [Rows.uptoBulk] at hB
    have := bulk_length (H := H) (lits k (zs.take len))
    have e2 : (lits (H := H) k (zs.take len)).length = len := by simp [lits]; omega
    omega
theorem laid_et : Tryd.prog.globalNamed "errors.errorType" = some 0 := by kernel_rfl
theorem laid_rt : (Tryd.prog.cutTypes.find? (·.1 == "internal/reflectlite.rtype")).map (·.2) = some 122 := by kernel_rfl
theorem laid_oneRow : ((List.range 180).filter fun t => Tryd.prog.rowNamed t [101, 114, 114, 111, 114]) = [49] := by kernel_rfl
theorem laid_size : Tryd.prog.types.size = 180 := by kernel_rfl
theorem GG.of_laid {l : List (String × DataW Unit)} {W : World} (h : laidMetH Tryd.prog l W) (h1 : ("unicode/utf8.acceptRanges", Rows.laid_unicode_utf8_acceptRanges) ∈ l) (h2 : ("unicode/utf8.first", Rows.laid_unicode_utf8_first) ∈ l) (h3 : ("errors.errorType", Rows.laid_errors_errorType) ∈ l) (hS : W.ShapedOpen Tryd.prog) : GG W := by
  obtain ⟨hp, hh⟩ := laidMetH_iff.1 h
  refine ⟨utf8Tabs_of_readsT (U8Types.of196 Tryd.laysValid) ⟨by kernel_rfl, by kernel_rfl, by kernel_rfl, by kernel_rfl, by kernel_rfl, by kernel_rfl, by kernel_rfl⟩ (by have := Lib.laidMet.reads hp (List.mem_filter.2 ⟨h2, by kernel_rfl⟩); unfold Rows.laid_unicode_utf8_first at this; rw [Pinned.utf8First_eq] at this; exact this) (Lib.laidMet.reads hp (List.mem_filter.2 ⟨h1, by kernel_rfl⟩)), ?_⟩
  obtain ⟨name, u, ty, e1, e2, e3, e4, e5⟩ := hh _ (List.mem_filter.2 ⟨h3, by kernel_rfl⟩)
  have en : name = [101, 114, 114, 111, 114] := (Option.some.inj e1).symm
  subst en
  obtain rfl := Option.some.inj (laid_rt.symm.trans e2)
  have hm : ty ∈ (List.range 180).filter fun t => Tryd.prog.rowNamed t [101, 114, 114, 111, 114] := List.mem_filter.2 ⟨List.mem_range.2 (by rw [← laid_size]; exact e3), e4⟩
  rw [laid_oneRow] at hm
  obtain rfl := List.mem_singleton.1 hm
  have hh : typeHandle Tryd.prog 49 = .pointer (some ⟨3, 49, none⟩) := by kernel_rfl
  rw [hh] at e5
  simpa using World.var?_cell laid_et e5 0
end Go.Proofs.YtglnhkgodgjepaaDoor.Px
namespace Go.Proofs.YtglnhkgodgjepaaDoor.Px
open Go.RowKit Go.ChangeShapes Go.WideShapes Go.ChangeAt Go.Proofs.YtglnhkgodgjepaaDoorW.PrintWords Go.Proofs.YtglnhkgodgjepaaDoorW.PrintLast Go.Proofs.YtglnhkgodgjepaaDoorW.PrintMore
set_option linter.unusedVariables false
def Fits {α:Type} {H:Type} (enc:TypeId × Value→H) (P:Program) (W:World) (t:TypeId) (d:Kd α) (Q:Nat→α→Prop):Prop :=
 ∀ (fuel:Nat) (cs:List Value) (x:DataW H) (p:List MemPlace),DataW.trod enc P W 0 (fun _ => true) true fuel t cs=some (x,p)→∃ a:α,d.K W a cs∧Q (Rows.uptoBulk x) a
section
variable {α β:Type} {H:Type} {enc:TypeId × Value→H} {P:Program} {W:World} {t e:TypeId}
def Qint (k:IntKind) (_:Nat) (a:Int):Prop:=(Lit.int k a).wf=true
def Qbool (_:Nat) (_:Bool):Prop:=True
def Qstr (b:Nat) (a:ByteArray):Prop:=a.size < b
theorem Qint.mono (k:IntKind):∀ b b' a,b≤b'→Qint k b a→Qint k b' a:=fun _ _ _ _ h => h
theorem Qbool.mono:∀ b b' a,b≤b'→Qbool b a→Qbool b' a:=fun _ _ _ _ h => h
theorem Qstr.mono:∀ b b' a,b≤b'→Qstr b a→Qstr b' a:=fun _ _ _ h1 h2 => Nat.lt_of_lt_of_le h2 h1
theorem Fits.int {k:IntKind} (ht:P.underlying t=some (.int k)):Fits enc P W t (Kd.int k) (Qint k):=by
 intro fuel cs x p h
 obtain ⟨n,hc,hx,hw⟩:=DataW.trod_int ht h
 exact ⟨n,hc,hw⟩
theorem Fits.bool (ht:P.underlying t=some .bool):Fits enc P W t Kd.bool Qbool:=by
 intro fuel cs x p h
 obtain ⟨b,hc,hx⟩:=DataW.trod_bool ht h
 exact ⟨b,hc,trivial⟩
theorem Fits.string (ht:P.underlying t=some .string):Fits enc P W t Kd.string Qstr:=by
 intro fuel cs x p h
 obtain ⟨s,hc,hx⟩:=DataW.trod_string ht h
 refine ⟨s,hc,?_⟩
 unfold Qstr
 have hx:=(Prod.mk.inj hx.1).1
 subst hx
 simp only [Rows.uptoBulk]
 have e:s.data.toList.length=s.size:=by rw [Array.length_toList];rfl
 omega
theorem fits_add (a:Addr) (x j:Nat):(a.add x).add j=a.add (x + j):=by
 unfold Addr.add
 by_cases h1:x=0 <;> by_cases h2:j=0 <;> simp [h1,h2,Nat.add_assoc]
def QAll (Q:Nat→α→Prop) (b:Nat) (l:List α):Prop:=l.length < b∧∀ x ∈ l,Q b x
theorem QAll.mono {Q:Nat→α→Prop} (hQ:∀ b b' a,b≤b'→Q b a→Q b' a):∀ b b' l,b≤b'→QAll Q b l→QAll Q b' l:=fun b b' l h hq => ⟨Nat.lt_of_lt_of_le hq.1 h,fun x hx => hQ _ _ _ h (hq.2 x hx)⟩
theorem Fits.slice {d:Kd α} {Q:Nat→α→Prop} (hQ:∀ b b' a,b≤b'→Q b a→Q b' a) (ht:P.underlying t=some (.slice e)) (hsz:P.cellsOf e=d.sz) (hd:Fits enc P W e d Q):Fits enc P W t (Kd.slice e d) (QAll Q):=by
 intro fuel cs x p h
 rcases DataW.trod_slice ht h with ⟨hcs,hx⟩|⟨a,len,cap,elems,rest,n,_,hcs,hx,_,hl,hm,hlen,hel,_,_⟩
 ·refine ⟨[],⟨none,0,hcs,Nat.le_refl _,rfl,by simp,fun hh => absurd hh (by simp)⟩,?_,fun y hy => by cases hy⟩
  exact bulk_one x
 ·have hx1:=(Prod.mk.inj hx).1
  have each:∀ i,i < len→∃ y:α,∃ c:List Value,d.K W y c∧c.length=d.sz∧(∀ j u,c[j]?=some u→W.cell? (a.add (i * d.sz + j))=some u)∧Q (Rows.uptoBulk x) y:=by
   intro i hi
   have h1:=hel i hi
   obtain ⟨z,hz⟩:∃ z,elems[i]?=some z:=⟨elems[i]'(by omega),List.getElem?_eq_getElem (by omega)⟩
   rw [hz] at h1
   obtain ⟨c,hc,hk⟩:=Option.bind_eq_some_iff.1 h1
   obtain ⟨_,hcl,hcc⟩:=World.cells?_some hc
   obtain ⟨y,hy,hq⟩:=hd n c z.1 z.2 hk
   refine ⟨y,c,hy,by rw [hcl,hsz],?_,hQ _ _ _ ?_ hq⟩
   ·intro j u hj
    have hjl:j < c.length:=(List.getElem?_eq_some_iff.1 hj).1
    have:=hcc j (by omega)
    rw [hj] at this
    rw [← this,hsz,fits_add]
   ·rw [hx1]
    simp only [Rows.uptoBulk]
    have:z.1 ∈ elems.map (·.1):=List.mem_map_of_mem (List.mem_of_getElem? hz)
    have:=bulk_part_le this
    omega
  have hf:∀ i:Fin len,∃ c:List Value,d.K W (Classical.choose (each i.1 i.2)) c∧c.length=d.sz∧(∀ j u,c[j]?=some u→W.cell? (a.add (i.1 * d.sz + j))=some u)∧Q (Rows.uptoBulk x) (Classical.choose (each i.1 i.2)):=fun i => Classical.choose_spec (each i.1 i.2)
  generalize hF:(fun i:Fin len => Classical.choose (each i.1 i.2))=f at hf
  replace hf:∀ i:Fin len,∃ c:List Value,d.K W (f i) c∧c.length=d.sz∧(∀ j u,c[j]?=some u→W.cell? (a.add (i.1 * d.sz + j))=some u)∧Q (Rows.uptoBulk x) (f i):=fun i => by
   have:=hf i
   rw [← hF]
   exact this
  have hxs:(List.ofFn f).length=len:=by simp
  refine ⟨List.ofFn f,⟨some a,cap,by rw [hxs];exact hcs,by rw [hxs];exact hl,rfl,?_,fun _ => ⟨a,rfl,?_⟩⟩,?_,?_⟩
  ·rw [hxs];unfold maxLen at hm;omega
  ·intro j q hj
   have hjl:j < len:=by
    have:=(List.getElem?_eq_some_iff.1 hj).1
    omega
   have hq:f ⟨j,hjl⟩=q:=by
    rw [List.getElem?_ofFn,dif_pos hjl] at hj
    exact Option.some.inj hj
   obtain ⟨c,h1,h2,h3,_⟩:=hf ⟨j,hjl⟩
   subst hq
   exact ⟨c,h2,h1,h3⟩
  ·rw [hxs,hx1]
   simp only [Rows.uptoBulk]
   have:=bulk_length (elems.map (·.1))
   rw [List.length_map] at this
   omega
  ·intro y hy
   obtain ⟨i,rfl⟩:=(List.mem_ofFn).1 hy
   obtain ⟨_,_,_,_,hq⟩:=hf i
   exact hq
end
end Go.Proofs.YtglnhkgodgjepaaDoor.Px
namespace Go.Proofs.YtglnhkgodgjepaaDoor.Px
open Go.RowKit Go.Proofs.YtglnhkgodgjepaaDoorW.PrintWords Go.Proofs.YtglnhkgodgjepaaDoorW.PrintLast Go.Proofs.YtglnhkgodgjepaaDoorW.PrintMore
attribute [local go_sem] max2_int min2_int max_two min_two max_three min_three max_four min_four
set_option linter.unusedVariables false
set_option linter.unusedSimpArgs false
def pool_is.f (l0:List (S33)) (a1:Int) (a2:Int):Option (Bool):=if a1 > 0 then (if a1 < (l0.length:Int) then (if 0≤a1 then (some (((rd_T33 l0 a1).f0)==a2)) else (none)) else (some false)) else (some false)
set_option maxHeartbeats 80000000 in
set_option maxRecDepth 100000 in
theorem pool_is.calls (A0:Option Addr) (c0:Nat) (l0:List (S33)) (a1:Int) (a2:Int) (r:Bool) (w:World) (hr0:Kd.C k33 w A0 l0.length l0) (hc0:l0.length≤c0) (h:pool_is.f l0 a1 a2=some r) :
  Calls Tryd.prog 22 #[.slice A0 l0.length c0,.int .i64 a1,.int .i64 a2] w fun e w' => e=.returned (.bool r)∧Drawn0 w w':=by
 have HR0:=Aside0.mk hr0
 have HC0:=Aside0.mk hc0
 clear hr0 hc0
 have H:(if a1 > 0 then (if a1 < (l0.length:Int) then (if 0≤a1 then (some (((rd_T33 l0 a1).f0)==a2)) else (none)) else (some false)) else (some false))=some r:=h
 clear h
 by_cases c4:a1 > 0
 ·rw [if_pos c4] at H
  have c4b0:decide (0 < a1)=true:=decide_eq_true c4
  clear c4
  by_cases c5:a1 < (l0.length:Int)
  ·rw [if_pos c5] at H
   have c5b0:decide (a1 < (l0.length:Int))=true:=decide_eq_true c5
   clear c5
   by_cases c6:0≤a1
   ·rw [if_pos c6] at H
    have c6b0:decide (0≤a1)=true:=decide_eq_true c6
    clear c6
    obtain rfl:=Option.some.inj H
    have p101:0≤(a1:Int):=of_decide_eq_true (by first|(with_reducible assumption)|assumption)
    have q101:a1 < (l0.length:Int):=of_decide_eq_true (by first|(with_reducible assumption)|assumption)
    obtain ⟨ad101,e101,hx101_0,hx101_1,hx101_2,hx101_3,hx101_4⟩:=at_T33 HR0.out a1 p101 q101
    cases e101
    replace p101:=eq_true p101
    replace q101:=eq_true q101
    go_enter Tryd.func22,Tryd.ntmps22
    go_wp2
    go_ret
    exact ⟨by first|rfl|(simp;done)|(simp [*];done),by repeat (first|exact Drawn0.refl _|apply Drawn0.step)⟩
   ·rw [if_neg c6] at H
    exact absurd H (by simp)
  ·rw [if_neg c5] at H
   have c5b0:decide (a1 < (l0.length:Int))=false:=decide_eq_false c5
   clear c5
   obtain rfl:=Option.some.inj H
   go_enter Tryd.func22,Tryd.ntmps22
   go_wp2
   go_ret
   exact ⟨by first|rfl|(simp;done)|(simp [*];done),by repeat (first|exact Drawn0.refl _|apply Drawn0.step)⟩
 ·rw [if_neg c4] at H
  have c4b0:decide (0 < a1)=false:=decide_eq_false c4
  clear c4
  obtain rfl:=Option.some.inj H
  go_enter Tryd.func22,Tryd.ntmps22
  go_wp2
  go_ret
  exact ⟨by first|rfl|(simp;done)|(simp [*];done),by repeat (first|exact Drawn0.refl _|apply Drawn0.step)⟩
def pool_Text.f (l0:List (S33)) (a1:Int):Option (ByteArray × Bool):=(pool_is.f l0 a1 1).bind fun t102 => (if t102=true then (if 0≤a1 then (if a1 < (l0.length:Int) then (some ((rd_T33 l0 a1).f1,true)) else (none)) else (none)) else (some ((⟨#[]⟩:ByteArray),false)))
set_option maxHeartbeats 80000000 in
set_option maxRecDepth 100000 in
theorem pool_Text.calls (A0:Option Addr) (c0:Nat) (l0:List (S33)) (a1:Int) (r1:ByteArray) (r2:Bool) (w:World) (hr0:Kd.C k33 w A0 l0.length l0) (hc0:l0.length≤c0) (h:pool_Text.f l0 a1=some (r1,r2)) :
  Calls Tryd.prog 11 #[.slice A0 l0.length c0,.int .i64 a1] w fun e w' => e=.returned (.tuple #[.string r1,.bool r2])∧Drawn0 w w':=by
 have HR0:=Aside0.mk hr0
 have HC0:=Aside0.mk hc0
 clear hr0 hc0
 have H:((pool_is.f l0 a1 1).bind fun t102 => (if t102=true then (if 0≤a1 then (if a1 < (l0.length:Int) then (some ((rd_T33 l0 a1).f1,true)) else (none)) else (none)) else (some ((⟨#[]⟩:ByteArray),false))))=some (r1,r2):=h
 clear h
 replace H:=Option.bind_eq_some_iff.mp H
 obtain ⟨t102,A30,H⟩:=H
 replace H:(if t102=true then (if 0≤a1 then (if a1 < (l0.length:Int) then (some ((rd_T33 l0 a1).f1,true)) else (none)) else (none)) else (some ((⟨#[]⟩:ByteArray),false)))=some (r1,r2):=H
 have A3:=Aside0.mk A30
 clear A30
 by_cases c4:t102=true
 ·subst c4
  have H1:(if 0≤a1 then (if a1 < (l0.length:Int) then (some ((rd_T33 l0 a1).f1,true)) else (none)) else (none))=some (r1,r2):=by rw [if_pos rfl] at H;exact H
  clear H
  have H:=H1
  clear H1
  by_cases c5:0≤a1
  ·rw [if_pos c5] at H
   have c5b0:decide (0≤a1)=true:=decide_eq_true c5
   clear c5
   by_cases c6:a1 < (l0.length:Int)
   ·rw [if_pos c6] at H
    have c6b0:decide (a1 < (l0.length:Int))=true:=decide_eq_true c6
    clear c6
    simp only [Option.some.injEq,Prod.mk.injEq] at H
    obtain ⟨rfl,rfl⟩:=H
    go_enter Tryd.func11,Tryd.ntmps11
    go_wp2_with (first|((with_reducible refine gate_callee (f:=22) rfl ?_);refine goesL_ (some 8) rfl rfl Tryd.func22 (by kernel_rfl) rfl #[.slice A0 l0.length c0,.int .i64 a1,.int .i64 1] rfl (by (try simp only [List.map_toArray,List.map_cons,List.map_nil]);first|done|rfl|(simp only [List.length_drop,List.length_take];rfl)) ?_;(with_reducible refine (pool_is.calls _ _ l0 a1 1 true _ ?side1 ?side2 A3.out).mono ?_);(case side1 => repeat (first|exact HR0.out|(with_reducible refine Kd.C_alloc ?_ _)|(with_reducible refine Kd.C_drewN ?_ _)|(with_reducible refine Kd.C_drew ?_)));(case side2 => exact HC0.out);rintro e w' ⟨rfl,⟨nd,rfl⟩⟩;refine ⟨_,rfl,?_⟩;have p103:0≤(a1:Int):=of_decide_eq_true (by first|(with_reducible assumption)|assumption);have q103:a1 < (l0.length:Int):=of_decide_eq_true (by first|(with_reducible assumption)|assumption);obtain ⟨ad103,e103,hx103_0,hx103_1,hx103_2,hx103_3,hx103_4⟩:=at_T33 HR0.out a1 p103 q103;cases e103;replace p103:=eq_true p103;replace q103:=eq_true q103))
    go_ret2
    exact ⟨by first|rfl|(simp;done)|(simp [*];done),by repeat (first|exact Drawn0.refl _|apply Drawn0.step)⟩
   ·rw [if_neg c6] at H
    exact absurd H (by simp)
  ·rw [if_neg c5] at H
   exact absurd H (by simp)
 ·replace c4:=Bool.eq_false_iff.mpr c4
  subst c4
  have H1:(some ((⟨#[]⟩:ByteArray),false))=some (r1,r2):=by rw [if_neg (show ¬ (false=true) by decide)] at H;exact H
  clear H
  have H:=H1
  clear H1
  simp only [Option.some.injEq,Prod.mk.injEq] at H
  obtain ⟨rfl,rfl⟩:=H
  go_enter Tryd.func11,Tryd.ntmps11
  go_wp2_with (first|((with_reducible refine gate_callee (f:=22) rfl ?_);refine goesL_ (some 8) rfl rfl Tryd.func22 (by kernel_rfl) rfl #[.slice A0 l0.length c0,.int .i64 a1,.int .i64 1] rfl (by (try simp only [List.map_toArray,List.map_cons,List.map_nil]);first|done|rfl|(simp only [List.length_drop,List.length_take];rfl)) ?_;(with_reducible refine (pool_is.calls _ _ l0 a1 1 false _ ?side1 ?side2 A3.out).mono ?_);(case side1 => repeat (first|exact HR0.out|(with_reducible refine Kd.C_alloc ?_ _)|(with_reducible refine Kd.C_drewN ?_ _)|(with_reducible refine Kd.C_drew ?_)));(case side2 => exact HC0.out);rintro e w' ⟨rfl,⟨nd,rfl⟩⟩;refine ⟨_,rfl,?_⟩))
  go_ret2
  exact ⟨by first|rfl|(simp;done)|(simp [*];done),by repeat (first|exact Drawn0.refl _|apply Drawn0.step)⟩
def understudylaw04_awake.f :Option (Bool):=(pool_Text.f (([(⟨0,(⟨#[]⟩:ByteArray),0,0,0⟩:S33),(⟨1,(⟨#[65]⟩:ByteArray),0,0,0⟩:S33)]:List (S33))) 1).bind fun bt107 => (if bt107.1.toList=([65]:List UInt8) then (some bt107.2) else (some false))
set_option maxHeartbeats 80000000 in
set_option maxRecDepth 100000 in
theorem understudylaw04_awake.calls  (r:Bool) (w:World) (h:understudylaw04_awake.f =some r) :
  Calls Tryd.prog 10 #[] w fun e w' => e=.returned (.bool r)∧Below w.heap.size w w':=by
 have hu33:=Tryd.underlying33
 have HB:=Aside0.mk (Below.refl w.heap.size w)
 have H:((pool_Text.f (([(⟨0,(⟨#[]⟩:ByteArray),0,0,0⟩:S33),(⟨1,(⟨#[65]⟩:ByteArray),0,0,0⟩:S33)]:List (S33))) 1).bind fun bt107 => (if bt107.1.toList=([65]:List UInt8) then (some bt107.2) else (some false)))=some r:=h
 clear h
 obtain ⟨y104,hy104⟩:∃ y_:List (S33),y_=(([(⟨0,(⟨#[]⟩:ByteArray),0,0,0⟩:S33),(⟨1,(⟨#[65]⟩:ByteArray),0,0,0⟩:S33)]:List (S33))):=⟨_,rfl⟩
 replace H:((pool_Text.f y104 1).bind fun bt107 => (if bt107.1.toList=([65]:List UInt8) then (some bt107.2) else (some false)))=some r:=by first|(rw [hy104];with_reducible exact H)|(have H2_:=(Option.bind_some _ _).symm.trans H;rw [hy104];with_reducible exact H2_)|(have H2_:=(Option.bind_some _ _).symm.trans H;with_reducible exact H2_)|with_reducible exact H|(rw [hy104];exact H)|exact H
 have Ny104:=Aside0.mk hy104
 clear hy104
 replace H:=Option.bind_eq_some_iff.mp H
 obtain ⟨⟨t107,t108⟩,A10,H⟩:=H
 replace H:(if t107.toList=([65]:List UInt8) then (some t108) else (some false))=some r:=H
 have A1:=Aside0.mk A10
 clear A10
 by_cases c2:t107.toList=([65]:List UInt8)
 ·rw [if_pos c2] at H
  have c2b0:(t107.toList==([65]:List UInt8))=true:=beq_iff_eq.mpr c2
  have c2b1:(t107.toList != ([65]:List UInt8))=false:=bne_eq_false_iff_eq.mpr c2
  clear c2
  obtain rfl:=Option.some.inj H
  go_enter Tryd.func10,Tryd.ntmps10
  go_wp2_with (first|((with_reducible refine gate_dst (N:=6) rfl ?_);refine Kd.R_lit k33 _ 33 ?hg (N:=6) ?hd (xs:=([(⟨0,(⟨#[]⟩:ByteArray),0,0,0⟩:S33),(⟨1,(⟨#[65]⟩:ByteArray),0,0,0⟩:S33)]:List (S33))) (inner:=[.int .i64 0,.string (⟨#[]⟩:ByteArray),.int .i64 0,.int .i64 0,.int .i64 0,.int .i64 1,.string (⟨#[65]⟩:ByteArray),.int .i64 0,.int .i64 0,.int .i64 0]) (ok:=fun _ => True) (okp:=fun _ => True) ?hr ?hp (fun _ hk => hk) trivial (Below.refl _ _) (Nat.le_refl _) (by simp) ?_;(case hd => rfl);(case hg => rfl);(case hr => first|(go_simp;done)|(go_simp;rfl));(case hp => exact (Reps.c5 (show Kd.M k33 _ _ _ (⟨0,(⟨#[]⟩:ByteArray),0,0,0⟩:S33) [.int .i64 0,.string (⟨#[]⟩:ByteArray),.int .i64 0,.int .i64 0,.int .i64 0] from (k33_mkM _ _ _ (⟨0,(⟨#[]⟩:ByteArray),0,0,0⟩:S33) )) (Reps.c5 (show Kd.M k33 _ _ _ (⟨1,(⟨#[65]⟩:ByteArray),0,0,0⟩:S33) [.int .i64 1,.string (⟨#[65]⟩:ByteArray),.int .i64 0,.int .i64 0,.int .i64 0] from (k33_mkM _ _ _ (⟨1,(⟨#[65]⟩:ByteArray),0,0,0⟩:S33) )) (Reps.none _ _))));intro v105 w3 ho4 hb hg_ hnew_;clear hg_ hnew_;(first|rw [← Ny104.out] at ho4|(simp only [Int.reduceToNat] at ho4;rw [← Ny104.out] at ho4));have n0_:=Aside0.mk (Kd.R_lower ho4 (below_size (by repeat (first|(with_reducible first|exact HB.out|apply below_alloc|apply pw_below_drewN|apply below_drew1)|exact HB.out))));have n1_:=Aside0.mk (below_step (by repeat (first|(with_reducible first|exact HB.out|apply below_alloc|apply pw_below_drewN|apply below_drew1)|exact HB.out)) hb);clear HB;have HO106:=n0_;have HB:=n1_;clear n0_ n1_;clear hb ho4;obtain ⟨Ao5,co5,eo5⟩:=Kd.R_slice HO106.out;subst eo5)|((with_reducible refine gate_callee (f:=11) rfl ?_);refine goesL_ (some 7) rfl rfl Tryd.func11 (by kernel_rfl) rfl #[.slice Ao5 y104.length co5,.int .i64 1] rfl (by (try simp only [List.map_toArray,List.map_cons,List.map_nil]);first|done|rfl|(simp only [List.length_drop,List.length_take];rfl)) ?_;(with_reducible refine (pool_Text.calls _ _ y104 1 t107 t108 _ ?side1 ?side2 A1.out).mono ?_);(case side1 => repeat (first|exact (Kd.R_reads' HO106.out).2.2|(with_reducible refine Kd.C_alloc ?_ _)|(with_reducible refine Kd.C_drewN ?_ _)|(with_reducible refine Kd.C_drew ?_)));(case side2 => exact (Kd.R_reads' HO106.out).2.1);rintro e w' ⟨rfl,⟨nd,rfl⟩⟩;refine ⟨_,rfl,?_⟩))
  go_ret
  exact ⟨by first|rfl|(simp [errW_none,errW_some] <;> rfl)|(simp [*,errW_none,errW_some] <;> rfl),by repeat (first|(with_reducible first|exact HB.out|apply below_alloc|apply pw_below_drewN|apply below_drew1)|exact HB.out)⟩
 ·rw [if_neg c2] at H
  have c2b0:(t107.toList==([65]:List UInt8))=false:=beq_eq_false_iff_ne.mpr c2
  have c2b1:(t107.toList != ([65]:List UInt8))=true:=bne_iff_ne.mpr c2
  obtain rfl:=Option.some.inj H
  go_enter Tryd.func10,Tryd.ntmps10
  go_wp2_with (first|((with_reducible refine gate_dst (N:=6) rfl ?_);refine Kd.R_lit k33 _ 33 ?hg (N:=6) ?hd (xs:=([(⟨0,(⟨#[]⟩:ByteArray),0,0,0⟩:S33),(⟨1,(⟨#[65]⟩:ByteArray),0,0,0⟩:S33)]:List (S33))) (inner:=[.int .i64 0,.string (⟨#[]⟩:ByteArray),.int .i64 0,.int .i64 0,.int .i64 0,.int .i64 1,.string (⟨#[65]⟩:ByteArray),.int .i64 0,.int .i64 0,.int .i64 0]) (ok:=fun _ => True) (okp:=fun _ => True) ?hr ?hp (fun _ hk => hk) trivial (Below.refl _ _) (Nat.le_refl _) (by simp) ?_;(case hd => rfl);(case hg => rfl);(case hr => first|(go_simp;done)|(go_simp;rfl));(case hp => exact (Reps.c5 (show Kd.M k33 _ _ _ (⟨0,(⟨#[]⟩:ByteArray),0,0,0⟩:S33) [.int .i64 0,.string (⟨#[]⟩:ByteArray),.int .i64 0,.int .i64 0,.int .i64 0] from (k33_mkM _ _ _ (⟨0,(⟨#[]⟩:ByteArray),0,0,0⟩:S33) )) (Reps.c5 (show Kd.M k33 _ _ _ (⟨1,(⟨#[65]⟩:ByteArray),0,0,0⟩:S33) [.int .i64 1,.string (⟨#[65]⟩:ByteArray),.int .i64 0,.int .i64 0,.int .i64 0] from (k33_mkM _ _ _ (⟨1,(⟨#[65]⟩:ByteArray),0,0,0⟩:S33) )) (Reps.none _ _))));intro v105 w6 ho7 hb hg_ hnew_;clear hg_ hnew_;(first|rw [← Ny104.out] at ho7|(simp only [Int.reduceToNat] at ho7;rw [← Ny104.out] at ho7));have n0_:=Aside0.mk (Kd.R_lower ho7 (below_size (by repeat (first|(with_reducible first|exact HB.out|apply below_alloc|apply pw_below_drewN|apply below_drew1)|exact HB.out))));have n1_:=Aside0.mk (below_step (by repeat (first|(with_reducible first|exact HB.out|apply below_alloc|apply pw_below_drewN|apply below_drew1)|exact HB.out)) hb);clear HB;have HO106:=n0_;have HB:=n1_;clear n0_ n1_;clear hb ho7;obtain ⟨Ao8,co8,eo8⟩:=Kd.R_slice HO106.out;subst eo8)|((with_reducible refine gate_callee (f:=11) rfl ?_);refine goesL_ (some 7) rfl rfl Tryd.func11 (by kernel_rfl) rfl #[.slice Ao8 y104.length co8,.int .i64 1] rfl (by (try simp only [List.map_toArray,List.map_cons,List.map_nil]);first|done|rfl|(simp only [List.length_drop,List.length_take];rfl)) ?_;(with_reducible refine (pool_Text.calls _ _ y104 1 t107 t108 _ ?side1 ?side2 A1.out).mono ?_);(case side1 => repeat (first|exact (Kd.R_reads' HO106.out).2.2|(with_reducible refine Kd.C_alloc ?_ _)|(with_reducible refine Kd.C_drewN ?_ _)|(with_reducible refine Kd.C_drew ?_)));(case side2 => exact (Kd.R_reads' HO106.out).2.1);rintro e w' ⟨rfl,⟨nd,rfl⟩⟩;refine ⟨_,rfl,?_⟩))
  go_ret
  exact ⟨by first|rfl|(simp [errW_none,errW_some] <;> rfl)|(simp [*,errW_none,errW_some] <;> rfl),by repeat (first|(with_reducible first|exact HB.out|apply below_alloc|apply pw_below_drewN|apply below_drew1)|exact HB.out)⟩
def text_split.f (a0:Int):Option (Int × Int):=if a0 < 65536 then (some (0,a0)) else (some (wrap32 (55296 + ((wrap32 (a0 - 65536)) / 1024)),wrap32 (56320 + (Go.bits .and .i32 (wrap32 (a0 - 65536)) 1023))))
set_option maxHeartbeats 80000000 in
set_option maxRecDepth 100000 in
theorem text_split.calls (a0:Int) (r1:Int) (r2:Int) (w:World) (h:text_split.f a0=some (r1,r2)) :
  Calls Tryd.prog 47 #[.int .i32 a0] w fun e w' => e=.returned (.tuple #[.int .i32 r1,.int .i32 r2])∧Drawn0 w w':=by
 have H:(if a0 < 65536 then (some (0,a0)) else (some (wrap32 (55296 + ((wrap32 (a0 - 65536)) / 1024)),wrap32 (56320 + (Go.bits .and .i32 (wrap32 (a0 - 65536)) 1023)))))=some (r1,r2):=h
 clear h
 by_cases c2:a0 < 65536
 ·rw [if_pos c2] at H
  have c2b0:decide (a0 < 65536)=true:=decide_eq_true c2
  clear c2
  simp only [Option.some.injEq,Prod.mk.injEq] at H
  obtain ⟨rfl,rfl⟩:=H
  go_enter Tryd.func47,Tryd.ntmps47
  go_wp2
  go_ret2
  exact ⟨by first|rfl|(simp;done)|(simp [*];done),by repeat (first|exact Drawn0.refl _|apply Drawn0.step)⟩
 ·rw [if_neg c2] at H
  have c2b0:decide (a0 < 65536)=false:=decide_eq_false c2
  clear c2
  simp only [Option.some.injEq,Prod.mk.injEq] at H
  obtain ⟨rfl,rfl⟩:=H
  go_enter Tryd.func47,Tryd.ntmps47
  go_wp2
  go_ret2
  exact ⟨by first|rfl|(simp;done)|(simp [*];done),by repeat (first|exact Drawn0.refl _|apply Drawn0.step)⟩
def text_unit.j0:Nat→List Int→Int→Bool→Option (List Int)
 | 0,_,_,_ => none
 | k + 1,x0,x1,x5 => if x5=true then (if x0.length < 140737488355328 then (some (x0++[(x1) % 256])) else (none)) else (if x1 < 2048 then ((some (([Go.bits .or .u8 192 ((x1 / 64) % 256),Go.bits .or .u8 128 ((Go.bits .and .i32 x1 63) % 256)]:List Int):List Int)).bind fun y112 => (if x0.length + y112.length < 140737488355328 then (some (x0++y112)) else (none))) else ((some (([Go.bits .or .u8 224 ((x1 / 4096) % 256),Go.bits .or .u8 128 ((Go.bits .and .i32 (x1 / 64) 63) % 256),Go.bits .or .u8 128 ((Go.bits .and .i32 x1 63) % 256)]:List Int):List Int)).bind fun y118 => (if x0.length + y118.length < 140737488355328 then (some (x0++y118)) else (none))))
def text_unit.f (k:Nat) (l0:List Int) (a1:Int):Option (List Int):=if a1 > 0 then (text_unit.j0 k l0 a1 (decide (a1 < 128))) else (text_unit.j0 k l0 a1 false)
theorem text_unit.mono_l:∀ k,(∀ y0 y1 y2,LeO (text_unit.j0 k y0 y1 y2) (text_unit.j0 (k + 1) y0 y1 y2))
 | 0 => fun _ _ _ r h => by simp [text_unit.j0] at h
 | k + 1 => by
  have ih0:=text_unit.mono_l k
  ·intro y0 y1 y2
   unfold text_unit.j0
   repeat' first
   | (with_reducible exact ih0 _ _ _)
   | (with_reducible exact LeO.refl _)
   | (with_reducible exact LeO.none _)
   | (with_reducible refine LeO.ite ?_ ?_)
   | (with_reducible refine LeO.bind ?_ (fun _ => ?_))
   | exact ih0 _ _ _
   | exact LeO.none _
   | refine LeO.ite ?_ ?_
   | refine LeO.bind ?_ (fun _ => ?_)
theorem text_unit.mono:∀ a0 a1 k,LeO (text_unit.f k a0 a1) (text_unit.f (k + 1) a0 a1):=by
 intro a0 a1 k
 have ih0:=text_unit.mono_l k
 unfold text_unit.f
 repeat' first
   | (with_reducible exact ih0 _ _ _)
   | (with_reducible exact LeO.refl _)
   | (with_reducible exact LeO.none _)
   | (with_reducible refine LeO.ite ?_ ?_)
   | (with_reducible refine LeO.bind ?_ (fun _ => ?_))
   | exact ih0 _ _ _
   | exact LeO.none _
   | refine LeO.ite ?_ ?_
   | refine LeO.bind ?_ (fun _ => ?_)
set_option maxHeartbeats 80000000 in
set_option maxRecDepth 100000 in
theorem text_unit.calls (k:Nat) (P0_:Nat→Prop) (u9000_:Value) (l0:List Int) (a1:Int) (r:List Int) (w0 w:World) (hB:Below w0.heap.size w0 w) (ho0:Kd.R (Kd.int .u8) 5 w w0.heap.size P0_ u9000_ l0) (h:text_unit.f k l0 a1=some r) :
  Calls Tryd.prog 48 #[u9000_,.int .i32 a1] w fun e w' => ∃ v0_:Value,e=.returned (v0_)∧Kd.R (Kd.int .u8) 5 w' w0.heap.size (fun k_ => (P0_ k_ ∨ w.heap.size≤k_)) v0_ r∧Below w0.heap.size w0 w'∧Kept w w' (fun k_ => P0_ k_):=by
 have HO0:=Aside0.mk (show Kd.R (Kd.int .u8) 5 w w0.heap.size (fun k_ => (P0_ k_ ∨ w.heap.size≤k_)) u9000_ l0 from Kd.R_mono ho0 (fun k_ hk => (.inl hk)))
 have HK:=Aside0.mk (Kept.refl w (fun k_ => P0_ k_))
 have HW0:=Aside0.mk hB.size
 have HB:=Aside0.mk hB
 clear hB
 have H:(if a1 > 0 then (text_unit.j0 k l0 a1 (decide (a1 < 128))) else (text_unit.j0 k l0 a1 false))=some r:=h
 clear h
 have HC3:=Aside0.mk H
 clear H
 go_enter Tryd.func48,Tryd.ntmps48
 go_upto_region 1 with (fail)
 go_cut [5] (fun v5 wc => ∃ (kq:Nat) (x5_2:Bool),v5=.bool x5_2∧Aside0 (text_unit.j0 kq l0 a1 x5_2=some r)∧Aside0 (kq≤k)∧Aside0 (Kd.R (Kd.int .u8) 5 wc w0.heap.size (fun k_ => (P0_ k_ ∨ w.heap.size≤k_)) u9000_ l0)∧Aside0 (Kept w wc (fun k_ => P0_ k_))∧Aside0 (Below w0.heap.size w0 wc))
 case first =>
  have H:=HC3.out
  clear HC3
  by_cases c4:a1 > 0
  ·rw [if_pos c4] at H
   have c4b0:decide (0 < a1)=true:=decide_eq_true c4
   clear c4
   (first|rw [c4b0]|(simp only [i64_w,i32_w];rw [c4b0])|skip)
   have H':=Aside0.mk H
   clear H
   go_wp2
   go_meet
   case rel => exact ⟨_,(decide (a1 < 128)),(by first|rfl|(simp;done)|(simp [*];done)),H',⟨by first|omega|exact Nat.le_refl _⟩,⟨by (with_reducible repeat (first|apply Kd.R_alloc|apply Kd.R_drewN|apply Kd.R_drew));exact HO0.out⟩,⟨by repeat (first|(with_reducible first|exact HK.out|apply Kept.alloc|apply Kept.drewN|apply Kept.drew)|exact HK.out)⟩,⟨by repeat (first|(with_reducible first|exact HB.out|apply below_alloc|apply pw_below_drewN|apply below_drew1)|exact HB.out)⟩⟩
  ·rw [if_neg c4] at H
   have c4b0:decide (0 < a1)=false:=decide_eq_false c4
   clear c4
   (first|rw [c4b0]|(simp only [i64_w,i32_w];rw [c4b0])|skip)
   have H':=Aside0.mk H
   clear H
   go_wp2
   go_meet
   case rel => exact ⟨_,(false),(by first|rfl|(simp;done)|(simp [*];done)),H',⟨by first|omega|exact Nat.le_refl _⟩,⟨by (with_reducible repeat (first|apply Kd.R_alloc|apply Kd.R_drewN|apply Kd.R_drew));exact HO0.out⟩,⟨by repeat (first|(with_reducible first|exact HK.out|apply Kept.alloc|apply Kept.drewN|apply Kept.drew)|exact HK.out)⟩,⟨by repeat (first|(with_reducible first|exact HB.out|apply below_alloc|apply pw_below_drewN|apply below_drew1)|exact HB.out)⟩⟩
 case rest =>
  clear HC3
  try clear p2;try clear c4;try clear c4b0
  obtain ⟨kq,x5_2,rfl,HA,HJ2,HO_0,HK,HB⟩:=hcut
  cases kq with
  | zero => exact absurd HA.out (by simp [text_unit.j0])
  | succ kj2 =>
   have H:=HA.out
   clear HA
   simp only [text_unit.j0] at H
   by_cases c5:x5_2=true
   ·subst c5
    have H1:(if l0.length < 140737488355328 then (some (l0++[(a1) % 256])) else (none))=some r:=by rw [if_pos rfl] at H;exact H
    clear H
    have H:=H1
    clear H1
    by_cases c6:l0.length < 140737488355328
    ·rw [if_pos c6] at H
     have LMc6:=Aside0.mk c6
     clear c6
     obtain ⟨y109,hy109⟩:∃ y_:List Int,y_=(l0++[(a1) % 256]):=⟨_,rfl⟩
     replace H:(some y109)=some r:=by first|(rw [hy109];with_reducible exact H)|(have H2_:=(Option.bind_some _ _).symm.trans H;rw [hy109];with_reducible exact H2_)|(have H2_:=(Option.bind_some _ _).symm.trans H;with_reducible exact H2_)|with_reducible exact H|(rw [hy109];exact H)|exact H
     have Ny109:=Aside0.mk hy109
     clear hy109
     obtain rfl:=Option.some.inj H
     go_wp2_with (first|((with_reducible refine gate_builtin (b:=.append) (xs:=#[.tmp 12,.tmp 15]) rfl ?_);at_builtin;refine Kd.R_append (Kd.int .u8) (w0:=w0) w0.heap.size rfl (.tmp 12) (.tmp 15) 34 5 (.int .u8 0) 1 rfl Tryd.underlying34 info5 rfl (by decide) (by omega) u9000_ l0 ((a1) % 256) [.int .u8 ((a1) % 256)] (fun k_ => (P0_ k_ ∨ w.heap.size≤k_)) (fun _ => False) rfl rfl ?aP (fun _ hk => hk.elim) ?aF ?aO ?aB ?aS ?aL ?_;(case aP => exact rfl);(case aB => exact (by repeat (first|(with_reducible first|exact HB.out|apply below_alloc|apply pw_below_drewN|apply below_drew1)|exact HB.out)));(case aF => exact (fun k_ hk => (.inr (Nat.le_trans (by first|exact HK.out.1|exact (show Kept w _ (fun k_ => P0_ k_) from by repeat (first|(with_reducible first|exact HK.out|apply Kept.alloc|apply Kept.drewN|apply Kept.drew)|exact HK.out)).1) hk))));(case aO => exact (by (with_reducible repeat (first|apply Kd.R_alloc|apply Kd.R_drewN|apply Kd.R_drew));exact HO_0.out));(case aS => exact (below_size (by repeat (first|(with_reducible first|exact HB.out|apply below_alloc|apply pw_below_drewN|apply below_drew1)|exact HB.out))));(case aL => have:=LMc6.out;omega);intro v110 w7 ho hb hg hat;rw [← Ny109.out] at ho;have n0_:=Aside0.mk (hb);have n1_:=Aside0.mk (Kept.of_grown (S:=(fun k_ => P0_ k_)) hg (by repeat (first|(with_reducible first|exact HK.out|apply Kept.alloc|apply Kept.drewN|apply Kept.drew)|exact HK.out)) (fun k_ e_ => (HO_0.out.1 k_ e_)));have n2_:=Aside0.mk (ho);clear HB;clear HK;clear HO_0;have HB:=n0_;have HK:=n1_;have HO111:=n2_;clear n0_ n1_ n2_;clear ho hb hg hat))
     go_ret
     exact ⟨_,by first|rfl|(simp [errW_none,errW_some] <;> rfl)|(simp [*,errW_none,errW_some] <;> rfl),by (with_reducible repeat (first|apply Kd.R_alloc|apply Kd.R_drewN|apply Kd.R_drew));exact HO111.out,by repeat (first|(with_reducible first|exact HB.out|apply below_alloc|apply pw_below_drewN|apply below_drew1)|exact HB.out),by repeat (first|(with_reducible first|exact HK.out|apply Kept.alloc|apply Kept.drewN|apply Kept.drew)|exact HK.out)⟩
    ·rw [if_neg c6] at H
     exact absurd H (by simp)
   ·replace c5:=Bool.eq_false_iff.mpr c5
    subst c5
    have H1:(if a1 < 2048 then ((some (([Go.bits .or .u8 192 ((a1 / 64) % 256),Go.bits .or .u8 128 ((Go.bits .and .i32 a1 63) % 256)]:List Int):List Int)).bind fun y112 => (if l0.length + y112.length < 140737488355328 then (some (l0++y112)) else (none))) else ((some (([Go.bits .or .u8 224 ((a1 / 4096) % 256),Go.bits .or .u8 128 ((Go.bits .and .i32 (a1 / 64) 63) % 256),Go.bits .or .u8 128 ((Go.bits .and .i32 a1 63) % 256)]:List Int):List Int)).bind fun y118 => (if l0.length + y118.length < 140737488355328 then (some (l0++y118)) else (none))))=some r:=by rw [if_neg (show ¬ (false=true) by decide)] at H;exact H
    clear H
    have H:=H1
    clear H1
    by_cases c8:a1 < 2048
    ·rw [if_pos c8] at H
     have c8b0:decide (a1 < 2048)=true:=decide_eq_true c8
     clear c8
     obtain ⟨y112,hy112⟩:∃ y_:List Int,y_=(([Go.bits .or .u8 192 ((a1 / 64) % 256),Go.bits .or .u8 128 ((Go.bits .and .i32 a1 63) % 256)]:List Int)):=⟨_,rfl⟩
     replace H:(if l0.length + y112.length < 140737488355328 then (some (l0++y112)) else (none))=some r:=by first|(rw [hy112];with_reducible exact H)|(have H2_:=(Option.bind_some _ _).symm.trans H;rw [hy112];with_reducible exact H2_)|(have H2_:=(Option.bind_some _ _).symm.trans H;with_reducible exact H2_)|with_reducible exact H|(rw [hy112];exact H)|exact H
     have Ny112:=Aside0.mk hy112
     clear hy112
     by_cases c9:l0.length + y112.length < 140737488355328
     ·rw [if_pos c9] at H
      have LMc9:=Aside0.mk c9
      clear c9
      obtain ⟨y115,hy115⟩:∃ y_:List Int,y_=(l0++y112):=⟨_,rfl⟩
      replace H:(some y115)=some r:=by first|(rw [hy115];with_reducible exact H)|(have H2_:=(Option.bind_some _ _).symm.trans H;rw [hy115];with_reducible exact H2_)|(have H2_:=(Option.bind_some _ _).symm.trans H;with_reducible exact H2_)|with_reducible exact H|(rw [hy115];exact H)|exact H
      have Ny115:=Aside0.mk hy115
      clear hy115
      obtain rfl:=Option.some.inj H
      go_wp2_with (first|((with_reducible refine gate_dst (N:=29) rfl ?_);refine Kd.R_lit (Kd.int .u8) _ 5 ?hg (N:=29) ?hd (xs:=([Go.bits .or .u8 192 ((a1 / 64) % 256),Go.bits .or .u8 128 ((Go.bits .and .i32 a1 63) % 256)]:List Int)) (inner:=[.int .u8 (Go.bits .or .u8 192 ((a1 / 64) % 256)),.int .u8 (Go.bits .or .u8 128 ((Go.bits .and .i32 a1 63) % 256))]) (ok:=fun _ => True) (okp:=fun _ => True) ?hr ?hp (fun _ hk => hk) trivial (Below.refl _ _) (Nat.le_refl _) (by simp) ?_;(case hd => rfl);(case hg => rfl);(case hr => first|(go_simp;done)|(go_simp;rfl));(case hp => exact (Reps.one (show Kd.M (Kd.int .u8) _ _ _ (Go.bits .or .u8 192 ((a1 / 64) % 256)) [.int .u8 (Go.bits .or .u8 192 ((a1 / 64) % 256))] from rfl) (Reps.one (show Kd.M (Kd.int .u8) _ _ _ (Go.bits .or .u8 128 ((Go.bits .and .i32 a1 63) % 256)) [.int .u8 (Go.bits .or .u8 128 ((Go.bits .and .i32 a1 63) % 256))] from rfl) (Reps.none _ _))));intro v113 w10 ho11 hb hg_ hnew_;clear hg_ hnew_;(first|rw [← Ny112.out] at ho11|(simp only [Int.reduceToNat] at ho11;rw [← Ny112.out] at ho11));have n0_:=Aside0.mk (Kd.R_elder' (by (with_reducible repeat (first|apply Kd.R_alloc|apply Kd.R_drewN|apply Kd.R_drew));exact HO_0.out) (Kd.R_base ho11) hb);have n1_:=Aside0.mk (Kd.R_lower (Kd.R_new' (Kd.R_newM (M:=fun k_ => (P0_ k_ ∨ w.heap.size≤k_)) ho11 (by first|exact HK.out.1|exact (show Kept w _ (fun k_ => P0_ k_) from by repeat (first|(with_reducible first|exact HK.out|apply Kept.alloc|apply Kept.drewN|apply Kept.drew)|exact HK.out)).1) (fun k_ h_ => .inr h_)) (Kd.R_lt (by (with_reducible repeat (first|apply Kd.R_alloc|apply Kd.R_drewN|apply Kd.R_drew));exact HO_0.out))) (below_size (by repeat (first|(with_reducible first|exact HB.out|apply below_alloc|apply pw_below_drewN|apply below_drew1)|exact HB.out))));have n2_:=Aside0.mk (Kept.below (S:=(fun k_ => P0_ k_)) (by repeat (first|(with_reducible first|exact HK.out|apply Kept.alloc|apply Kept.drewN|apply Kept.drew)|exact HK.out)) hb);have n3_:=Aside0.mk (below_step (by repeat (first|(with_reducible first|exact HB.out|apply below_alloc|apply pw_below_drewN|apply below_drew1)|exact HB.out)) hb);clear HO_0;clear HK;clear HB;have HO_0:=n0_;have HO114:=n1_;have HK:=n2_;have HB:=n3_;clear n0_ n1_ n2_ n3_;clear hb ho11;obtain ⟨Ao13,co13,eo13⟩:=Kd.R_slice HO114.out;subst eo13)|((with_reducible refine gate_builtin (b:=.append) (xs:=#[.tmp 20,.tmp 29]) rfl ?_);at_builtin;refine Kd.R_append_rows (Kd.int .u8) (w0:=w0) w0.heap.size rfl (.tmp 20) (.tmp 29) 34 5 (.int .u8 0) 1 rfl Tryd.underlying34 info5 rfl (by decide) (by omega) u9000_ l0 y112 _ _ _ (fun k_ => (P0_ k_ ∨ w.heap.size≤k_)∧some k_ ≠ (.slice Ao13 y112.length co13:Value).ownBlock) (fun _ => False) rfl rfl ?aO ?aR (fun _ _ h => h) (fun _ h => h.elim) ?aF ?aB ?aS ?aL ?_;(case aR => repeat (first|exact (Kd.R_reads' HO114.out).2.2|(with_reducible refine Kd.C_alloc ?_ _)|(with_reducible refine Kd.C_drewN ?_ _)|(with_reducible refine Kd.C_drew ?_)));(case aB => exact (by repeat (first|(with_reducible first|exact HB.out|apply below_alloc|apply pw_below_drewN|apply below_drew1)|exact HB.out)));(case aF => exact (fun k_ hk => ⟨(.inr (Nat.le_trans (by first|exact HK.out.1|exact (show Kept w _ (fun k_ => P0_ k_) from by repeat (first|(with_reducible first|exact HK.out|apply Kept.alloc|apply Kept.drewN|apply Kept.drew)|exact HK.out)).1) hk)),Kd.fresh' (Kd.R_lt (by (with_reducible repeat (first|apply Kd.R_alloc|apply Kd.R_drewN|apply Kd.R_drew));exact HO114.out)) k_ hk⟩));(case aO => exact (by (with_reducible repeat (first|apply Kd.R_alloc|apply Kd.R_drewN|apply Kd.R_drew));exact HO_0.out));(case aS => exact (below_size (by repeat (first|(with_reducible first|exact HB.out|apply below_alloc|apply pw_below_drewN|apply below_drew1)|exact HB.out))));(case aL => have:=LMc9.out;omega);intro v116 w12 ho hb hg hat;rw [← Ny115.out] at ho;have n0_:=Aside0.mk (Kd.R_after (ok:=(fun k_ => (P0_ k_ ∨ w.heap.size≤k_))) (by (with_reducible repeat (first|apply Kd.R_alloc|apply Kd.R_drewN|apply Kd.R_drew));exact Kd.R_mono HO114.out (fun _ hk => ⟨hk.1.1,hk.2⟩)) hg hat);have n1_:=Aside0.mk (hb);have n2_:=Aside0.mk (Kept.of_grown (S:=(fun k_ => P0_ k_)) hg (by repeat (first|(with_reducible first|exact HK.out|apply Kept.alloc|apply Kept.drewN|apply Kept.drew)|exact HK.out)) (fun k_ e_ => (HO_0.out.1 k_ e_).1));have n3_:=Aside0.mk (ho);clear HO114;clear HB;clear HK;clear HO_0;have HO114:=n0_;have HB:=n1_;have HK:=n2_;have HO117:=n3_;clear n0_ n1_ n2_ n3_;clear ho hb hg hat))
      go_ret
      exact ⟨_,by first|rfl|(simp [errW_none,errW_some] <;> rfl)|(simp [*,errW_none,errW_some] <;> rfl),by (with_reducible repeat (first|apply Kd.R_alloc|apply Kd.R_drewN|apply Kd.R_drew));exact Kd.R_mono HO117.out (fun _ hk => hk.1),by repeat (first|(with_reducible first|exact HB.out|apply below_alloc|apply pw_below_drewN|apply below_drew1)|exact HB.out),by repeat (first|(with_reducible first|exact HK.out|apply Kept.alloc|apply Kept.drewN|apply Kept.drew)|exact HK.out)⟩
     ·rw [if_neg c9] at H
      exact absurd H (by simp)
    ·rw [if_neg c8] at H
     have c8b0:decide (a1 < 2048)=false:=decide_eq_false c8
     clear c8
     obtain ⟨y118,hy118⟩:∃ y_:List Int,y_=(([Go.bits .or .u8 224 ((a1 / 4096) % 256),Go.bits .or .u8 128 ((Go.bits .and .i32 (a1 / 64) 63) % 256),Go.bits .or .u8 128 ((Go.bits .and .i32 a1 63) % 256)]:List Int)):=⟨_,rfl⟩
     replace H:(if l0.length + y118.length < 140737488355328 then (some (l0++y118)) else (none))=some r:=by first|(rw [hy118];with_reducible exact H)|(have H2_:=(Option.bind_some _ _).symm.trans H;rw [hy118];with_reducible exact H2_)|(have H2_:=(Option.bind_some _ _).symm.trans H;with_reducible exact H2_)|with_reducible exact H|(rw [hy118];exact H)|exact H
     have Ny118:=Aside0.mk hy118
     clear hy118
     by_cases c14:l0.length + y118.length < 140737488355328
     ·rw [if_pos c14] at H
      have LMc14:=Aside0.mk c14
      clear c14
      obtain ⟨y121,hy121⟩:∃ y_:List Int,y_=(l0++y118):=⟨_,rfl⟩
      replace H:(some y121)=some r:=by first|(rw [hy121];with_reducible exact H)|(have H2_:=(Option.bind_some _ _).symm.trans H;rw [hy121];with_reducible exact H2_)|(have H2_:=(Option.bind_some _ _).symm.trans H;with_reducible exact H2_)|with_reducible exact H|(rw [hy121];exact H)|exact H
      have Ny121:=Aside0.mk hy121
      clear hy121
      obtain rfl:=Option.some.inj H
      go_wp2_with (first|((with_reducible refine gate_dst (N:=45) rfl ?_);refine Kd.R_lit (Kd.int .u8) _ 5 ?hg (N:=45) ?hd (xs:=([Go.bits .or .u8 224 ((a1 / 4096) % 256),Go.bits .or .u8 128 ((Go.bits .and .i32 (a1 / 64) 63) % 256),Go.bits .or .u8 128 ((Go.bits .and .i32 a1 63) % 256)]:List Int)) (inner:=[.int .u8 (Go.bits .or .u8 224 ((a1 / 4096) % 256)),.int .u8 (Go.bits .or .u8 128 ((Go.bits .and .i32 (a1 / 64) 63) % 256)),.int .u8 (Go.bits .or .u8 128 ((Go.bits .and .i32 a1 63) % 256))]) (ok:=fun _ => True) (okp:=fun _ => True) ?hr ?hp (fun _ hk => hk) trivial (Below.refl _ _) (Nat.le_refl _) (by simp) ?_;(case hd => rfl);(case hg => rfl);(case hr => first|(go_simp;done)|(go_simp;rfl));(case hp => exact (Reps.one (show Kd.M (Kd.int .u8) _ _ _ (Go.bits .or .u8 224 ((a1 / 4096) % 256)) [.int .u8 (Go.bits .or .u8 224 ((a1 / 4096) % 256))] from rfl) (Reps.one (show Kd.M (Kd.int .u8) _ _ _ (Go.bits .or .u8 128 ((Go.bits .and .i32 (a1 / 64) 63) % 256)) [.int .u8 (Go.bits .or .u8 128 ((Go.bits .and .i32 (a1 / 64) 63) % 256))] from rfl) (Reps.one (show Kd.M (Kd.int .u8) _ _ _ (Go.bits .or .u8 128 ((Go.bits .and .i32 a1 63) % 256)) [.int .u8 (Go.bits .or .u8 128 ((Go.bits .and .i32 a1 63) % 256))] from rfl) (Reps.none _ _)))));intro v119 w15 ho16 hb hg_ hnew_;clear hg_ hnew_;(first|rw [← Ny118.out] at ho16|(simp only [Int.reduceToNat] at ho16;rw [← Ny118.out] at ho16));have n0_:=Aside0.mk (Kd.R_elder' (by (with_reducible repeat (first|apply Kd.R_alloc|apply Kd.R_drewN|apply Kd.R_drew));exact HO_0.out) (Kd.R_base ho16) hb);have n1_:=Aside0.mk (Kd.R_lower (Kd.R_new' (Kd.R_newM (M:=fun k_ => (P0_ k_ ∨ w.heap.size≤k_)) ho16 (by first|exact HK.out.1|exact (show Kept w _ (fun k_ => P0_ k_) from by repeat (first|(with_reducible first|exact HK.out|apply Kept.alloc|apply Kept.drewN|apply Kept.drew)|exact HK.out)).1) (fun k_ h_ => .inr h_)) (Kd.R_lt (by (with_reducible repeat (first|apply Kd.R_alloc|apply Kd.R_drewN|apply Kd.R_drew));exact HO_0.out))) (below_size (by repeat (first|(with_reducible first|exact HB.out|apply below_alloc|apply pw_below_drewN|apply below_drew1)|exact HB.out))));have n2_:=Aside0.mk (Kept.below (S:=(fun k_ => P0_ k_)) (by repeat (first|(with_reducible first|exact HK.out|apply Kept.alloc|apply Kept.drewN|apply Kept.drew)|exact HK.out)) hb);have n3_:=Aside0.mk (below_step (by repeat (first|(with_reducible first|exact HB.out|apply below_alloc|apply pw_below_drewN|apply below_drew1)|exact HB.out)) hb);clear HO_0;clear HK;clear HB;have HO_0:=n0_;have HO120:=n1_;have HK:=n2_;have HB:=n3_;clear n0_ n1_ n2_ n3_;clear hb ho16;obtain ⟨Ao18,co18,eo18⟩:=Kd.R_slice HO120.out;subst eo18)|((with_reducible refine gate_builtin (b:=.append) (xs:=#[.tmp 31,.tmp 45]) rfl ?_);at_builtin;refine Kd.R_append_rows (Kd.int .u8) (w0:=w0) w0.heap.size rfl (.tmp 31) (.tmp 45) 34 5 (.int .u8 0) 1 rfl Tryd.underlying34 info5 rfl (by decide) (by omega) u9000_ l0 y118 _ _ _ (fun k_ => (P0_ k_ ∨ w.heap.size≤k_)∧some k_ ≠ (.slice Ao18 y118.length co18:Value).ownBlock) (fun _ => False) rfl rfl ?aO ?aR (fun _ _ h => h) (fun _ h => h.elim) ?aF ?aB ?aS ?aL ?_;(case aR => repeat (first|exact (Kd.R_reads' HO120.out).2.2|(with_reducible refine Kd.C_alloc ?_ _)|(with_reducible refine Kd.C_drewN ?_ _)|(with_reducible refine Kd.C_drew ?_)));(case aB => exact (by repeat (first|(with_reducible first|exact HB.out|apply below_alloc|apply pw_below_drewN|apply below_drew1)|exact HB.out)));(case aF => exact (fun k_ hk => ⟨(.inr (Nat.le_trans (by first|exact HK.out.1|exact (show Kept w _ (fun k_ => P0_ k_) from by repeat (first|(with_reducible first|exact HK.out|apply Kept.alloc|apply Kept.drewN|apply Kept.drew)|exact HK.out)).1) hk)),Kd.fresh' (Kd.R_lt (by (with_reducible repeat (first|apply Kd.R_alloc|apply Kd.R_drewN|apply Kd.R_drew));exact HO120.out)) k_ hk⟩));(case aO => exact (by (with_reducible repeat (first|apply Kd.R_alloc|apply Kd.R_drewN|apply Kd.R_drew));exact HO_0.out));(case aS => exact (below_size (by repeat (first|(with_reducible first|exact HB.out|apply below_alloc|apply pw_below_drewN|apply below_drew1)|exact HB.out))));(case aL => have:=LMc14.out;omega);intro v122 w17 ho hb hg hat;rw [← Ny121.out] at ho;have n0_:=Aside0.mk (Kd.R_after (ok:=(fun k_ => (P0_ k_ ∨ w.heap.size≤k_))) (by (with_reducible repeat (first|apply Kd.R_alloc|apply Kd.R_drewN|apply Kd.R_drew));exact Kd.R_mono HO120.out (fun _ hk => ⟨hk.1.1,hk.2⟩)) hg hat);have n1_:=Aside0.mk (hb);have n2_:=Aside0.mk (Kept.of_grown (S:=(fun k_ => P0_ k_)) hg (by repeat (first|(with_reducible first|exact HK.out|apply Kept.alloc|apply Kept.drewN|apply Kept.drew)|exact HK.out)) (fun k_ e_ => (HO_0.out.1 k_ e_).1));have n3_:=Aside0.mk (ho);clear HO120;clear HB;clear HK;clear HO_0;have HO120:=n0_;have HB:=n1_;have HK:=n2_;have HO123:=n3_;clear n0_ n1_ n2_ n3_;clear ho hb hg hat))
      go_ret
      exact ⟨_,by first|rfl|(simp [errW_none,errW_some] <;> rfl)|(simp [*,errW_none,errW_some] <;> rfl),by (with_reducible repeat (first|apply Kd.R_alloc|apply Kd.R_drewN|apply Kd.R_drew));exact Kd.R_mono HO123.out (fun _ hk => hk.1),by repeat (first|(with_reducible first|exact HB.out|apply below_alloc|apply pw_below_drewN|apply below_drew1)|exact HB.out),by repeat (first|(with_reducible first|exact HK.out|apply Kept.alloc|apply Kept.drewN|apply Kept.drew)|exact HK.out)⟩
     ·rw [if_neg c14] at H
      exact absurd H (by simp)
end Go.Proofs.YtglnhkgodgjepaaDoor.Px
namespace Go.Proofs.YtglnhkgodgjepaaDoor.Px
open Go.RowKit Go.Proofs.YtglnhkgodgjepaaDoorW.PrintWords Go.Proofs.YtglnhkgodgjepaaDoorW.PrintLast Go.Proofs.YtglnhkgodgjepaaDoorW.PrintMore
attribute [local go_sem] max2_int min2_int max_two min_two max_three min_three max_four min_four
set_option linter.unusedVariables false
set_option linter.unusedSimpArgs false
theorem eqA33 (d:Nat) (w:World) (x0 y0:Int) (x1 y1:ByteArray) (x2 y2:Int) (x3 y3:Int) (x4 y4:Int) :
  (Op.equalIn (d + 2) 33 (.agg #[.int .i64 x0,.string x1,.int .i64 x2,.int .i64 x3,.int .i64 x4]) (.agg #[.int .i64 y0,.string y1,.int .i64 y2,.int .i64 y3,.int .i64 y4])).run Tryd.prog w=.ok (x0==y0 && (x1.toList==y1.toList && (x2==y2 && (x3==y3 && (x4==y4))))) w:=by
 refine eqA_of Tryd.underlying33 (by kernel_rfl) ?_
 refine eqf_cons (by rfl) (by go_simp;rfl) (by go_simp;rfl) (by go_simp) ?_
 refine eqf_cons (by rfl) (by go_simp;rfl) (by go_simp;rfl) (by go_simp) ?_
 refine eqf_cons (by rfl) (by go_simp;rfl) (by go_simp;rfl) (by go_simp) ?_
 refine eqf_cons (by rfl) (by go_simp;rfl) (by go_simp;rfl) (by go_simp) ?_
 exact eqf_last (by rfl) (by go_simp;rfl) (by go_simp;rfl) (by go_simp)
end Go.Proofs.YtglnhkgodgjepaaDoor.Px
namespace Go.Proofs.YtglnhkgodgjepaaDoor.Px
open Go.RowKit Go.Proofs.YtglnhkgodgjepaaDoorW.PrintWords Go.Proofs.YtglnhkgodgjepaaDoorW.PrintLast Go.Proofs.YtglnhkgodgjepaaDoorW.PrintMore
attribute [local go_sem] max2_int min2_int max_two min_two max_three min_three max_four min_four
set_option linter.unusedVariables false
set_option linter.unusedSimpArgs false
mutual
def understudyref02_point.j2:Nat→ByteArray→Int→Int→Int→Option (Int × Int)
 | 0,_,_,_,_ => none
 | k + 1,x0,x4,x5,x6 => if (x0.size:Int) < x5 then (some (0,0)) else (understudyref02_point.l0 k x0 x4 x5 x6 1)
def understudyref02_point.l0:Nat→ByteArray→Int→Int→Int→Int→Option (Int × Int)
 | 0,_,_,_,_,_ => none
 | k + 1,x0,x4,x5,x6,x7 => if x7 < x5 then (if 0≤x7 then (if x7 < (x0.size:Int) then (if (bt x0 x7) < 128 then (some (0,0)) else (if (bt x0 x7) > 191 then (some (0,0)) else (understudyref02_point.l0 k x0 (Go.bits .or .i64 (wrap64 (x4 * 64)) (wrap64 (Go.bits .and .u8 (bt x0 x7) 63))) x5 x6 (wrap64 (x7 + 1))))) else (none)) else (none)) else (if x4 < x6 then (some (0,0)) else (if x4 > 1114111 then (some (0,0)) else (if x4 ≥ 55296 then (if x4≤57343 then (some (0,0)) else (some (x4,x5))) else (some (x4,x5)))))
def understudyref02_point.j0:Nat→ByteArray→Int→Bool→Option (Int × Int)
 | 0,_,_,_ => none
 | k + 1,x0,x4,x15 => if x15=true then (understudyref02_point.j2 k x0 (Go.bits .and .i64 x4 31) 2 128) else (if x4 ≥ 224 then (understudyref02_point.j1 k x0 x4 (decide (x4≤239))) else (understudyref02_point.j1 k x0 x4 false))
def understudyref02_point.j1:Nat→ByteArray→Int→Bool→Option (Int × Int)
 | 0,_,_,_ => none
 | k + 1,x0,x4,x24 => if x24=true then (understudyref02_point.j2 k x0 (Go.bits .and .i64 x4 15) 3 2048) else (if x4 ≥ 240 then (if x4≤244 then (understudyref02_point.j2 k x0 (Go.bits .and .i64 x4 7) 4 65536) else (some (0,0))) else (some (0,0)))
end
def understudyref02_point.f (k:Nat) (a0:ByteArray):Option (Int × Int):=if 0 < (a0.size:Int) then (if (wrap64 (bt a0 0)) < 128 then (some (wrap64 (bt a0 0),1)) else (if (wrap64 (bt a0 0)) ≥ 194 then (understudyref02_point.j0 k a0 (wrap64 (bt a0 0)) (decide ((wrap64 (bt a0 0))≤223))) else (understudyref02_point.j0 k a0 (wrap64 (bt a0 0)) false))) else (none)
theorem understudyref02_point.mono_l:∀ k,(∀ y0 y1 y2 y3,LeO (understudyref02_point.j2 k y0 y1 y2 y3) (understudyref02_point.j2 (k + 1) y0 y1 y2 y3))∧(∀ y0 y1 y2 y3 y4,LeO (understudyref02_point.l0 k y0 y1 y2 y3 y4) (understudyref02_point.l0 (k + 1) y0 y1 y2 y3 y4))∧(∀ y0 y1 y2,LeO (understudyref02_point.j0 k y0 y1 y2) (understudyref02_point.j0 (k + 1) y0 y1 y2))∧(∀ y0 y1 y2,LeO (understudyref02_point.j1 k y0 y1 y2) (understudyref02_point.j1 (k + 1) y0 y1 y2))
 | 0 => ⟨fun _ _ _ _ r h => by simp [understudyref02_point.j2] at h,fun _ _ _ _ _ r h => by simp [understudyref02_point.l0] at h,fun _ _ _ r h => by simp [understudyref02_point.j0] at h,fun _ _ _ r h => by simp [understudyref02_point.j1] at h⟩
 | k + 1 => by
  obtain ⟨ih0,ih1,ih2,ih3⟩:=understudyref02_point.mono_l k
  refine ⟨?_,?_,?_,?_⟩
  ·intro y0 y1 y2 y3
   unfold understudyref02_point.j2
   repeat' first
   | (with_reducible exact ih0 _ _ _ _)
   | (with_reducible exact ih1 _ _ _ _ _)
   | (with_reducible exact ih2 _ _ _)
   | (with_reducible exact ih3 _ _ _)
   | (with_reducible exact LeO.refl _)
   | (with_reducible exact LeO.none _)
   | (with_reducible refine LeO.ite ?_ ?_)
   | (with_reducible refine LeO.bind ?_ (fun _ => ?_))
   | exact ih0 _ _ _ _
   | exact ih1 _ _ _ _ _
   | exact ih2 _ _ _
   | exact ih3 _ _ _
   | exact LeO.none _
   | refine LeO.ite ?_ ?_
   | refine LeO.bind ?_ (fun _ => ?_)
  ·intro y0 y1 y2 y3 y4
   unfold understudyref02_point.l0
   repeat' first
   | (with_reducible exact ih0 _ _ _ _)
   | (with_reducible exact ih1 _ _ _ _ _)
   | (with_reducible exact ih2 _ _ _)
   | (with_reducible exact ih3 _ _ _)
   | (with_reducible exact LeO.refl _)
   | (with_reducible exact LeO.none _)
   | (with_reducible refine LeO.ite ?_ ?_)
   | (with_reducible refine LeO.bind ?_ (fun _ => ?_))
   | exact ih0 _ _ _ _
   | exact ih1 _ _ _ _ _
   | exact ih2 _ _ _
   | exact ih3 _ _ _
   | exact LeO.none _
   | refine LeO.ite ?_ ?_
   | refine LeO.bind ?_ (fun _ => ?_)
  ·intro y0 y1 y2
   unfold understudyref02_point.j0
   repeat' first
   | (with_reducible exact ih0 _ _ _ _)
   | (with_reducible exact ih1 _ _ _ _ _)
   | (with_reducible exact ih2 _ _ _)
   | (with_reducible exact ih3 _ _ _)
   | (with_reducible exact LeO.refl _)
   | (with_reducible exact LeO.none _)
   | (with_reducible refine LeO.ite ?_ ?_)
   | (with_reducible refine LeO.bind ?_ (fun _ => ?_))
   | exact ih0 _ _ _ _
   | exact ih1 _ _ _ _ _
   | exact ih2 _ _ _
   | exact ih3 _ _ _
   | exact LeO.none _
   | refine LeO.ite ?_ ?_
   | refine LeO.bind ?_ (fun _ => ?_)
  ·intro y0 y1 y2
   unfold understudyref02_point.j1
   repeat' first
   | (with_reducible exact ih0 _ _ _ _)
   | (with_reducible exact ih1 _ _ _ _ _)
   | (with_reducible exact ih2 _ _ _)
   | (with_reducible exact ih3 _ _ _)
   | (with_reducible exact LeO.refl _)
   | (with_reducible exact LeO.none _)
   | (with_reducible refine LeO.ite ?_ ?_)
   | (with_reducible refine LeO.bind ?_ (fun _ => ?_))
   | exact ih0 _ _ _ _
   | exact ih1 _ _ _ _ _
   | exact ih2 _ _ _
   | exact ih3 _ _ _
   | exact LeO.none _
   | refine LeO.ite ?_ ?_
   | refine LeO.bind ?_ (fun _ => ?_)
theorem understudyref02_point.mono:∀ a0 k,LeO (understudyref02_point.f k a0) (understudyref02_point.f (k + 1) a0):=by
 intro a0 k
 obtain ⟨ih0,ih1,ih2,ih3⟩:=understudyref02_point.mono_l k
 unfold understudyref02_point.f
 repeat' first
   | (with_reducible exact ih0 _ _ _ _)
   | (with_reducible exact ih1 _ _ _ _ _)
   | (with_reducible exact ih2 _ _ _)
   | (with_reducible exact ih3 _ _ _)
   | (with_reducible exact LeO.refl _)
   | (with_reducible exact LeO.none _)
   | (with_reducible refine LeO.ite ?_ ?_)
   | (with_reducible refine LeO.bind ?_ (fun _ => ?_))
   | exact ih0 _ _ _ _
   | exact ih1 _ _ _ _ _
   | exact ih2 _ _ _
   | exact ih3 _ _ _
   | exact LeO.none _
   | refine LeO.ite ?_ ?_
   | refine LeO.bind ?_ (fun _ => ?_)
set_option maxHeartbeats 80000000 in
set_option maxRecDepth 100000 in
theorem understudyref02_point.calls (k:Nat) (a0:ByteArray) (r1:Int) (r2:Int) (w:World) (h:understudyref02_point.f k a0=some (r1,r2)) :
  Calls Tryd.prog 51 #[.string a0] w fun e w' => e=.returned (.tuple #[.int .i64 r1,.int .i64 r2])∧Drawn0 w w':=by
 have H:(if 0 < (a0.size:Int) then (if (wrap64 (bt a0 0)) < 128 then (some (wrap64 (bt a0 0),1)) else (if (wrap64 (bt a0 0)) ≥ 194 then (understudyref02_point.j0 k a0 (wrap64 (bt a0 0)) (decide ((wrap64 (bt a0 0))≤223))) else (understudyref02_point.j0 k a0 (wrap64 (bt a0 0)) false))) else (none))=some (r1,r2):=h
 clear h
 by_cases c2:0 < (a0.size:Int)
 ·rw [if_pos c2] at H
  have c2b0:decide (0 < (a0.size:Int))=true:=decide_eq_true c2
  have c2b1:decide (0 < a0.size)=true:=decide_eq_true (by omega)
  clear c2
  have HC4:=Aside0.mk H
  clear H
  have p3:0≤(0:Int):=(by omega)
  have q3:0 < a0.size:=(by have:(0:Int) < (a0.size:Int):=of_decide_eq_true (by first|(with_reducible assumption)|assumption);omega)
  have hx3:∀ h:0 < a0.size,((a0[0]'h).toNat:Int)=bt a0 0:=bt_at a0 0
  clear p3
  have qi3:(0 < (a0.size:Int))=True:=eq_true (of_decide_eq_true (by first|(with_reducible assumption)|assumption))
  replace q3:=eq_true q3
  go_enter Tryd.func51,Tryd.ntmps51
  go_upto_block 0 with (fail)
  go_cut [4,5,6] (fun v4 v5 v6 wc => ∃ (kq:Nat) (x4_3:Int) (x5_3:Int) (x6_3:Int),v4=.int .i64 x4_3∧v5=.int .i64 x5_3∧v6=.int .i64 x6_3∧Aside0 (understudyref02_point.j2 kq a0 x4_3 x5_3 x6_3=some (r1,r2))∧Aside0 (kq≤k)∧Drawn0 w wc)
  case first =>
   have H:=HC4.out
   clear HC4
   by_cases c5:(wrap64 (bt a0 0)) < 128
   ·rw [if_pos c5] at H
    have c5b0:decide ((wrap64 (bt a0 0)) < 128)=true:=decide_eq_true c5
    clear c5
    (first|rw [c5b0]|(simp only [i64_w,i32_w];rw [c5b0])|skip)
    simp only [Option.some.injEq,Prod.mk.injEq] at H
    obtain ⟨rfl,rfl⟩:=H
    go_wp2
    go_ret2
    exact ⟨by first|rfl|(simp;done)|(simp [*];done),by repeat (first|exact Drawn0.refl _|apply Drawn0.step)⟩
   ·rw [if_neg c5] at H
    have c5b0:decide ((wrap64 (bt a0 0)) < 128)=false:=decide_eq_false c5
    clear c5
    (first|rw [c5b0]|(simp only [i64_w,i32_w];rw [c5b0])|skip)
    have HC6:=Aside0.mk H
    clear H
    go_upto_region 7 with (fail)
    go_cut [15] (fun v15 wc => ∃ (kq:Nat) (x15_5:Bool),v15=.bool x15_5∧Aside0 (understudyref02_point.j0 kq a0 (wrap64 (bt a0 0)) x15_5=some (r1,r2))∧Aside0 (kq≤k)∧Drawn0 w wc)
    case first =>
     have H:=HC6.out
     clear HC6
     by_cases c7:(wrap64 (bt a0 0)) ≥ 194
     ·rw [if_pos c7] at H
      have c7b0:decide (194≤(wrap64 (bt a0 0)))=true:=decide_eq_true c7
      clear c7
      (first|rw [c7b0]|(simp only [i64_w,i32_w];rw [c7b0])|skip)
      have H':=Aside0.mk H
      clear H
      go_wp2
      go_meet
      case rel => exact ⟨_,(decide ((wrap64 (bt a0 0))≤223)),(by first|rfl|(simp;done)|(simp [*];done)),H',⟨by first|omega|exact Nat.le_refl _⟩,by repeat (first|exact Drawn0.refl _|apply Drawn0.step)⟩
     ·rw [if_neg c7] at H
      have c7b0:decide (194≤(wrap64 (bt a0 0)))=false:=decide_eq_false c7
      clear c7
      (first|rw [c7b0]|(simp only [i64_w,i32_w];rw [c7b0])|skip)
      have H':=Aside0.mk H
      clear H
      go_wp2
      go_meet
      case rel => exact ⟨_,(false),(by first|rfl|(simp;done)|(simp [*];done)),H',⟨by first|omega|exact Nat.le_refl _⟩,by repeat (first|exact Drawn0.refl _|apply Drawn0.step)⟩
    case rest =>
     clear HC6
     try clear c2;try clear c2b0;try clear c2b1;try clear p2;try clear p3;try clear q3;try clear hx3;try clear qi3;try clear c5;try clear c5b0;try clear p6;try clear c7;try clear c7b0;try clear p3;try clear q3
     obtain ⟨kq,x15_5,rfl,HA,HJ5,⟨mc5,rfl⟩⟩:=hcut
     cases kq with
     | zero => exact absurd HA.out (by simp [understudyref02_point.j0])
     | succ kj5 =>
      have H:=HA.out
      clear HA
      simp only [understudyref02_point.j0] at H
      by_cases c8:x15_5=true
      ·subst c8
       have H1:(understudyref02_point.j2 kj5 a0 (Go.bits .and .i64 (wrap64 (bt a0 0)) 31) 2 128)=some (r1,r2):=by rw [if_pos rfl] at H;exact H
       clear H
       have H:=H1
       clear H1
       have H':=Aside0.mk H
       clear H
       go_wp2
       go_meet
       case rel => exact ⟨_,(Go.bits .and .i64 (wrap64 (bt a0 0)) 31),(2),(128),(by first|rfl|(simp;done)|(simp [*];done)),(by first|rfl|(simp;done)|(simp [*];done)),(by first|rfl|(simp;done)|(simp [*];done)),H',⟨by have:=HJ5.out;first|omega|exact Nat.le_refl _⟩,by repeat (first|exact Drawn0.refl _|apply Drawn0.step)⟩
      ·replace c8:=Bool.eq_false_iff.mpr c8
       subst c8
       have H1:(if (wrap64 (bt a0 0)) ≥ 224 then (understudyref02_point.j1 kj5 a0 (wrap64 (bt a0 0)) (decide ((wrap64 (bt a0 0))≤239))) else (understudyref02_point.j1 kj5 a0 (wrap64 (bt a0 0)) false))=some (r1,r2):=by rw [if_neg (show ¬ (false=true) by decide)] at H;exact H
       clear H
       have H:=H1
       clear H1
       have HC9:=Aside0.mk H
       clear H
       go_upto_region 11 with (fail)
       go_cut [24] (fun v24 wc => ∃ (kq:Nat) (x24_8:Bool),v24=.bool x24_8∧Aside0 (understudyref02_point.j1 kq a0 (wrap64 (bt a0 0)) x24_8=some (r1,r2))∧Aside0 (kq≤kj5)∧Drawn0 w wc)
       case first =>
        have H:=HC9.out
        clear HC9
        by_cases c10:(wrap64 (bt a0 0)) ≥ 224
        ·rw [if_pos c10] at H
         have c10b0:decide (224≤(wrap64 (bt a0 0)))=true:=decide_eq_true c10
         clear c10
         (first|rw [c10b0]|(simp only [i64_w,i32_w];rw [c10b0])|skip)
         have H':=Aside0.mk H
         clear H
         go_wp2
         go_meet
         case rel => exact ⟨_,(decide ((wrap64 (bt a0 0))≤239)),(by first|rfl|(simp;done)|(simp [*];done)),H',⟨by have:=HJ5.out;first|omega|exact Nat.le_refl _⟩,by repeat (first|exact Drawn0.refl _|apply Drawn0.step)⟩
        ·rw [if_neg c10] at H
         have c10b0:decide (224≤(wrap64 (bt a0 0)))=false:=decide_eq_false c10
         clear c10
         (first|rw [c10b0]|(simp only [i64_w,i32_w];rw [c10b0])|skip)
         have H':=Aside0.mk H
         clear H
         go_wp2
         go_meet
         case rel => exact ⟨_,(false),(by first|rfl|(simp;done)|(simp [*];done)),H',⟨by have:=HJ5.out;first|omega|exact Nat.le_refl _⟩,by repeat (first|exact Drawn0.refl _|apply Drawn0.step)⟩
       case rest =>
        clear HC9
        try clear c1;try clear c2;try clear c2b0;try clear c2b1;try clear p2;try clear p3;try clear q3;try clear hx3;try clear qi3;try clear c5;try clear c5b0;try clear p6;try clear c7;try clear c7b0;try clear c8;try clear c10;try clear c10b0;try clear p2;try clear p3;try clear p6;try clear q3
        obtain ⟨kq,x24_8,rfl,HA,HJ8,⟨mc8,rfl⟩⟩:=hcut
        cases kq with
        | zero => exact absurd HA.out (by simp [understudyref02_point.j1])
        | succ kj8 =>
         have H:=HA.out
         clear HA
         simp only [understudyref02_point.j1] at H
         by_cases c11:x24_8=true
         ·subst c11
          have H1:(understudyref02_point.j2 kj8 a0 (Go.bits .and .i64 (wrap64 (bt a0 0)) 15) 3 2048)=some (r1,r2):=by rw [if_pos rfl] at H;exact H
          clear H
          have H:=H1
          clear H1
          have H':=Aside0.mk H
          clear H
          go_wp2
          go_meet
          case rel => exact ⟨_,(Go.bits .and .i64 (wrap64 (bt a0 0)) 15),(3),(2048),(by first|rfl|(simp;done)|(simp [*];done)),(by first|rfl|(simp;done)|(simp [*];done)),(by first|rfl|(simp;done)|(simp [*];done)),H',⟨by have:=HJ5.out;have:=HJ8.out;first|omega|exact Nat.le_refl _⟩,by repeat (first|exact Drawn0.refl _|apply Drawn0.step)⟩
         ·replace c11:=Bool.eq_false_iff.mpr c11
          subst c11
          have H1:(if (wrap64 (bt a0 0)) ≥ 240 then (if (wrap64 (bt a0 0))≤244 then (understudyref02_point.j2 kj8 a0 (Go.bits .and .i64 (wrap64 (bt a0 0)) 7) 4 65536) else (some (0,0))) else (some (0,0)))=some (r1,r2):=by rw [if_neg (show ¬ (false=true) by decide)] at H;exact H
          clear H
          have H:=H1
          clear H1
          by_cases c12:(wrap64 (bt a0 0)) ≥ 240
          ·rw [if_pos c12] at H
           have c12b0:decide (240≤(wrap64 (bt a0 0)))=true:=decide_eq_true c12
           clear c12
           by_cases c13:(wrap64 (bt a0 0))≤244
           ·rw [if_pos c13] at H
            have c13b0:decide ((wrap64 (bt a0 0))≤244)=true:=decide_eq_true c13
            clear c13
            have H':=Aside0.mk H
            clear H
            go_wp2
            go_meet
            case rel => exact ⟨_,(Go.bits .and .i64 (wrap64 (bt a0 0)) 7),(4),(65536),(by first|rfl|(simp;done)|(simp [*];done)),(by first|rfl|(simp;done)|(simp [*];done)),(by first|rfl|(simp;done)|(simp [*];done)),H',⟨by have:=HJ5.out;have:=HJ8.out;first|omega|exact Nat.le_refl _⟩,by repeat (first|exact Drawn0.refl _|apply Drawn0.step)⟩
           ·rw [if_neg c13] at H
            have c13b0:decide ((wrap64 (bt a0 0))≤244)=false:=decide_eq_false c13
            clear c13
            simp only [Option.some.injEq,Prod.mk.injEq] at H
            obtain ⟨rfl,rfl⟩:=H
            go_wp2
            go_ret2
            exact ⟨by first|rfl|(simp;done)|(simp [*];done),by repeat (first|exact Drawn0.refl _|apply Drawn0.step)⟩
          ·rw [if_neg c12] at H
           have c12b0:decide (240≤(wrap64 (bt a0 0)))=false:=decide_eq_false c12
           clear c12
           simp only [Option.some.injEq,Prod.mk.injEq] at H
           obtain ⟨rfl,rfl⟩:=H
           go_wp2
           go_ret2
           exact ⟨by first|rfl|(simp;done)|(simp [*];done),by repeat (first|exact Drawn0.refl _|apply Drawn0.step)⟩
  case rest =>
   clear HC4
   try clear c1;try clear c2;try clear c2b0;try clear c2b1;try clear p2;try clear p3;try clear q3;try clear hx3;try clear qi3;try clear c5;try clear c5b0;try clear p6;try clear c7;try clear c7b0;try clear c8;try clear c10;try clear c10b0;try clear c11;try clear c12;try clear c12b0;try clear c13;try clear c13b0;try clear p2;try clear p3;try clear p6;try clear q3
   obtain ⟨kq,x4_3,x5_3,x6_3,rfl,rfl,rfl,HA,HJ3,⟨mc3,rfl⟩⟩:=hcut
   cases kq with
   | zero => exact absurd HA.out (by simp [understudyref02_point.j2])
   | succ kj3 =>
    have H:=HA.out
    clear HA
    simp only [understudyref02_point.j2] at H
    by_cases c14:(a0.size:Int) < x5_3
    ·rw [if_pos c14] at H
     have c14b0:decide ((a0.size:Int) < x5_3)=true:=decide_eq_true c14
     clear c14
     simp only [Option.some.injEq,Prod.mk.injEq] at H
     obtain ⟨rfl,rfl⟩:=H
     go_wp2
     go_ret2
     exact ⟨by first|rfl|(simp;done)|(simp [*];done),by repeat (first|exact Drawn0.refl _|apply Drawn0.step)⟩
    ·rw [if_neg c14] at H
     have c14b0:decide ((a0.size:Int) < x5_3)=false:=decide_eq_false c14
     clear c14
     have H':=Aside0.mk H
     clear H
     go_wp2
     go_loopg [4,7] kj3 (fun kq v4 v7 w' => ∃ (x4_2:Int) (x7_2:Int),v4=.int .i64 x4_2∧v7=.int .i64 x7_2∧Aside0 (understudyref02_point.l0 kq a0 x4_2 x5_3 x6_3 x7_2=some (r1,r2))∧Aside0 (kq≤kj3)∧Drawn0 w w')
     case atStart => exact ⟨(x4_3),(1),(by first|rfl|(simp;done)|(simp [*];done)),(by first|rfl|(simp;done)|(simp [*];done)),H',⟨Nat.le_refl _⟩,by repeat (first|exact Drawn0.refl _|apply Drawn0.step)⟩
     case round =>
      clear H'
      try clear c1;try clear c2;try clear c2b0;try clear c2b1;try clear p2;try clear c3;try clear p3;try clear q3;try clear hx3;try clear qi3;try clear c5;try clear c5b0;try clear p6;try clear c7;try clear c7b0;try clear c8;try clear c10;try clear c10b0;try clear c11;try clear c12;try clear c12b0;try clear c13;try clear c13b0;try clear c14;try clear c14b0;try clear p2;try clear p3;try clear p6;try clear q3
      obtain ⟨x4_2,x7_2,rfl,rfl,HA,HK2,⟨m2,rfl⟩⟩:=hrel
      cases gk with
      | zero => exact absurd HA.out (by simp [understudyref02_point.l0])
      | succ k2 =>
       have H:=HA.out
       clear HA
       simp only [understudyref02_point.l0] at H
       by_cases c15:x7_2 < x5_3
       ·rw [if_pos c15] at H
        have c15b0:decide (x7_2 < x5_3)=true:=decide_eq_true c15
        clear c15
        by_cases c16:0≤x7_2
        ·rw [if_pos c16] at H
         have c16b0:decide (0≤x7_2)=true:=decide_eq_true c16
         clear c16
         by_cases c17:x7_2 < (a0.size:Int)
         ·rw [if_pos c17] at H
          have c17b0:decide (x7_2 < (a0.size:Int))=true:=decide_eq_true c17
          clear c17
          by_cases c19:(bt a0 x7_2) < 128
          ·rw [if_pos c19] at H
           have c19b0:decide ((bt a0 x7_2) < 128)=true:=decide_eq_true c19
           clear c19
           simp only [Option.some.injEq,Prod.mk.injEq] at H
           obtain ⟨rfl,rfl⟩:=H
           have p18:0≤(x7_2:Int):=of_decide_eq_true (by first|(with_reducible assumption)|assumption)
           have q18:x7_2 < (a0.size:Int):=of_decide_eq_true (by first|(with_reducible assumption)|assumption)
           have hx18:=bt_at a0 x7_2
           replace p18:=eq_true p18
           replace q18:=eq_true q18
           go_wp2
           go_ret2
           exact ⟨by first|rfl|(simp;done)|(simp [*];done),by repeat (first|exact Drawn0.refl _|apply Drawn0.step)⟩
          ·rw [if_neg c19] at H
           have c19b0:decide ((bt a0 x7_2) < 128)=false:=decide_eq_false c19
           clear c19
           by_cases c21:(bt a0 x7_2) > 191
           ·rw [if_pos c21] at H
            have c21b0:decide (191 < (bt a0 x7_2))=true:=decide_eq_true c21
            clear c21
            simp only [Option.some.injEq,Prod.mk.injEq] at H
            obtain ⟨rfl,rfl⟩:=H
            have p18:0≤(x7_2:Int):=of_decide_eq_true (by first|(with_reducible assumption)|assumption)
            have q18:x7_2 < (a0.size:Int):=of_decide_eq_true (by first|(with_reducible assumption)|assumption)
            have hx18:=bt_at a0 x7_2
            replace p18:=eq_true p18
            replace q18:=eq_true q18
            have p20:0≤(x7_2:Int):=of_decide_eq_true (by first|(with_reducible assumption)|assumption)
            have q20:x7_2 < (a0.size:Int):=of_decide_eq_true (by first|(with_reducible assumption)|assumption)
            have hx20:=bt_at a0 x7_2
            replace p20:=eq_true p20
            replace q20:=eq_true q20
            go_wp2
            go_ret2
            exact ⟨by first|rfl|(simp;done)|(simp [*];done),by repeat (first|exact Drawn0.refl _|apply Drawn0.step)⟩
           ·rw [if_neg c21] at H
            have c21b0:decide (191 < (bt a0 x7_2))=false:=decide_eq_false c21
            clear c21
            have H':=Aside0.mk H
            clear H
            have p18:0≤(x7_2:Int):=of_decide_eq_true (by first|(with_reducible assumption)|assumption)
            have q18:x7_2 < (a0.size:Int):=of_decide_eq_true (by first|(with_reducible assumption)|assumption)
            have hx18:=bt_at a0 x7_2
            replace p18:=eq_true p18
            replace q18:=eq_true q18
            have p20:0≤(x7_2:Int):=of_decide_eq_true (by first|(with_reducible assumption)|assumption)
            have q20:x7_2 < (a0.size:Int):=of_decide_eq_true (by first|(with_reducible assumption)|assumption)
            have hx20:=bt_at a0 x7_2
            replace p20:=eq_true p20
            replace q20:=eq_true q20
            have p22:0≤(x7_2:Int):=of_decide_eq_true (by first|(with_reducible assumption)|assumption)
            have q22:x7_2 < (a0.size:Int):=of_decide_eq_true (by first|(with_reducible assumption)|assumption)
            have hx22:=bt_at a0 x7_2
            replace p22:=eq_true p22
            replace q22:=eq_true q22
            go_wp2
            go_roundg k2
            case measure => have:=HJ3.out;have:=HK2.out;omega
            case rel => exact ⟨(Go.bits .or .i64 (wrap64 (x4_2 * 64)) (wrap64 (Go.bits .and .u8 (bt a0 x7_2) 63))),(wrap64 (x7_2 + 1)),(by first|rfl|(simp;done)|(simp [*];done)),(by first|rfl|(simp;done)|(simp [*];done)),H',⟨by have:=HJ3.out;have:=HK2.out;omega⟩,by repeat (first|exact Drawn0.refl _|apply Drawn0.step)⟩
         ·rw [if_neg c17] at H
          exact absurd H (by simp)
        ·rw [if_neg c16] at H
         exact absurd H (by simp)
       ·rw [if_neg c15] at H
        have c15b0:decide (x7_2 < x5_3)=false:=decide_eq_false c15
        clear c15
        by_cases c23:x4_2 < x6_3
        ·rw [if_pos c23] at H
         have c23b0:decide (x4_2 < x6_3)=true:=decide_eq_true c23
         clear c23
         simp only [Option.some.injEq,Prod.mk.injEq] at H
         obtain ⟨rfl,rfl⟩:=H
         go_wp2
         go_ret2
         exact ⟨by first|rfl|(simp;done)|(simp [*];done),by repeat (first|exact Drawn0.refl _|apply Drawn0.step)⟩
        ·rw [if_neg c23] at H
         have c23b0:decide (x4_2 < x6_3)=false:=decide_eq_false c23
         clear c23
         by_cases c24:x4_2 > 1114111
         ·rw [if_pos c24] at H
          have c24b0:decide (1114111 < x4_2)=true:=decide_eq_true c24
          clear c24
          simp only [Option.some.injEq,Prod.mk.injEq] at H
          obtain ⟨rfl,rfl⟩:=H
          go_wp2
          go_ret2
          exact ⟨by first|rfl|(simp;done)|(simp [*];done),by repeat (first|exact Drawn0.refl _|apply Drawn0.step)⟩
         ·rw [if_neg c24] at H
          have c24b0:decide (1114111 < x4_2)=false:=decide_eq_false c24
          clear c24
          by_cases c25:x4_2 ≥ 55296
          ·rw [if_pos c25] at H
           have c25b0:decide (55296≤x4_2)=true:=decide_eq_true c25
           clear c25
           by_cases c26:x4_2≤57343
           ·rw [if_pos c26] at H
            have c26b0:decide (x4_2≤57343)=true:=decide_eq_true c26
            clear c26
            simp only [Option.some.injEq,Prod.mk.injEq] at H
            obtain ⟨rfl,rfl⟩:=H
            go_wp2
            go_ret2
            exact ⟨by first|rfl|(simp;done)|(simp [*];done),by repeat (first|exact Drawn0.refl _|apply Drawn0.step)⟩
           ·rw [if_neg c26] at H
            have c26b0:decide (x4_2≤57343)=false:=decide_eq_false c26
            clear c26
            simp only [Option.some.injEq,Prod.mk.injEq] at H
            obtain ⟨rfl,rfl⟩:=H
            go_wp2
            go_ret2
            exact ⟨by first|rfl|(simp;done)|(simp [*];done),by repeat (first|exact Drawn0.refl _|apply Drawn0.step)⟩
          ·rw [if_neg c25] at H
           have c25b0:decide (55296≤x4_2)=false:=decide_eq_false c25
           clear c25
           simp only [Option.some.injEq,Prod.mk.injEq] at H
           obtain ⟨rfl,rfl⟩:=H
           go_wp2
           go_ret2
           exact ⟨by first|rfl|(simp;done)|(simp [*];done),by repeat (first|exact Drawn0.refl _|apply Drawn0.step)⟩
 ·rw [if_neg c2] at H
  exact absurd H (by simp)
def understudyref02_unit.j0:Nat→Int→Bool→Option (List Int)
 | 0,_,_ => none
 | k + 1,x0,x3 => if x3=true then (some (([(x0) % 256]:List Int))) else (if x0≤2047 then (some (([(wrap64 (192 + (wrap64 (Int.tdiv x0 64)))) % 256,(wrap64 (128 + (Int.tmod x0 64))) % 256]:List Int))) else (some (([(wrap64 (224 + (wrap64 (Int.tdiv x0 4096)))) % 256,(wrap64 (128 + (Int.tmod (wrap64 (Int.tdiv x0 64)) 64))) % 256,(wrap64 (128 + (Int.tmod x0 64))) % 256]:List Int))))
def understudyref02_unit.f (k:Nat) (a0:Int):Option (List Int):=if a0 ≥ 1 then (understudyref02_unit.j0 k a0 (decide (a0≤127))) else (understudyref02_unit.j0 k a0 false)
theorem understudyref02_unit.mono_l:∀ k,(∀ y0 y1,LeO (understudyref02_unit.j0 k y0 y1) (understudyref02_unit.j0 (k + 1) y0 y1))
 | 0 => fun _ _ r h => by simp [understudyref02_unit.j0] at h
 | k + 1 => by
  have ih0:=understudyref02_unit.mono_l k
  ·intro y0 y1
   unfold understudyref02_unit.j0
   repeat' first
   | (with_reducible exact ih0 _ _)
   | (with_reducible exact LeO.refl _)
   | (with_reducible exact LeO.none _)
   | (with_reducible refine LeO.ite ?_ ?_)
   | (with_reducible refine LeO.bind ?_ (fun _ => ?_))
   | exact ih0 _ _
   | exact LeO.none _
   | refine LeO.ite ?_ ?_
   | refine LeO.bind ?_ (fun _ => ?_)
theorem understudyref02_unit.mono:∀ a0 k,LeO (understudyref02_unit.f k a0) (understudyref02_unit.f (k + 1) a0):=by
 intro a0 k
 have ih0:=understudyref02_unit.mono_l k
 unfold understudyref02_unit.f
 repeat' first
   | (with_reducible exact ih0 _ _)
   | (with_reducible exact LeO.refl _)
   | (with_reducible exact LeO.none _)
   | (with_reducible refine LeO.ite ?_ ?_)
   | (with_reducible refine LeO.bind ?_ (fun _ => ?_))
   | exact ih0 _ _
   | exact LeO.none _
   | refine LeO.ite ?_ ?_
   | refine LeO.bind ?_ (fun _ => ?_)
set_option maxHeartbeats 80000000 in
set_option maxRecDepth 100000 in
theorem understudyref02_unit.calls (k:Nat) (a0:Int) (r:List Int) (w:World) (h:understudyref02_unit.f k a0=some r) :
  Calls Tryd.prog 52 #[.int .i64 a0] w fun e w' => ∃ v0_:Value,e=.returned (v0_)∧Kd.R (Kd.int .u8) 5 w' w.heap.size (fun _ => True) v0_ r∧Below w.heap.size w w':=by
 have HB:=Aside0.mk (Below.refl w.heap.size w)
 have H:(if a0 ≥ 1 then (understudyref02_unit.j0 k a0 (decide (a0≤127))) else (understudyref02_unit.j0 k a0 false))=some r:=h
 clear h
 have HC2:=Aside0.mk H
 clear H
 go_enter Tryd.func52,Tryd.ntmps52
 go_upto_region 1 with (fail)
 go_cut [3] (fun v3 wc => ∃ (kq:Nat) (x3_1:Bool),v3=.bool x3_1∧Aside0 (understudyref02_unit.j0 kq a0 x3_1=some r)∧Aside0 (kq≤k)∧Aside0 (Below w.heap.size w wc))
 case first =>
  have H:=HC2.out
  clear HC2
  by_cases c3:a0 ≥ 1
  ·rw [if_pos c3] at H
   have c3b0:decide (1≤a0)=true:=decide_eq_true c3
   clear c3
   (first|rw [c3b0]|(simp only [i64_w,i32_w];rw [c3b0])|skip)
   have H':=Aside0.mk H
   clear H
   go_wp2
   go_meet
   case rel => exact ⟨_,(decide (a0≤127)),(by first|rfl|(simp;done)|(simp [*];done)),H',⟨by first|omega|exact Nat.le_refl _⟩,⟨by repeat (first|(with_reducible first|exact HB.out|apply below_alloc|apply pw_below_drewN|apply below_drew1)|exact HB.out)⟩⟩
  ·rw [if_neg c3] at H
   have c3b0:decide (1≤a0)=false:=decide_eq_false c3
   clear c3
   (first|rw [c3b0]|(simp only [i64_w,i32_w];rw [c3b0])|skip)
   have H':=Aside0.mk H
   clear H
   go_wp2
   go_meet
   case rel => exact ⟨_,(false),(by first|rfl|(simp;done)|(simp [*];done)),H',⟨by first|omega|exact Nat.le_refl _⟩,⟨by repeat (first|(with_reducible first|exact HB.out|apply below_alloc|apply pw_below_drewN|apply below_drew1)|exact HB.out)⟩⟩
 case rest =>
  clear HC2
  try clear p2;try clear c3;try clear c3b0
  obtain ⟨kq,x3_1,rfl,HA,HJ1,HB⟩:=hcut
  cases kq with
  | zero => exact absurd HA.out (by simp [understudyref02_unit.j0])
  | succ kj1 =>
   have H:=HA.out
   clear HA
   simp only [understudyref02_unit.j0] at H
   by_cases c4:x3_1=true
   ·subst c4
    have H1:(some (([(a0) % 256]:List Int)))=some r:=by rw [if_pos rfl] at H;exact H
    clear H
    have H:=H1
    clear H1
    obtain ⟨y171,hy171⟩:∃ y_:List Int,y_=(([(a0) % 256]:List Int)):=⟨_,rfl⟩
    replace H:(some y171)=some r:=by first|(rw [hy171];with_reducible exact H)|(have H2_:=(Option.bind_some _ _).symm.trans H;rw [hy171];with_reducible exact H2_)|(have H2_:=(Option.bind_some _ _).symm.trans H;with_reducible exact H2_)|with_reducible exact H|(rw [hy171];exact H)|exact H
    have Ny171:=Aside0.mk hy171
    clear hy171
    obtain rfl:=Option.some.inj H
    go_wp2_with (first|((with_reducible refine gate_dst (N:=12) rfl ?_);refine Kd.R_lit (Kd.int .u8) _ 5 ?hg (N:=12) ?hd (xs:=([(a0) % 256]:List Int)) (inner:=[.int .u8 ((a0) % 256)]) (ok:=fun _ => True) (okp:=fun _ => True) ?hr ?hp (fun _ hk => hk) trivial (Below.refl _ _) (Nat.le_refl _) (by simp) ?_;(case hd => rfl);(case hg => rfl);(case hr => first|(go_simp;done)|(go_simp;rfl));(case hp => exact (Reps.one (show Kd.M (Kd.int .u8) _ _ _ ((a0) % 256) [.int .u8 ((a0) % 256)] from rfl) (Reps.none _ _)));intro v172 w5 ho6 hb hg_ hnew_;clear hg_ hnew_;(first|rw [← Ny171.out] at ho6|(simp only [Int.reduceToNat] at ho6;rw [← Ny171.out] at ho6));have n0_:=Aside0.mk (Kd.R_lower ho6 (below_size (by repeat (first|(with_reducible first|exact HB.out|apply below_alloc|apply pw_below_drewN|apply below_drew1)|exact HB.out))));have n1_:=Aside0.mk (below_step (by repeat (first|(with_reducible first|exact HB.out|apply below_alloc|apply pw_below_drewN|apply below_drew1)|exact HB.out)) hb);clear HB;have HO173:=n0_;have HB:=n1_;clear n0_ n1_;clear hb ho6))
    go_ret
    exact ⟨_,by first|rfl|(simp [errW_none,errW_some] <;> rfl)|(simp [*,errW_none,errW_some] <;> rfl),by (with_reducible repeat (first|apply Kd.R_alloc|apply Kd.R_drewN|apply Kd.R_drew));exact HO173.out,by repeat (first|(with_reducible first|exact HB.out|apply below_alloc|apply pw_below_drewN|apply below_drew1)|exact HB.out)⟩
   ·replace c4:=Bool.eq_false_iff.mpr c4
    subst c4
    have H1:(if a0≤2047 then (some (([(wrap64 (192 + (wrap64 (Int.tdiv a0 64)))) % 256,(wrap64 (128 + (Int.tmod a0 64))) % 256]:List Int))) else (some (([(wrap64 (224 + (wrap64 (Int.tdiv a0 4096)))) % 256,(wrap64 (128 + (Int.tmod (wrap64 (Int.tdiv a0 64)) 64))) % 256,(wrap64 (128 + (Int.tmod a0 64))) % 256]:List Int))))=some r:=by rw [if_neg (show ¬ (false=true) by decide)] at H;exact H
    clear H
    have H:=H1
    clear H1
    by_cases c7:a0≤2047
    ·rw [if_pos c7] at H
     have c7b0:decide (a0≤2047)=true:=decide_eq_true c7
     clear c7
     obtain ⟨y174,hy174⟩:∃ y_:List Int,y_=(([(wrap64 (192 + (wrap64 (Int.tdiv a0 64)))) % 256,(wrap64 (128 + (Int.tmod a0 64))) % 256]:List Int)):=⟨_,rfl⟩
     replace H:(some y174)=some r:=by first|(rw [hy174];with_reducible exact H)|(have H2_:=(Option.bind_some _ _).symm.trans H;rw [hy174];with_reducible exact H2_)|(have H2_:=(Option.bind_some _ _).symm.trans H;with_reducible exact H2_)|with_reducible exact H|(rw [hy174];exact H)|exact H
     have Ny174:=Aside0.mk hy174
     clear hy174
     obtain rfl:=Option.some.inj H
     go_wp2_with (first|((with_reducible refine gate_dst (N:=24) rfl ?_);refine Kd.R_lit (Kd.int .u8) _ 5 ?hg (N:=24) ?hd (xs:=([(wrap64 (192 + (wrap64 (Int.tdiv a0 64)))) % 256,(wrap64 (128 + (Int.tmod a0 64))) % 256]:List Int)) (inner:=[.int .u8 ((wrap64 (192 + (wrap64 (Int.tdiv a0 64)))) % 256),.int .u8 ((wrap64 (128 + (Int.tmod a0 64))) % 256)]) (ok:=fun _ => True) (okp:=fun _ => True) ?hr ?hp (fun _ hk => hk) trivial (Below.refl _ _) (Nat.le_refl _) (by simp) ?_;(case hd => rfl);(case hg => rfl);(case hr => first|(go_simp;done)|(go_simp;rfl));(case hp => exact (Reps.one (show Kd.M (Kd.int .u8) _ _ _ ((wrap64 (192 + (wrap64 (Int.tdiv a0 64)))) % 256) [.int .u8 ((wrap64 (192 + (wrap64 (Int.tdiv a0 64)))) % 256)] from rfl) (Reps.one (show Kd.M (Kd.int .u8) _ _ _ ((wrap64 (128 + (Int.tmod a0 64))) % 256) [.int .u8 ((wrap64 (128 + (Int.tmod a0 64))) % 256)] from rfl) (Reps.none _ _))));intro v175 w8 ho9 hb hg_ hnew_;clear hg_ hnew_;(first|rw [← Ny174.out] at ho9|(simp only [Int.reduceToNat] at ho9;rw [← Ny174.out] at ho9));have n0_:=Aside0.mk (Kd.R_lower ho9 (below_size (by repeat (first|(with_reducible first|exact HB.out|apply below_alloc|apply pw_below_drewN|apply below_drew1)|exact HB.out))));have n1_:=Aside0.mk (below_step (by repeat (first|(with_reducible first|exact HB.out|apply below_alloc|apply pw_below_drewN|apply below_drew1)|exact HB.out)) hb);clear HB;have HO176:=n0_;have HB:=n1_;clear n0_ n1_;clear hb ho9))
     go_ret
     exact ⟨_,by first|rfl|(simp [errW_none,errW_some] <;> rfl)|(simp [*,errW_none,errW_some] <;> rfl),by (with_reducible repeat (first|apply Kd.R_alloc|apply Kd.R_drewN|apply Kd.R_drew));exact HO176.out,by repeat (first|(with_reducible first|exact HB.out|apply below_alloc|apply pw_below_drewN|apply below_drew1)|exact HB.out)⟩
    ·rw [if_neg c7] at H
     have c7b0:decide (a0≤2047)=false:=decide_eq_false c7
     clear c7
     obtain ⟨y177,hy177⟩:∃ y_:List Int,y_=(([(wrap64 (224 + (wrap64 (Int.tdiv a0 4096)))) % 256,(wrap64 (128 + (Int.tmod (wrap64 (Int.tdiv a0 64)) 64))) % 256,(wrap64 (128 + (Int.tmod a0 64))) % 256]:List Int)):=⟨_,rfl⟩
     replace H:(some y177)=some r:=by first|(rw [hy177];with_reducible exact H)|(have H2_:=(Option.bind_some _ _).symm.trans H;rw [hy177];with_reducible exact H2_)|(have H2_:=(Option.bind_some _ _).symm.trans H;with_reducible exact H2_)|with_reducible exact H|(rw [hy177];exact H)|exact H
     have Ny177:=Aside0.mk hy177
     clear hy177
     obtain rfl:=Option.some.inj H
     go_wp2_with (first|((with_reducible refine gate_dst (N:=38) rfl ?_);refine Kd.R_lit (Kd.int .u8) _ 5 ?hg (N:=38) ?hd (xs:=([(wrap64 (224 + (wrap64 (Int.tdiv a0 4096)))) % 256,(wrap64 (128 + (Int.tmod (wrap64 (Int.tdiv a0 64)) 64))) % 256,(wrap64 (128 + (Int.tmod a0 64))) % 256]:List Int)) (inner:=[.int .u8 ((wrap64 (224 + (wrap64 (Int.tdiv a0 4096)))) % 256),.int .u8 ((wrap64 (128 + (Int.tmod (wrap64 (Int.tdiv a0 64)) 64))) % 256),.int .u8 ((wrap64 (128 + (Int.tmod a0 64))) % 256)]) (ok:=fun _ => True) (okp:=fun _ => True) ?hr ?hp (fun _ hk => hk) trivial (Below.refl _ _) (Nat.le_refl _) (by simp) ?_;(case hd => rfl);(case hg => rfl);(case hr => first|(go_simp;done)|(go_simp;rfl));(case hp => exact (Reps.one (show Kd.M (Kd.int .u8) _ _ _ ((wrap64 (224 + (wrap64 (Int.tdiv a0 4096)))) % 256) [.int .u8 ((wrap64 (224 + (wrap64 (Int.tdiv a0 4096)))) % 256)] from rfl) (Reps.one (show Kd.M (Kd.int .u8) _ _ _ ((wrap64 (128 + (Int.tmod (wrap64 (Int.tdiv a0 64)) 64))) % 256) [.int .u8 ((wrap64 (128 + (Int.tmod (wrap64 (Int.tdiv a0 64)) 64))) % 256)] from rfl) (Reps.one (show Kd.M (Kd.int .u8) _ _ _ ((wrap64 (128 + (Int.tmod a0 64))) % 256) [.int .u8 ((wrap64 (128 + (Int.tmod a0 64))) % 256)] from rfl) (Reps.none _ _)))));intro v178 w10 ho11 hb hg_ hnew_;clear hg_ hnew_;(first|rw [← Ny177.out] at ho11|(simp only [Int.reduceToNat] at ho11;rw [← Ny177.out] at ho11));have n0_:=Aside0.mk (Kd.R_lower ho11 (below_size (by repeat (first|(with_reducible first|exact HB.out|apply below_alloc|apply pw_below_drewN|apply below_drew1)|exact HB.out))));have n1_:=Aside0.mk (below_step (by repeat (first|(with_reducible first|exact HB.out|apply below_alloc|apply pw_below_drewN|apply below_drew1)|exact HB.out)) hb);clear HB;have HO179:=n0_;have HB:=n1_;clear n0_ n1_;clear hb ho11))
     go_ret
     exact ⟨_,by first|rfl|(simp [errW_none,errW_some] <;> rfl)|(simp [*,errW_none,errW_some] <;> rfl),by (with_reducible repeat (first|apply Kd.R_alloc|apply Kd.R_drewN|apply Kd.R_drew));exact HO179.out,by repeat (first|(with_reducible first|exact HB.out|apply below_alloc|apply pw_below_drewN|apply below_drew1)|exact HB.out)⟩
def understudyref02_Encode.l0:Nat→ByteArray→List Int→Option (List Int × Int)
 | 0,_,_ => none
 | k + 1,x0,x4 => if (x0.size:Int) > 0 then ((understudyref02_point.f k x0).bind fun bt180 => (if bt180.2=0 then (some (([]:List Int),20)) else (if 0≤bt180.2 then (if bt180.2≤(x0.size:Int) then (if bt180.1 ≥ 65536 then ((understudyref02_unit.f k (wrap64 (55296 + (wrap64 (Int.tdiv (wrap64 (bt180.1 - 65536)) 1024))))).bind fun t182 => (if x4.length + t182.length < 140737488355328 then ((some (x4++t182:List Int)).bind fun y185 => ((understudyref02_unit.f k (wrap64 (56320 + (Int.tmod (wrap64 (bt180.1 - 65536)) 1024)))).bind fun t188 => (if y185.length + t188.length < 140737488355328 then (understudyref02_Encode.l0 k (x0.extract (bt180.2:Int).toNat x0.size) (y185++t188)) else (none)))) else (none))) else ((understudyref02_unit.f k bt180.1).bind fun t194 => (if x4.length + t194.length < 140737488355328 then (understudyref02_Encode.l0 k (x0.extract (bt180.2:Int).toNat x0.size) (x4++t194)) else (none)))) else (none)) else (none)))) else (some (x4,0))
def understudyref02_Encode.f (k:Nat) (a0:ByteArray):Option (List Int × Int):=understudyref02_Encode.l0 k a0 ([]:List Int)
theorem understudyref02_Encode.mono_l:∀ k,(∀ y0 y1,LeO (understudyref02_Encode.l0 k y0 y1) (understudyref02_Encode.l0 (k + 1) y0 y1))
 | 0 => fun _ _ r h => by simp [understudyref02_Encode.l0] at h
 | k + 1 => by
  have ih0:=understudyref02_Encode.mono_l k
  ·intro y0 y1
   unfold understudyref02_Encode.l0
   repeat' first
   | (with_reducible exact ih0 _ _)
   | (with_reducible exact understudyref02_point.mono _ _)
   | (with_reducible exact understudyref02_unit.mono _ _)
   | (with_reducible exact LeO.refl _)
   | (with_reducible exact LeO.none _)
   | (with_reducible refine LeO.ite ?_ ?_)
   | (with_reducible refine LeO.bind ?_ (fun _ => ?_))
   | exact ih0 _ _
   | exact understudyref02_point.mono _ _
   | exact understudyref02_unit.mono _ _
   | exact LeO.none _
   | refine LeO.ite ?_ ?_
   | refine LeO.bind ?_ (fun _ => ?_)
theorem understudyref02_Encode.mono:∀ a0 k,LeO (understudyref02_Encode.f k a0) (understudyref02_Encode.f (k + 1) a0):=by
 intro a0 k
 have ih0:=understudyref02_Encode.mono_l k
 unfold understudyref02_Encode.f
 repeat' first
   | (with_reducible exact ih0 _ _)
   | (with_reducible exact understudyref02_point.mono _ _)
   | (with_reducible exact understudyref02_unit.mono _ _)
   | (with_reducible exact LeO.refl _)
   | (with_reducible exact LeO.none _)
   | (with_reducible refine LeO.ite ?_ ?_)
   | (with_reducible refine LeO.bind ?_ (fun _ => ?_))
   | exact ih0 _ _
   | exact understudyref02_point.mono _ _
   | exact understudyref02_unit.mono _ _
   | exact LeO.none _
   | refine LeO.ite ?_ ?_
   | refine LeO.bind ?_ (fun _ => ?_)
set_option maxHeartbeats 80000000 in
set_option maxRecDepth 100000 in
theorem understudyref02_Encode.calls (k:Nat) (a0:ByteArray) (r1:List Int) (r2:Int) (w:World) (h:understudyref02_Encode.f k a0=some (r1,r2)) :
  Calls Tryd.prog 30 #[.string a0] w fun e w' => ∃ v0_:Value,e=.returned (.tuple #[v0_,.int .i64 r2])∧Kd.R (Kd.int .u8) 5 w' w.heap.size (fun _ => True) v0_ r1∧Below w.heap.size w w':=by
 have HB:=Aside0.mk (Below.refl w.heap.size w)
 have H:(understudyref02_Encode.l0 k a0 ([]:List Int))=some (r1,r2):=h
 clear h
 have H':=Aside0.mk H
 clear H
 go_enter Tryd.func30,Tryd.ntmps30
 go_wp2
 go_loopg [0,4] k (fun kq v0 v4 w' => ∃ (x0_1:ByteArray) (x4_1:List Int),v0=.string x0_1∧Aside0 (understudyref02_Encode.l0 kq x0_1 x4_1=some (r1,r2))∧Aside0 (kq≤k)∧Aside0 (Kd.R (Kd.int .u8) 5 w' w.heap.size (fun _ => True) v4 x4_1)∧Aside0 (Below w.heap.size w w'))
 case atStart => exact ⟨(a0),(([]:List Int)),(by first|rfl|(simp;done)|(simp [*];done)),H',⟨Nat.le_refl _⟩,⟨by first|exact Kd.R_nil _ _ _ _ _|exact Kd.N_nil _ _ _ _ _|exact Kd.V_nil _ _ _ _ _|exact Kd.Q_nil _ _ _ _ _|exact Kd.S_nil _ _ _ _ _⟩,⟨by repeat (first|(with_reducible first|exact HB.out|apply below_alloc|apply pw_below_drewN|apply below_drew1)|exact HB.out)⟩⟩
 case round =>
  clear H'
  obtain ⟨x0_1,x4_1,rfl,HA,HK1,HO_4,HB⟩:=hrel
  cases gk with
  | zero => exact absurd HA.out (by simp [understudyref02_Encode.l0])
  | succ k1 =>
   have H:=HA.out
   clear HA
   simp only [understudyref02_Encode.l0] at H
   by_cases c2:(x0_1.size:Int) > 0
   ·rw [if_pos c2] at H
    have c2b0:decide (0 < (x0_1.size:Int))=true:=decide_eq_true c2
    have c2b1:decide (0 < x0_1.size)=true:=decide_eq_true (by omega)
    clear c2
    replace H:=Option.bind_eq_some_iff.mp H
    obtain ⟨⟨t180,t181⟩,A30,H⟩:=H
    replace H:(if t181=0 then (some (([]:List Int),20)) else (if 0≤t181 then (if t181≤(x0_1.size:Int) then (if t180 ≥ 65536 then ((understudyref02_unit.f k1 (wrap64 (55296 + (wrap64 (Int.tdiv (wrap64 (t180 - 65536)) 1024))))).bind fun t182 => (if x4_1.length + t182.length < 140737488355328 then ((some (x4_1++t182:List Int)).bind fun y185 => ((understudyref02_unit.f k1 (wrap64 (56320 + (Int.tmod (wrap64 (t180 - 65536)) 1024)))).bind fun t188 => (if y185.length + t188.length < 140737488355328 then (understudyref02_Encode.l0 k1 (x0_1.extract (t181:Int).toNat x0_1.size) (y185++t188)) else (none)))) else (none))) else ((understudyref02_unit.f k1 t180).bind fun t194 => (if x4_1.length + t194.length < 140737488355328 then (understudyref02_Encode.l0 k1 (x0_1.extract (t181:Int).toNat x0_1.size) (x4_1++t194)) else (none)))) else (none)) else (none)))=some (r1,r2):=H
    have A3:=Aside0.mk A30
    clear A30
    by_cases c4:t181=0
    ·rw [if_pos c4] at H
     have c4b0:(t181==0)=true:=beq_iff_eq.mpr c4
     have c4b1:(t181 != 0)=false:=bne_eq_false_iff_eq.mpr c4
     clear c4
     simp only [Option.some.injEq,Prod.mk.injEq] at H
     obtain ⟨rfl,rfl⟩:=H
     go_wp2_with (first|((with_reducible refine gate_callee (f:=51) rfl ?_);refine goesL_ (some 12) rfl rfl Tryd.func51 (by kernel_rfl) rfl #[.string x0_1] rfl (by (try simp only [List.map_toArray,List.map_cons,List.map_nil]);first|done|rfl|(simp only [List.length_drop,List.length_take];rfl)) ?_;(with_reducible refine (understudyref02_point.calls k1 x0_1 t180 t181 _ A3.out).mono ?_);rintro e w' ⟨rfl,⟨nd,rfl⟩⟩;refine ⟨_,rfl,?_⟩))
     go_ret2
     exact ⟨_,by first|rfl|(simp [errW_none,errW_some] <;> rfl)|(simp [*,errW_none,errW_some] <;> rfl),by first|exact Kd.R_nil _ _ _ _ _|exact Kd.N_nil _ _ _ _ _|exact Kd.V_nil _ _ _ _ _|exact Kd.Q_nil _ _ _ _ _|exact Kd.S_nil _ _ _ _ _,by repeat (first|(with_reducible first|exact HB.out|apply below_alloc|apply pw_below_drewN|apply below_drew1)|exact HB.out)⟩
    ·rw [if_neg c4] at H
     have c4b0:(t181==0)=false:=beq_eq_false_iff_ne.mpr c4
     have c4b1:(t181 != 0)=true:=bne_iff_ne.mpr c4
     by_cases c5:0≤t181
     ·rw [if_pos c5] at H
      have c5b0:=eq_true c5
      have c5b1:decide (0≤t181)=true:=decide_eq_true c5
      clear c5
      by_cases c6:t181≤(x0_1.size:Int)
      ·rw [if_pos c6] at H
       have c6b0:=eq_true c6
       have c6b1:decide (t181≤(x0_1.size:Int))=true:=decide_eq_true c6
       clear c6
       by_cases c7:t180 ≥ 65536
       ·rw [if_pos c7] at H
        have c7b0:decide (65536≤t180)=true:=decide_eq_true c7
        clear c7
        replace H:=Option.bind_eq_some_iff.mp H
        obtain ⟨t182,A80,H⟩:=H
        replace H:(if x4_1.length + t182.length < 140737488355328 then ((some (x4_1++t182:List Int)).bind fun y185 => ((understudyref02_unit.f k1 (wrap64 (56320 + (Int.tmod (wrap64 (t180 - 65536)) 1024)))).bind fun t188 => (if y185.length + t188.length < 140737488355328 then (understudyref02_Encode.l0 k1 (x0_1.extract (t181:Int).toNat x0_1.size) (y185++t188)) else (none)))) else (none))=some (r1,r2):=H
        have A8:=Aside0.mk A80
        clear A80
        by_cases c9:x4_1.length + t182.length < 140737488355328
        ·rw [if_pos c9] at H
         have LMc9:=Aside0.mk c9
         clear c9
         obtain ⟨y185,hy185⟩:∃ y_:List Int,y_=(x4_1++t182):=⟨_,rfl⟩
         replace H:((understudyref02_unit.f k1 (wrap64 (56320 + (Int.tmod (wrap64 (t180 - 65536)) 1024)))).bind fun t188 => (if y185.length + t188.length < 140737488355328 then (understudyref02_Encode.l0 k1 (x0_1.extract (t181:Int).toNat x0_1.size) (y185++t188)) else (none)))=some (r1,r2):=by first|(rw [hy185];with_reducible exact H)|(have H2_:=(Option.bind_some _ _).symm.trans H;rw [hy185];with_reducible exact H2_)|(have H2_:=(Option.bind_some _ _).symm.trans H;with_reducible exact H2_)|with_reducible exact H|(rw [hy185];exact H)|exact H
         have Ny185:=Aside0.mk hy185
         clear hy185
         replace H:=Option.bind_eq_some_iff.mp H
         obtain ⟨t188,A100,H⟩:=H
         replace H:(if y185.length + t188.length < 140737488355328 then (understudyref02_Encode.l0 k1 (x0_1.extract (t181:Int).toNat x0_1.size) (y185++t188)) else (none))=some (r1,r2):=H
         have A10:=Aside0.mk A100
         clear A100
         by_cases c11:y185.length + t188.length < 140737488355328
         ·rw [if_pos c11] at H
          have LMc11:=Aside0.mk c11
          clear c11
          obtain ⟨y191,hy191⟩:∃ y_:List Int,y_=(y185++t188):=⟨_,rfl⟩
          replace H:(understudyref02_Encode.l0 k1 (x0_1.extract (t181:Int).toNat x0_1.size) y191)=some (r1,r2):=by first|(rw [hy191];with_reducible exact H)|(have H2_:=(Option.bind_some _ _).symm.trans H;rw [hy191];with_reducible exact H2_)|(have H2_:=(Option.bind_some _ _).symm.trans H;with_reducible exact H2_)|with_reducible exact H|(rw [hy191];exact H)|exact H
          have Ny191:=Aside0.mk hy191
          clear hy191
          have H':=Aside0.mk H
          clear H
          go_wp2_with (first|((with_reducible refine gate_callee (f:=51) rfl ?_);refine goesL_ (some 12) rfl rfl Tryd.func51 (by kernel_rfl) rfl #[.string x0_1] rfl (by (try simp only [List.map_toArray,List.map_cons,List.map_nil]);first|done|rfl|(simp only [List.length_drop,List.length_take];rfl)) ?_;(with_reducible refine (understudyref02_point.calls k1 x0_1 t180 t181 _ A3.out).mono ?_);rintro e w' ⟨rfl,⟨nd,rfl⟩⟩;refine ⟨_,rfl,?_⟩)|((with_reducible refine gate_callee (f:=52) rfl ?_);refine goesL_ (some 27) rfl rfl Tryd.func52 (by kernel_rfl) rfl #[.int .i64 (wrap64 (55296 + (wrap64 (Int.tdiv (wrap64 (t180 - 65536)) 1024))))] rfl (by (try simp only [List.map_toArray,List.map_cons,List.map_nil]);first|done|rfl|(simp only [List.length_drop,List.length_take];rfl)) ?_;(with_reducible refine (understudyref02_unit.calls k1 (wrap64 (55296 + (wrap64 (Int.tdiv (wrap64 (t180 - 65536)) 1024)))) t182 _ A8.out).mono ?_);rintro e w12 ⟨v183,rfl,ho0,hb⟩;refine ⟨_,rfl,?_⟩;have n0_:=Aside0.mk (Kd.R_elder' (by (with_reducible repeat (first|apply Kd.R_alloc|apply Kd.R_drewN|apply Kd.R_drew));exact HO_4.out) (Kd.R_base ho0) hb);have n1_:=Aside0.mk (Kd.R_lower (Kd.R_new' ho0 (Kd.R_lt (by (with_reducible repeat (first|apply Kd.R_alloc|apply Kd.R_drewN|apply Kd.R_drew));exact HO_4.out))) (below_size (by repeat (first|(with_reducible first|exact HB.out|apply below_alloc|apply pw_below_drewN|apply below_drew1)|exact HB.out))));have n2_:=Aside0.mk (below_step (by repeat (first|(with_reducible first|exact HB.out|apply below_alloc|apply pw_below_drewN|apply below_drew1)|exact HB.out)) hb);clear HO_4;clear HB;have HO_4:=n0_;have HO184:=n1_;have HB:=n2_;clear n0_ n1_ n2_;(try clear hb);(try clear hb2);(try clear hk);(try clear hi);(try clear ho0);obtain ⟨Ao14,co14,eo14⟩:=Kd.R_slice HO184.out;subst eo14)|((with_reducible refine gate_builtin (b:=.append) (xs:=#[.tmp 22,.tmp 27]) rfl ?_);at_builtin;refine Kd.R_append_rows (Kd.int .u8) (w0:=w) w.heap.size rfl (.tmp 22) (.tmp 27) 34 5 (.int .u8 0) 1 rfl Tryd.underlying34 info5 rfl (by decide) (by omega) u4 x4_1 t182 _ _ _ (fun k_ => some k_ ≠ (.slice Ao14 t182.length co14:Value).ownBlock) (fun _ => False) rfl rfl ?aO ?aR (fun _ _ h => h) (fun _ h => h.elim) ?aF ?aB ?aS ?aL ?_;(case aR => repeat (first|exact (Kd.R_reads' HO184.out).2.2|(with_reducible refine Kd.C_alloc ?_ _)|(with_reducible refine Kd.C_drewN ?_ _)|(with_reducible refine Kd.C_drew ?_)));(case aB => exact (by repeat (first|(with_reducible first|exact HB.out|apply below_alloc|apply pw_below_drewN|apply below_drew1)|exact HB.out)));(case aF => exact (fun k_ hk => Kd.fresh' (Kd.R_lt (by (with_reducible repeat (first|apply Kd.R_alloc|apply Kd.R_drewN|apply Kd.R_drew));exact HO184.out)) k_ hk));(case aO => exact (by (with_reducible repeat (first|apply Kd.R_alloc|apply Kd.R_drewN|apply Kd.R_drew));exact Kd.R_mono HO_4.out (fun _ hk => hk.2)));(case aS => exact (below_size (by repeat (first|(with_reducible first|exact HB.out|apply below_alloc|apply pw_below_drewN|apply below_drew1)|exact HB.out))));(case aL => have:=LMc9.out;omega);intro v186 w13 ho hb hg hat;rw [← Ny185.out] at ho;have n0_:=Aside0.mk (Kd.R_after (ok:=(fun _ => True)) (by (with_reducible repeat (first|apply Kd.R_alloc|apply Kd.R_drewN|apply Kd.R_drew));exact HO184.out) hg hat);have n1_:=Aside0.mk (hb);have n2_:=Aside0.mk (ho);clear HO184;clear HB;clear HO_4;have HO184:=n0_;have HB:=n1_;have HO187:=n2_;clear n0_ n1_ n2_;clear ho hb hg hat)|((with_reducible refine gate_callee (f:=52) rfl ?_);refine goesL_ (some 34) rfl rfl Tryd.func52 (by kernel_rfl) rfl #[.int .i64 (wrap64 (56320 + (Int.tmod (wrap64 (t180 - 65536)) 1024)))] rfl (by (try simp only [List.map_toArray,List.map_cons,List.map_nil]);first|done|rfl|(simp only [List.length_drop,List.length_take];rfl)) ?_;(with_reducible refine (understudyref02_unit.calls k1 (wrap64 (56320 + (Int.tmod (wrap64 (t180 - 65536)) 1024))) t188 _ A10.out).mono ?_);rintro e w15 ⟨v189,rfl,ho0,hb⟩;refine ⟨_,rfl,?_⟩;have n0_:=Aside0.mk (Kd.R_elder' (by (with_reducible repeat (first|apply Kd.R_alloc|apply Kd.R_drewN|apply Kd.R_drew));exact HO184.out) (Kd.R_base ho0) hb);have n1_:=Aside0.mk (Kd.R_elder' (by (with_reducible repeat (first|apply Kd.R_alloc|apply Kd.R_drewN|apply Kd.R_drew));exact HO187.out) (Kd.R_base ho0) hb);have n2_:=Aside0.mk (Kd.R_lower (Kd.R_new' (Kd.R_new' ho0 (Kd.R_lt (by (with_reducible repeat (first|apply Kd.R_alloc|apply Kd.R_drewN|apply Kd.R_drew));exact HO184.out))) (Kd.R_lt (by (with_reducible repeat (first|apply Kd.R_alloc|apply Kd.R_drewN|apply Kd.R_drew));exact HO187.out))) (below_size (by repeat (first|(with_reducible first|exact HB.out|apply below_alloc|apply pw_below_drewN|apply below_drew1)|exact HB.out))));have n3_:=Aside0.mk (below_step (by repeat (first|(with_reducible first|exact HB.out|apply below_alloc|apply pw_below_drewN|apply below_drew1)|exact HB.out)) hb);clear HO184;clear HO187;clear HB;have HO184:=n0_;have HO187:=n1_;have HO190:=n2_;have HB:=n3_;clear n0_ n1_ n2_ n3_;(try clear hb);(try clear hb2);(try clear hk);(try clear hi);(try clear ho0);obtain ⟨Ao17,co17,eo17⟩:=Kd.R_slice HO190.out;subst eo17)|((with_reducible refine gate_builtin (b:=.append) (xs:=#[.tmp 29,.tmp 34]) rfl ?_);at_builtin;refine Kd.R_append_rows (Kd.int .u8) (w0:=w) w.heap.size rfl (.tmp 29) (.tmp 34) 34 5 (.int .u8 0) 1 rfl Tryd.underlying34 info5 rfl (by decide) (by omega) v186 y185 t188 _ _ _ (fun k_ => some k_ ≠ (.slice Ao14 t182.length co14:Value).ownBlock∧some k_ ≠ (.slice Ao17 t188.length co17:Value).ownBlock) (fun _ => False) rfl rfl ?aO ?aR (fun _ _ h => h) (fun _ h => h.elim) ?aF ?aB ?aS ?aL ?_;(case aR => repeat (first|exact (Kd.R_reads' HO190.out).2.2|(with_reducible refine Kd.C_alloc ?_ _)|(with_reducible refine Kd.C_drewN ?_ _)|(with_reducible refine Kd.C_drew ?_)));(case aB => exact (by repeat (first|(with_reducible first|exact HB.out|apply below_alloc|apply pw_below_drewN|apply below_drew1)|exact HB.out)));(case aF => exact (fun k_ hk => ⟨Kd.fresh' (Kd.R_lt (by (with_reducible repeat (first|apply Kd.R_alloc|apply Kd.R_drewN|apply Kd.R_drew));exact HO184.out)) k_ hk,Kd.fresh' (Kd.R_lt (by (with_reducible repeat (first|apply Kd.R_alloc|apply Kd.R_drewN|apply Kd.R_drew));exact HO190.out)) k_ hk⟩));(case aO => exact (by (with_reducible repeat (first|apply Kd.R_alloc|apply Kd.R_drewN|apply Kd.R_drew));exact HO187.out));(case aS => exact (below_size (by repeat (first|(with_reducible first|exact HB.out|apply below_alloc|apply pw_below_drewN|apply below_drew1)|exact HB.out))));(case aL => have:=LMc11.out;omega);intro v192 w16 ho hb hg hat;rw [← Ny191.out] at ho;have n0_:=Aside0.mk (Kd.R_after (ok:=(fun k_ => some k_ ≠ (.slice Ao17 t188.length co17:Value).ownBlock)) (by (with_reducible repeat (first|apply Kd.R_alloc|apply Kd.R_drewN|apply Kd.R_drew));exact Kd.R_mono HO184.out (fun _ hk => ⟨hk.2,hk.1.2⟩)) hg hat);have n1_:=Aside0.mk (Kd.R_after (ok:=(fun k_ => some k_ ≠ (.slice Ao14 t182.length co14:Value).ownBlock)) (by (with_reducible repeat (first|apply Kd.R_alloc|apply Kd.R_drewN|apply Kd.R_drew));exact Kd.R_mono HO190.out (fun _ hk => ⟨hk.1.2,hk.2⟩)) hg hat);have n2_:=Aside0.mk (hb);have n3_:=Aside0.mk (ho);clear HO184;clear HO190;clear HB;clear HO187;have HO184:=n0_;have HO190:=n1_;have HB:=n2_;have HO193:=n3_;clear n0_ n1_ n2_ n3_;clear ho hb hg hat))
          go_roundg k1
          case measure => have:=HK1.out;omega
          case rel => exact ⟨(x0_1.extract (t181:Int).toNat x0_1.size),(y191),(by first|rfl|(simp;done)|(simp [*];done)),H',⟨by have:=HK1.out;omega⟩,⟨by (with_reducible repeat (first|apply Kd.R_alloc|apply Kd.R_drewN|apply Kd.R_drew));exact Kd.R_mono HO193.out (fun _ hk => trivial)⟩,⟨by repeat (first|(with_reducible first|exact HB.out|apply below_alloc|apply pw_below_drewN|apply below_drew1)|exact HB.out)⟩⟩
         ·rw [if_neg c11] at H
          exact absurd H (by simp)
        ·rw [if_neg c9] at H
         exact absurd H (by simp)
       ·rw [if_neg c7] at H
        have c7b0:decide (65536≤t180)=false:=decide_eq_false c7
        clear c7
        replace H:=Option.bind_eq_some_iff.mp H
        obtain ⟨t194,A180,H⟩:=H
        replace H:(if x4_1.length + t194.length < 140737488355328 then (understudyref02_Encode.l0 k1 (x0_1.extract (t181:Int).toNat x0_1.size) (x4_1++t194)) else (none))=some (r1,r2):=H
        have A18:=Aside0.mk A180
        clear A180
        by_cases c19:x4_1.length + t194.length < 140737488355328
        ·rw [if_pos c19] at H
         have LMc19:=Aside0.mk c19
         clear c19
         obtain ⟨y197,hy197⟩:∃ y_:List Int,y_=(x4_1++t194):=⟨_,rfl⟩
         replace H:(understudyref02_Encode.l0 k1 (x0_1.extract (t181:Int).toNat x0_1.size) y197)=some (r1,r2):=by first|(rw [hy197];with_reducible exact H)|(have H2_:=(Option.bind_some _ _).symm.trans H;rw [hy197];with_reducible exact H2_)|(have H2_:=(Option.bind_some _ _).symm.trans H;with_reducible exact H2_)|with_reducible exact H|(rw [hy197];exact H)|exact H
         have Ny197:=Aside0.mk hy197
         clear hy197
         have H':=Aside0.mk H
         clear H
         go_wp2_with (first|((with_reducible refine gate_callee (f:=51) rfl ?_);refine goesL_ (some 12) rfl rfl Tryd.func51 (by kernel_rfl) rfl #[.string x0_1] rfl (by (try simp only [List.map_toArray,List.map_cons,List.map_nil]);first|done|rfl|(simp only [List.length_drop,List.length_take];rfl)) ?_;(with_reducible refine (understudyref02_point.calls k1 x0_1 t180 t181 _ A3.out).mono ?_);rintro e w' ⟨rfl,⟨nd,rfl⟩⟩;refine ⟨_,rfl,?_⟩)|((with_reducible refine gate_callee (f:=52) rfl ?_);refine goesL_ (some 38) rfl rfl Tryd.func52 (by kernel_rfl) rfl #[.int .i64 t180] rfl (by (try simp only [List.map_toArray,List.map_cons,List.map_nil]);first|done|rfl|(simp only [List.length_drop,List.length_take];rfl)) ?_;(with_reducible refine (understudyref02_unit.calls k1 t180 t194 _ A18.out).mono ?_);rintro e w20 ⟨v195,rfl,ho0,hb⟩;refine ⟨_,rfl,?_⟩;have n0_:=Aside0.mk (Kd.R_elder' (by (with_reducible repeat (first|apply Kd.R_alloc|apply Kd.R_drewN|apply Kd.R_drew));exact HO_4.out) (Kd.R_base ho0) hb);have n1_:=Aside0.mk (Kd.R_lower (Kd.R_new' ho0 (Kd.R_lt (by (with_reducible repeat (first|apply Kd.R_alloc|apply Kd.R_drewN|apply Kd.R_drew));exact HO_4.out))) (below_size (by repeat (first|(with_reducible first|exact HB.out|apply below_alloc|apply pw_below_drewN|apply below_drew1)|exact HB.out))));have n2_:=Aside0.mk (below_step (by repeat (first|(with_reducible first|exact HB.out|apply below_alloc|apply pw_below_drewN|apply below_drew1)|exact HB.out)) hb);clear HO_4;clear HB;have HO_4:=n0_;have HO196:=n1_;have HB:=n2_;clear n0_ n1_ n2_;(try clear hb);(try clear hb2);(try clear hk);(try clear hi);(try clear ho0);obtain ⟨Ao22,co22,eo22⟩:=Kd.R_slice HO196.out;subst eo22)|((with_reducible refine gate_builtin (b:=.append) (xs:=#[.tmp 36,.tmp 38]) rfl ?_);at_builtin;refine Kd.R_append_rows (Kd.int .u8) (w0:=w) w.heap.size rfl (.tmp 36) (.tmp 38) 34 5 (.int .u8 0) 1 rfl Tryd.underlying34 info5 rfl (by decide) (by omega) u4 x4_1 t194 _ _ _ (fun k_ => some k_ ≠ (.slice Ao22 t194.length co22:Value).ownBlock) (fun _ => False) rfl rfl ?aO ?aR (fun _ _ h => h) (fun _ h => h.elim) ?aF ?aB ?aS ?aL ?_;(case aR => repeat (first|exact (Kd.R_reads' HO196.out).2.2|(with_reducible refine Kd.C_alloc ?_ _)|(with_reducible refine Kd.C_drewN ?_ _)|(with_reducible refine Kd.C_drew ?_)));(case aB => exact (by repeat (first|(with_reducible first|exact HB.out|apply below_alloc|apply pw_below_drewN|apply below_drew1)|exact HB.out)));(case aF => exact (fun k_ hk => Kd.fresh' (Kd.R_lt (by (with_reducible repeat (first|apply Kd.R_alloc|apply Kd.R_drewN|apply Kd.R_drew));exact HO196.out)) k_ hk));(case aO => exact (by (with_reducible repeat (first|apply Kd.R_alloc|apply Kd.R_drewN|apply Kd.R_drew));exact Kd.R_mono HO_4.out (fun _ hk => hk.2)));(case aS => exact (below_size (by repeat (first|(with_reducible first|exact HB.out|apply below_alloc|apply pw_below_drewN|apply below_drew1)|exact HB.out))));(case aL => have:=LMc19.out;omega);intro v198 w21 ho hb hg hat;rw [← Ny197.out] at ho;have n0_:=Aside0.mk (Kd.R_after (ok:=(fun _ => True)) (by (with_reducible repeat (first|apply Kd.R_alloc|apply Kd.R_drewN|apply Kd.R_drew));exact HO196.out) hg hat);have n1_:=Aside0.mk (hb);have n2_:=Aside0.mk (ho);clear HO196;clear HB;clear HO_4;have HO196:=n0_;have HB:=n1_;have HO199:=n2_;clear n0_ n1_ n2_;clear ho hb hg hat))
         go_roundg k1
         case measure => have:=HK1.out;omega
         case rel => exact ⟨(x0_1.extract (t181:Int).toNat x0_1.size),(y197),(by first|rfl|(simp;done)|(simp [*];done)),H',⟨by have:=HK1.out;omega⟩,⟨by (with_reducible repeat (first|apply Kd.R_alloc|apply Kd.R_drewN|apply Kd.R_drew));exact Kd.R_mono HO199.out (fun _ hk => trivial)⟩,⟨by repeat (first|(with_reducible first|exact HB.out|apply below_alloc|apply pw_below_drewN|apply below_drew1)|exact HB.out)⟩⟩
        ·rw [if_neg c19] at H
         exact absurd H (by simp)
      ·rw [if_neg c6] at H
       exact absurd H (by simp)
     ·rw [if_neg c5] at H
      exact absurd H (by simp)
   ·rw [if_neg c2] at H
    have c2b0:decide (0 < (x0_1.size:Int))=false:=decide_eq_false c2
    have c2b1:decide (0 < x0_1.size)=false:=decide_eq_false (by omega)
    clear c2
    simp only [Option.some.injEq,Prod.mk.injEq] at H
    obtain ⟨rfl,rfl⟩:=H
    go_wp2
    go_ret2
    exact ⟨_,by first|rfl|(simp [errW_none,errW_some] <;> rfl)|(simp [*,errW_none,errW_some] <;> rfl),by (with_reducible repeat (first|apply Kd.R_alloc|apply Kd.R_drewN|apply Kd.R_drew));exact HO_4.out,by repeat (first|(with_reducible first|exact HB.out|apply below_alloc|apply pw_below_drewN|apply below_drew1)|exact HB.out)⟩
end Go.Proofs.YtglnhkgodgjepaaDoor.Px
namespace Go.Proofs.YtglnhkgodgjepaaDoor.Px
open Go.RowKit Go.Proofs.YtglnhkgodgjepaaDoorW.PrintWords Go.Proofs.YtglnhkgodgjepaaDoorW.PrintLast Go.Proofs.YtglnhkgodgjepaaDoorW.PrintMore
attribute [local go_sem] max2_int min2_int max_two min_two max_three min_three max_four min_four
set_option linter.unusedVariables false
set_option linter.unusedSimpArgs false
def understudyref04_bare.j0:Nat→Int→Bool→Int→ByteArray→Int→Int→Int→Option (Bool)
 | 0,_,_,_,_,_,_,_ => none
 | k + 1,x4,x20,x201000,x201001,x201002,x201003,x201004 => if x20=true then (if x201001.toList=([]:List UInt8) then (if x201003=0 then (some (x201004==0)) else (some false)) else (some false)) else (if x4=7 then (if x201001.toList=([]:List UInt8) then (if x201002=0 then (some (x201004==0)) else (some false)) else (some false)) else (if x201001.toList=([]:List UInt8) then (some (x201002==0)) else (some false)))
def understudyref04_bare.f (k:Nat) (a0_0:Int) (a0_1:ByteArray) (a0_2:Int) (a0_3:Int) (a0_4:Int):Option (Bool):=if a0_0=1 then (if a0_2=0 then (if a0_3=0 then (some (a0_4==0)) else (some false)) else (some false)) else (if a0_0=3 then (understudyref04_bare.j0 k a0_0 (a0_0==3) a0_0 a0_1 a0_2 a0_3 a0_4) else (understudyref04_bare.j0 k a0_0 (a0_0==5) a0_0 a0_1 a0_2 a0_3 a0_4))
theorem understudyref04_bare.mono_l:∀ k,(∀ y0 y1 y2 y3 y4 y5 y6,LeO (understudyref04_bare.j0 k y0 y1 y2 y3 y4 y5 y6) (understudyref04_bare.j0 (k + 1) y0 y1 y2 y3 y4 y5 y6))
 | 0 => fun _ _ _ _ _ _ _ r h => by simp [understudyref04_bare.j0] at h
 | k + 1 => by
  have ih0:=understudyref04_bare.mono_l k
  ·intro y0 y1 y2 y3 y4 y5 y6
   unfold understudyref04_bare.j0
   repeat' first
   | (with_reducible exact ih0 _ _ _ _ _ _ _)
   | (with_reducible exact LeO.refl _)
   | (with_reducible exact LeO.none _)
   | (with_reducible refine LeO.ite ?_ ?_)
   | (with_reducible refine LeO.bind ?_ (fun _ => ?_))
   | exact ih0 _ _ _ _ _ _ _
   | exact LeO.none _
   | refine LeO.ite ?_ ?_
   | refine LeO.bind ?_ (fun _ => ?_)
theorem understudyref04_bare.mono:∀ a0 a1 a2 a3 a4 k,LeO (understudyref04_bare.f k a0 a1 a2 a3 a4) (understudyref04_bare.f (k + 1) a0 a1 a2 a3 a4):=by
 intro a0 a1 a2 a3 a4 k
 have ih0:=understudyref04_bare.mono_l k
 unfold understudyref04_bare.f
 repeat' first
   | (with_reducible exact ih0 _ _ _ _ _ _ _)
   | (with_reducible exact LeO.refl _)
   | (with_reducible exact LeO.none _)
   | (with_reducible refine LeO.ite ?_ ?_)
   | (with_reducible refine LeO.bind ?_ (fun _ => ?_))
   | exact ih0 _ _ _ _ _ _ _
   | exact LeO.none _
   | refine LeO.ite ?_ ?_
   | refine LeO.bind ?_ (fun _ => ?_)
set_option maxHeartbeats 80000000 in
set_option maxRecDepth 100000 in
theorem understudyref04_bare.calls (k:Nat) (a0_0:Int) (a0_1:ByteArray) (a0_2:Int) (a0_3:Int) (a0_4:Int) (r:Bool) (w:World) (h:understudyref04_bare.f k a0_0 a0_1 a0_2 a0_3 a0_4=some r) :
  Calls Tryd.prog 43 #[.agg #[.int .i64 a0_0,.string a0_1,.int .i64 a0_2,.int .i64 a0_3,.int .i64 a0_4]] w fun e w' => e=.returned (.bool r)∧Below w.heap.size w w':=by
 have hu33:=Tryd.underlying33
 have HB:=Aside0.mk (Below.refl w.heap.size w)
 have H:(if a0_0=1 then (if a0_2=0 then (if a0_3=0 then (some (a0_4==0)) else (some false)) else (some false)) else (if a0_0=3 then (understudyref04_bare.j0 k a0_0 (a0_0==3) a0_0 a0_1 a0_2 a0_3 a0_4) else (understudyref04_bare.j0 k a0_0 (a0_0==5) a0_0 a0_1 a0_2 a0_3 a0_4)))=some r:=h
 clear h
 by_cases c2:a0_0=1
 ·rw [if_pos c2] at H
  have c2b0:(a0_0==1)=true:=beq_iff_eq.mpr c2
  have c2b1:(a0_0 != 1)=false:=bne_eq_false_iff_eq.mpr c2
  clear c2
  by_cases c3:a0_2=0
  ·rw [if_pos c3] at H
   have c3b0:(a0_2==0)=true:=beq_iff_eq.mpr c3
   have c3b1:(a0_2 != 0)=false:=bne_eq_false_iff_eq.mpr c3
   clear c3
   by_cases c4:a0_3=0
   ·rw [if_pos c4] at H
    have c4b0:(a0_3==0)=true:=beq_iff_eq.mpr c4
    have c4b1:(a0_3 != 0)=false:=bne_eq_false_iff_eq.mpr c4
    clear c4
    obtain rfl:=Option.some.inj H
    go_enter Tryd.func43,Tryd.ntmps43
    go_wp2_with (first|((with_reducible refine gate_dst (N:=1) rfl ?_);refine box_event ?hg (N:=1) ?hd (cs:=#[.int .i64 a0_0,.string a0_1,.int .i64 a0_2,.int .i64 a0_3,.int .i64 a0_4]) (t:=33) ?hr ?_;(case hd => rfl);(case hg => rfl);(case hr => first|(go_simp;done)|(go_simp;rfl));intro gb200 hg w5 hbox hb;have n0_:=Aside0.mk (below_step (by repeat (first|(with_reducible first|exact HB.out|apply below_alloc|apply pw_below_drewN|apply below_drew1)|exact HB.out)) hb);have n1_:=Aside0.mk (hbox);have n2_:=Aside0.mk ((by rw [hg];exact (below_size (by repeat (first|(with_reducible first|exact HB.out|apply below_alloc|apply pw_below_drewN|apply below_drew1)|exact HB.out))):w.heap.size≤gb200));have n3_:=Aside0.mk ((by rw [hg];exact (below_size (by repeat (first|(with_reducible first|exact HB.out|apply below_alloc|apply pw_below_drewN|apply below_drew1)|exact HB.out))):w.heap.size≤gb200));clear HB;have HB:=n0_;have BK200:=n1_;have GW200:=n2_;have GE200:=n3_;clear n0_ n1_ n2_ n3_;clear hb hbox hg;have hcz6_0:w5.cell? ⟨gb200,0,none⟩=some (.int .i64 a0_0):=(blk_cell BK200.out 0).trans rfl;have hcz6_1:w5.cell? ⟨gb200,1,none⟩=some (.string a0_1):=(blk_cell BK200.out 1).trans rfl;have hcz6_2:w5.cell? ⟨gb200,2,none⟩=some (.int .i64 a0_2):=(blk_cell BK200.out 2).trans rfl;have hcz6_3:w5.cell? ⟨gb200,3,none⟩=some (.int .i64 a0_3):=(blk_cell BK200.out 3).trans rfl;have hcz6_4:w5.cell? ⟨gb200,4,none⟩=some (.int .i64 a0_4):=(blk_cell BK200.out 4).trans rfl;have hfz6_0:=blk_frozen BK200.out 0;have hfz6_1:=blk_frozen BK200.out 1;have hfz6_2:=blk_frozen BK200.out 2;have hfz6_3:=blk_frozen BK200.out 3;have hfz6_4:=blk_frozen BK200.out 4))
    go_ret
    exact ⟨by first|rfl|(simp [errW_none,errW_some] <;> rfl)|(simp [*,errW_none,errW_some] <;> rfl),by repeat (first|(with_reducible first|exact HB.out|apply below_alloc|apply pw_below_drewN|apply below_drew1|refine below_set ?_ GE200.out)|exact HB.out)⟩
   ·rw [if_neg c4] at H
    have c4b0:(a0_3==0)=false:=beq_eq_false_iff_ne.mpr c4
    have c4b1:(a0_3 != 0)=true:=bne_iff_ne.mpr c4
    obtain rfl:=Option.some.inj H
    go_enter Tryd.func43,Tryd.ntmps43
    go_wp2_with (first|((with_reducible refine gate_dst (N:=1) rfl ?_);refine box_event ?hg (N:=1) ?hd (cs:=#[.int .i64 a0_0,.string a0_1,.int .i64 a0_2,.int .i64 a0_3,.int .i64 a0_4]) (t:=33) ?hr ?_;(case hd => rfl);(case hg => rfl);(case hr => first|(go_simp;done)|(go_simp;rfl));intro gb200 hg w7 hbox hb;have n0_:=Aside0.mk (below_step (by repeat (first|(with_reducible first|exact HB.out|apply below_alloc|apply pw_below_drewN|apply below_drew1)|exact HB.out)) hb);have n1_:=Aside0.mk (hbox);have n2_:=Aside0.mk ((by rw [hg];exact (below_size (by repeat (first|(with_reducible first|exact HB.out|apply below_alloc|apply pw_below_drewN|apply below_drew1)|exact HB.out))):w.heap.size≤gb200));have n3_:=Aside0.mk ((by rw [hg];exact (below_size (by repeat (first|(with_reducible first|exact HB.out|apply below_alloc|apply pw_below_drewN|apply below_drew1)|exact HB.out))):w.heap.size≤gb200));clear HB;have HB:=n0_;have BK200:=n1_;have GW200:=n2_;have GE200:=n3_;clear n0_ n1_ n2_ n3_;clear hb hbox hg;have hcz8_0:w7.cell? ⟨gb200,0,none⟩=some (.int .i64 a0_0):=(blk_cell BK200.out 0).trans rfl;have hcz8_1:w7.cell? ⟨gb200,1,none⟩=some (.string a0_1):=(blk_cell BK200.out 1).trans rfl;have hcz8_2:w7.cell? ⟨gb200,2,none⟩=some (.int .i64 a0_2):=(blk_cell BK200.out 2).trans rfl;have hcz8_3:w7.cell? ⟨gb200,3,none⟩=some (.int .i64 a0_3):=(blk_cell BK200.out 3).trans rfl;have hcz8_4:w7.cell? ⟨gb200,4,none⟩=some (.int .i64 a0_4):=(blk_cell BK200.out 4).trans rfl;have hfz8_0:=blk_frozen BK200.out 0;have hfz8_1:=blk_frozen BK200.out 1;have hfz8_2:=blk_frozen BK200.out 2;have hfz8_3:=blk_frozen BK200.out 3;have hfz8_4:=blk_frozen BK200.out 4))
    go_ret
    exact ⟨by first|rfl|(simp [errW_none,errW_some] <;> rfl)|(simp [*,errW_none,errW_some] <;> rfl),by repeat (first|(with_reducible first|exact HB.out|apply below_alloc|apply pw_below_drewN|apply below_drew1|refine below_set ?_ GE200.out)|exact HB.out)⟩
  ·rw [if_neg c3] at H
   have c3b0:(a0_2==0)=false:=beq_eq_false_iff_ne.mpr c3
   have c3b1:(a0_2 != 0)=true:=bne_iff_ne.mpr c3
   obtain rfl:=Option.some.inj H
   go_enter Tryd.func43,Tryd.ntmps43
   go_wp2_with (first|((with_reducible refine gate_dst (N:=1) rfl ?_);refine box_event ?hg (N:=1) ?hd (cs:=#[.int .i64 a0_0,.string a0_1,.int .i64 a0_2,.int .i64 a0_3,.int .i64 a0_4]) (t:=33) ?hr ?_;(case hd => rfl);(case hg => rfl);(case hr => first|(go_simp;done)|(go_simp;rfl));intro gb200 hg w9 hbox hb;have n0_:=Aside0.mk (below_step (by repeat (first|(with_reducible first|exact HB.out|apply below_alloc|apply pw_below_drewN|apply below_drew1)|exact HB.out)) hb);have n1_:=Aside0.mk (hbox);have n2_:=Aside0.mk ((by rw [hg];exact (below_size (by repeat (first|(with_reducible first|exact HB.out|apply below_alloc|apply pw_below_drewN|apply below_drew1)|exact HB.out))):w.heap.size≤gb200));have n3_:=Aside0.mk ((by rw [hg];exact (below_size (by repeat (first|(with_reducible first|exact HB.out|apply below_alloc|apply pw_below_drewN|apply below_drew1)|exact HB.out))):w.heap.size≤gb200));clear HB;have HB:=n0_;have BK200:=n1_;have GW200:=n2_;have GE200:=n3_;clear n0_ n1_ n2_ n3_;clear hb hbox hg;have hcz10_0:w9.cell? ⟨gb200,0,none⟩=some (.int .i64 a0_0):=(blk_cell BK200.out 0).trans rfl;have hcz10_1:w9.cell? ⟨gb200,1,none⟩=some (.string a0_1):=(blk_cell BK200.out 1).trans rfl;have hcz10_2:w9.cell? ⟨gb200,2,none⟩=some (.int .i64 a0_2):=(blk_cell BK200.out 2).trans rfl;have hcz10_3:w9.cell? ⟨gb200,3,none⟩=some (.int .i64 a0_3):=(blk_cell BK200.out 3).trans rfl;have hcz10_4:w9.cell? ⟨gb200,4,none⟩=some (.int .i64 a0_4):=(blk_cell BK200.out 4).trans rfl;have hfz10_0:=blk_frozen BK200.out 0;have hfz10_1:=blk_frozen BK200.out 1;have hfz10_2:=blk_frozen BK200.out 2;have hfz10_3:=blk_frozen BK200.out 3;have hfz10_4:=blk_frozen BK200.out 4))
   go_ret
   exact ⟨by first|rfl|(simp [errW_none,errW_some] <;> rfl)|(simp [*,errW_none,errW_some] <;> rfl),by repeat (first|(with_reducible first|exact HB.out|apply below_alloc|apply pw_below_drewN|apply below_drew1|refine below_set ?_ GE200.out)|exact HB.out)⟩
 ·rw [if_neg c2] at H
  have c2b0:(a0_0==1)=false:=beq_eq_false_iff_ne.mpr c2
  have c2b1:(a0_0 != 1)=true:=bne_iff_ne.mpr c2
  have HC11:=Aside0.mk H
  clear H
  go_enter Tryd.func43,Tryd.ntmps43
  go_upto_if 20 with (first|((with_reducible refine gate_dst (N:=1) rfl ?_);refine box_event ?hg (N:=1) ?hd (cs:=#[.int .i64 a0_0,.string a0_1,.int .i64 a0_2,.int .i64 a0_3,.int .i64 a0_4]) (t:=33) ?hr ?_;(case hd => rfl);(case hg => rfl);(case hr => first|(go_simp;done)|(go_simp;rfl));intro gb200 hg w12 hbox hb;have n0_:=Aside0.mk (below_step (by repeat (first|(with_reducible first|exact HB.out|apply below_alloc|apply pw_below_drewN|apply below_drew1)|exact HB.out)) hb);have n1_:=Aside0.mk (hbox);have n2_:=Aside0.mk ((by rw [hg];exact (below_size (by repeat (first|(with_reducible first|exact HB.out|apply below_alloc|apply pw_below_drewN|apply below_drew1)|exact HB.out))):w.heap.size≤gb200));have n3_:=Aside0.mk ((by rw [hg];exact (below_size (by repeat (first|(with_reducible first|exact HB.out|apply below_alloc|apply pw_below_drewN|apply below_drew1)|exact HB.out))):w.heap.size≤gb200));clear HB;have HB:=n0_;have BK200:=n1_;have GW200:=n2_;have GE200:=n3_;clear n0_ n1_ n2_ n3_;clear hb hbox hg;have hcz13_0:w12.cell? ⟨gb200,0,none⟩=some (.int .i64 a0_0):=(blk_cell BK200.out 0).trans rfl;have hcz13_1:w12.cell? ⟨gb200,1,none⟩=some (.string a0_1):=(blk_cell BK200.out 1).trans rfl;have hcz13_2:w12.cell? ⟨gb200,2,none⟩=some (.int .i64 a0_2):=(blk_cell BK200.out 2).trans rfl;have hcz13_3:w12.cell? ⟨gb200,3,none⟩=some (.int .i64 a0_3):=(blk_cell BK200.out 3).trans rfl;have hcz13_4:w12.cell? ⟨gb200,4,none⟩=some (.int .i64 a0_4):=(blk_cell BK200.out 4).trans rfl;have hfz13_0:=blk_frozen BK200.out 0;have hfz13_1:=blk_frozen BK200.out 1;have hfz13_2:=blk_frozen BK200.out 2;have hfz13_3:=blk_frozen BK200.out 3;have hfz13_4:=blk_frozen BK200.out 4))
  (try simp only [Act.put,List.setIfInBounds_toArray,List.set_cons_zero,List.set_cons_succ])
  go_cut [20] (fun v20 wc => ∃ (kq:Nat) (x20_10:Bool),v20=.bool x20_10∧Aside0 (understudyref04_bare.j0 kq a0_0 x20_10 a0_0 a0_1 a0_2 a0_3 a0_4=some r)∧Aside0 (kq≤k)∧Aside0 (wc.heap[gb200]?=some (.cells #[.int .i64 a0_0,.string a0_1,.int .i64 a0_2,.int .i64 a0_3,.int .i64 a0_4] 33 (0,0)))∧Aside0 (Below w.heap.size w wc))
  case first =>
   have H:=HC11.out
   clear HC11
   by_cases c14:a0_0=3
   ·rw [if_pos c14] at H
    have c14b0:(a0_0==3)=true:=beq_iff_eq.mpr c14
    have c14b1:(a0_0 != 3)=false:=bne_eq_false_iff_eq.mpr c14
    clear c14
    (first|rw [c14b0]|(simp only [i64_w,i32_w];rw [c14b0])|skip)
    have H':=Aside0.mk H
    clear H
    go_wp2
    go_meet
    case rel => exact ⟨_,((a0_0==3)),(by first|rfl|(simp;done)|(simp [*];done)),H',⟨by first|omega|exact Nat.le_refl _⟩,⟨by (with_reducible repeat (first|refine blk_drewN ?_ _|refine blk_drew ?_|refine blk_alloc ?_ _));exact BK200.out⟩,⟨by repeat (first|(with_reducible first|exact HB.out|apply below_alloc|apply pw_below_drewN|apply below_drew1|refine below_set ?_ GE200.out)|exact HB.out)⟩⟩
   ·rw [if_neg c14] at H
    have c14b0:(a0_0==3)=false:=beq_eq_false_iff_ne.mpr c14
    have c14b1:(a0_0 != 3)=true:=bne_iff_ne.mpr c14
    (first|rw [c14b0]|(simp only [i64_w,i32_w];rw [c14b0])|skip)
    have H':=Aside0.mk H
    clear H
    go_wp2
    go_meet
    case rel => exact ⟨_,((a0_0==5)),(by first|rfl|(simp;done)|(simp [*];done)),H',⟨by first|omega|exact Nat.le_refl _⟩,⟨by (with_reducible repeat (first|refine blk_drewN ?_ _|refine blk_drew ?_|refine blk_alloc ?_ _));exact BK200.out⟩,⟨by repeat (first|(with_reducible first|exact HB.out|apply below_alloc|apply pw_below_drewN|apply below_drew1|refine below_set ?_ GE200.out)|exact HB.out)⟩⟩
  case rest =>
   clear HC11
   try clear c1;try clear c2;try clear c2b0;try clear c2b1;try clear p2;try clear c3;try clear c3b0;try clear c3b1;try clear c4;try clear c4b0;try clear c4b1;try clear c14;try clear c14b0;try clear c14b1;try clear hcz10_0;try clear hcz10_1;try clear hcz10_2;try clear hcz10_3;try clear hcz10_4;try clear hcz13_0;try clear hcz13_1;try clear hcz13_2;try clear hcz13_3;try clear hcz13_4;try clear hcz6_0;try clear hcz6_1;try clear hcz6_2;try clear hcz6_3;try clear hcz6_4;try clear hcz8_0;try clear hcz8_1;try clear hcz8_2;try clear hcz8_3;try clear hcz8_4;try clear hfz10_0;try clear hfz10_1;try clear hfz10_2;try clear hfz10_3;try clear hfz10_4;try clear hfz13_0;try clear hfz13_1;try clear hfz13_2;try clear hfz13_3;try clear hfz13_4;try clear hfz6_0;try clear hfz6_1;try clear hfz6_2;try clear hfz6_3;try clear hfz6_4;try clear hfz8_0;try clear hfz8_1;try clear hfz8_2;try clear hfz8_3;try clear hfz8_4
   obtain ⟨kq,x20_10,rfl,HA,HJ10,BK200,HB⟩:=hcut
   cases kq with
   | zero => exact absurd HA.out (by simp [understudyref04_bare.j0])
   | succ kj10 =>
    have H:=HA.out
    clear HA
    simp only [understudyref04_bare.j0] at H
    by_cases c15:x20_10=true
    ·subst c15
     have H1:(if a0_1.toList=([]:List UInt8) then (if a0_3=0 then (some (a0_4==0)) else (some false)) else (some false))=some r:=by rw [if_pos rfl] at H;exact H
     clear H
     have H:=H1
     clear H1
     by_cases c16:a0_1.toList=([]:List UInt8)
     ·rw [if_pos c16] at H
      have c16b0:(a0_1.toList==([]:List UInt8))=true:=beq_iff_eq.mpr c16
      have c16b1:(a0_1.toList != ([]:List UInt8))=false:=bne_eq_false_iff_eq.mpr c16
      clear c16
      by_cases c17:a0_3=0
      ·rw [if_pos c17] at H
       have c17b0:(a0_3==0)=true:=beq_iff_eq.mpr c17
       have c17b1:(a0_3 != 0)=false:=bne_eq_false_iff_eq.mpr c17
       clear c17
       obtain rfl:=Option.some.inj H
       have hcz18_0:wc.cell? ⟨gb200,0,none⟩=some (.int .i64 a0_0):=(blk_cell BK200.out 0).trans rfl
       have hcz18_1:wc.cell? ⟨gb200,1,none⟩=some (.string a0_1):=(blk_cell BK200.out 1).trans rfl
       have hcz18_2:wc.cell? ⟨gb200,2,none⟩=some (.int .i64 a0_2):=(blk_cell BK200.out 2).trans rfl
       have hcz18_3:wc.cell? ⟨gb200,3,none⟩=some (.int .i64 a0_3):=(blk_cell BK200.out 3).trans rfl
       have hcz18_4:wc.cell? ⟨gb200,4,none⟩=some (.int .i64 a0_4):=(blk_cell BK200.out 4).trans rfl
       have hfz18_0:=blk_frozen BK200.out 0
       have hfz18_1:=blk_frozen BK200.out 1
       have hfz18_2:=blk_frozen BK200.out 2
       have hfz18_3:=blk_frozen BK200.out 3
       have hfz18_4:=blk_frozen BK200.out 4
       go_wp2
       go_ret
       exact ⟨by first|rfl|(simp [errW_none,errW_some] <;> rfl)|(simp [*,errW_none,errW_some] <;> rfl),by repeat (first|(with_reducible first|exact HB.out|apply below_alloc|apply pw_below_drewN|apply below_drew1|refine below_set ?_ GE200.out)|exact HB.out)⟩
      ·rw [if_neg c17] at H
       have c17b0:(a0_3==0)=false:=beq_eq_false_iff_ne.mpr c17
       have c17b1:(a0_3 != 0)=true:=bne_iff_ne.mpr c17
       obtain rfl:=Option.some.inj H
       have hcz19_0:wc.cell? ⟨gb200,0,none⟩=some (.int .i64 a0_0):=(blk_cell BK200.out 0).trans rfl
       have hcz19_1:wc.cell? ⟨gb200,1,none⟩=some (.string a0_1):=(blk_cell BK200.out 1).trans rfl
       have hcz19_2:wc.cell? ⟨gb200,2,none⟩=some (.int .i64 a0_2):=(blk_cell BK200.out 2).trans rfl
       have hcz19_3:wc.cell? ⟨gb200,3,none⟩=some (.int .i64 a0_3):=(blk_cell BK200.out 3).trans rfl
       have hcz19_4:wc.cell? ⟨gb200,4,none⟩=some (.int .i64 a0_4):=(blk_cell BK200.out 4).trans rfl
       have hfz19_0:=blk_frozen BK200.out 0
       have hfz19_1:=blk_frozen BK200.out 1
       have hfz19_2:=blk_frozen BK200.out 2
       have hfz19_3:=blk_frozen BK200.out 3
       have hfz19_4:=blk_frozen BK200.out 4
       go_wp2
       go_ret
       exact ⟨by first|rfl|(simp [errW_none,errW_some] <;> rfl)|(simp [*,errW_none,errW_some] <;> rfl),by repeat (first|(with_reducible first|exact HB.out|apply below_alloc|apply pw_below_drewN|apply below_drew1|refine below_set ?_ GE200.out)|exact HB.out)⟩
     ·rw [if_neg c16] at H
      have c16b0:(a0_1.toList==([]:List UInt8))=false:=beq_eq_false_iff_ne.mpr c16
      have c16b1:(a0_1.toList != ([]:List UInt8))=true:=bne_iff_ne.mpr c16
      obtain rfl:=Option.some.inj H
      have hcz20_0:wc.cell? ⟨gb200,0,none⟩=some (.int .i64 a0_0):=(blk_cell BK200.out 0).trans rfl
      have hcz20_1:wc.cell? ⟨gb200,1,none⟩=some (.string a0_1):=(blk_cell BK200.out 1).trans rfl
      have hcz20_2:wc.cell? ⟨gb200,2,none⟩=some (.int .i64 a0_2):=(blk_cell BK200.out 2).trans rfl
      have hcz20_3:wc.cell? ⟨gb200,3,none⟩=some (.int .i64 a0_3):=(blk_cell BK200.out 3).trans rfl
      have hcz20_4:wc.cell? ⟨gb200,4,none⟩=some (.int .i64 a0_4):=(blk_cell BK200.out 4).trans rfl
      have hfz20_0:=blk_frozen BK200.out 0
      have hfz20_1:=blk_frozen BK200.out 1
      have hfz20_2:=blk_frozen BK200.out 2
      have hfz20_3:=blk_frozen BK200.out 3
      have hfz20_4:=blk_frozen BK200.out 4
      go_wp2
      go_ret
      exact ⟨by first|rfl|(simp [errW_none,errW_some] <;> rfl)|(simp [*,errW_none,errW_some] <;> rfl),by repeat (first|(with_reducible first|exact HB.out|apply below_alloc|apply pw_below_drewN|apply below_drew1|refine below_set ?_ GE200.out)|exact HB.out)⟩
    ·replace c15:=Bool.eq_false_iff.mpr c15
     subst c15
     have H1:(if a0_0=7 then (if a0_1.toList=([]:List UInt8) then (if a0_2=0 then (some (a0_4==0)) else (some false)) else (some false)) else (if a0_1.toList=([]:List UInt8) then (some (a0_2==0)) else (some false)))=some r:=by rw [if_neg (show ¬ (false=true) by decide)] at H;exact H
     clear H
     have H:=H1
     clear H1
     by_cases c21:a0_0=7
     ·rw [if_pos c21] at H
      have c21b0:(a0_0==7)=true:=beq_iff_eq.mpr c21
      have c21b1:(a0_0 != 7)=false:=bne_eq_false_iff_eq.mpr c21
      clear c21
      by_cases c22:a0_1.toList=([]:List UInt8)
      ·rw [if_pos c22] at H
       have c22b0:(a0_1.toList==([]:List UInt8))=true:=beq_iff_eq.mpr c22
       have c22b1:(a0_1.toList != ([]:List UInt8))=false:=bne_eq_false_iff_eq.mpr c22
       clear c22
       by_cases c23:a0_2=0
       ·rw [if_pos c23] at H
        have c23b0:(a0_2==0)=true:=beq_iff_eq.mpr c23
        have c23b1:(a0_2 != 0)=false:=bne_eq_false_iff_eq.mpr c23
        clear c23
        obtain rfl:=Option.some.inj H
        have hcz24_0:wc.cell? ⟨gb200,0,none⟩=some (.int .i64 a0_0):=(blk_cell BK200.out 0).trans rfl
        have hcz24_1:wc.cell? ⟨gb200,1,none⟩=some (.string a0_1):=(blk_cell BK200.out 1).trans rfl
        have hcz24_2:wc.cell? ⟨gb200,2,none⟩=some (.int .i64 a0_2):=(blk_cell BK200.out 2).trans rfl
        have hcz24_3:wc.cell? ⟨gb200,3,none⟩=some (.int .i64 a0_3):=(blk_cell BK200.out 3).trans rfl
        have hcz24_4:wc.cell? ⟨gb200,4,none⟩=some (.int .i64 a0_4):=(blk_cell BK200.out 4).trans rfl
        have hfz24_0:=blk_frozen BK200.out 0
        have hfz24_1:=blk_frozen BK200.out 1
        have hfz24_2:=blk_frozen BK200.out 2
        have hfz24_3:=blk_frozen BK200.out 3
        have hfz24_4:=blk_frozen BK200.out 4
        go_wp2
        go_ret
        exact ⟨by first|rfl|(simp [errW_none,errW_some] <;> rfl)|(simp [*,errW_none,errW_some] <;> rfl),by repeat (first|(with_reducible first|exact HB.out|apply below_alloc|apply pw_below_drewN|apply below_drew1|refine below_set ?_ GE200.out)|exact HB.out)⟩
       ·rw [if_neg c23] at H
        have c23b0:(a0_2==0)=false:=beq_eq_false_iff_ne.mpr c23
        have c23b1:(a0_2 != 0)=true:=bne_iff_ne.mpr c23
        obtain rfl:=Option.some.inj H
        have hcz25_0:wc.cell? ⟨gb200,0,none⟩=some (.int .i64 a0_0):=(blk_cell BK200.out 0).trans rfl
        have hcz25_1:wc.cell? ⟨gb200,1,none⟩=some (.string a0_1):=(blk_cell BK200.out 1).trans rfl
        have hcz25_2:wc.cell? ⟨gb200,2,none⟩=some (.int .i64 a0_2):=(blk_cell BK200.out 2).trans rfl
        have hcz25_3:wc.cell? ⟨gb200,3,none⟩=some (.int .i64 a0_3):=(blk_cell BK200.out 3).trans rfl
        have hcz25_4:wc.cell? ⟨gb200,4,none⟩=some (.int .i64 a0_4):=(blk_cell BK200.out 4).trans rfl
        have hfz25_0:=blk_frozen BK200.out 0
        have hfz25_1:=blk_frozen BK200.out 1
        have hfz25_2:=blk_frozen BK200.out 2
        have hfz25_3:=blk_frozen BK200.out 3
        have hfz25_4:=blk_frozen BK200.out 4
        go_wp2
        go_ret
        exact ⟨by first|rfl|(simp [errW_none,errW_some] <;> rfl)|(simp [*,errW_none,errW_some] <;> rfl),by repeat (first|(with_reducible first|exact HB.out|apply below_alloc|apply pw_below_drewN|apply below_drew1|refine below_set ?_ GE200.out)|exact HB.out)⟩
      ·rw [if_neg c22] at H
       have c22b0:(a0_1.toList==([]:List UInt8))=false:=beq_eq_false_iff_ne.mpr c22
       have c22b1:(a0_1.toList != ([]:List UInt8))=true:=bne_iff_ne.mpr c22
       obtain rfl:=Option.some.inj H
       have hcz26_0:wc.cell? ⟨gb200,0,none⟩=some (.int .i64 a0_0):=(blk_cell BK200.out 0).trans rfl
       have hcz26_1:wc.cell? ⟨gb200,1,none⟩=some (.string a0_1):=(blk_cell BK200.out 1).trans rfl
       have hcz26_2:wc.cell? ⟨gb200,2,none⟩=some (.int .i64 a0_2):=(blk_cell BK200.out 2).trans rfl
       have hcz26_3:wc.cell? ⟨gb200,3,none⟩=some (.int .i64 a0_3):=(blk_cell BK200.out 3).trans rfl
       have hcz26_4:wc.cell? ⟨gb200,4,none⟩=some (.int .i64 a0_4):=(blk_cell BK200.out 4).trans rfl
       have hfz26_0:=blk_frozen BK200.out 0
       have hfz26_1:=blk_frozen BK200.out 1
       have hfz26_2:=blk_frozen BK200.out 2
       have hfz26_3:=blk_frozen BK200.out 3
       have hfz26_4:=blk_frozen BK200.out 4
       go_wp2
       go_ret
       exact ⟨by first|rfl|(simp [errW_none,errW_some] <;> rfl)|(simp [*,errW_none,errW_some] <;> rfl),by repeat (first|(with_reducible first|exact HB.out|apply below_alloc|apply pw_below_drewN|apply below_drew1|refine below_set ?_ GE200.out)|exact HB.out)⟩
     ·rw [if_neg c21] at H
      have c21b0:(a0_0==7)=false:=beq_eq_false_iff_ne.mpr c21
      have c21b1:(a0_0 != 7)=true:=bne_iff_ne.mpr c21
      by_cases c27:a0_1.toList=([]:List UInt8)
      ·rw [if_pos c27] at H
       have c27b0:(a0_1.toList==([]:List UInt8))=true:=beq_iff_eq.mpr c27
       have c27b1:(a0_1.toList != ([]:List UInt8))=false:=bne_eq_false_iff_eq.mpr c27
       clear c27
       obtain rfl:=Option.some.inj H
       have hcz28_0:wc.cell? ⟨gb200,0,none⟩=some (.int .i64 a0_0):=(blk_cell BK200.out 0).trans rfl
       have hcz28_1:wc.cell? ⟨gb200,1,none⟩=some (.string a0_1):=(blk_cell BK200.out 1).trans rfl
       have hcz28_2:wc.cell? ⟨gb200,2,none⟩=some (.int .i64 a0_2):=(blk_cell BK200.out 2).trans rfl
       have hcz28_3:wc.cell? ⟨gb200,3,none⟩=some (.int .i64 a0_3):=(blk_cell BK200.out 3).trans rfl
       have hcz28_4:wc.cell? ⟨gb200,4,none⟩=some (.int .i64 a0_4):=(blk_cell BK200.out 4).trans rfl
       have hfz28_0:=blk_frozen BK200.out 0
       have hfz28_1:=blk_frozen BK200.out 1
       have hfz28_2:=blk_frozen BK200.out 2
       have hfz28_3:=blk_frozen BK200.out 3
       have hfz28_4:=blk_frozen BK200.out 4
       go_wp2
       go_ret
       exact ⟨by first|rfl|(simp [errW_none,errW_some] <;> rfl)|(simp [*,errW_none,errW_some] <;> rfl),by repeat (first|(with_reducible first|exact HB.out|apply below_alloc|apply pw_below_drewN|apply below_drew1|refine below_set ?_ GE200.out)|exact HB.out)⟩
      ·rw [if_neg c27] at H
       have c27b0:(a0_1.toList==([]:List UInt8))=false:=beq_eq_false_iff_ne.mpr c27
       have c27b1:(a0_1.toList != ([]:List UInt8))=true:=bne_iff_ne.mpr c27
       obtain rfl:=Option.some.inj H
       have hcz29_0:wc.cell? ⟨gb200,0,none⟩=some (.int .i64 a0_0):=(blk_cell BK200.out 0).trans rfl
       have hcz29_1:wc.cell? ⟨gb200,1,none⟩=some (.string a0_1):=(blk_cell BK200.out 1).trans rfl
       have hcz29_2:wc.cell? ⟨gb200,2,none⟩=some (.int .i64 a0_2):=(blk_cell BK200.out 2).trans rfl
       have hcz29_3:wc.cell? ⟨gb200,3,none⟩=some (.int .i64 a0_3):=(blk_cell BK200.out 3).trans rfl
       have hcz29_4:wc.cell? ⟨gb200,4,none⟩=some (.int .i64 a0_4):=(blk_cell BK200.out 4).trans rfl
       have hfz29_0:=blk_frozen BK200.out 0
       have hfz29_1:=blk_frozen BK200.out 1
       have hfz29_2:=blk_frozen BK200.out 2
       have hfz29_3:=blk_frozen BK200.out 3
       have hfz29_4:=blk_frozen BK200.out 4
       go_wp2
       go_ret
       exact ⟨by first|rfl|(simp [errW_none,errW_some] <;> rfl)|(simp [*,errW_none,errW_some] <;> rfl),by repeat (first|(with_reducible first|exact HB.out|apply below_alloc|apply pw_below_drewN|apply below_drew1|refine below_set ?_ GE200.out)|exact HB.out)⟩
def understudyref04_is.f (l0:List (S33)) (a1:Int) (a2:Int):Option (Bool):=if a1 ≥ 1 then (if a1 < (l0.length:Int) then (if 0≤a1 then (some (((rd_T33 l0 a1).f0)==a2)) else (none)) else (some false)) else (some false)
set_option maxHeartbeats 80000000 in
set_option maxRecDepth 100000 in
theorem understudyref04_is.calls (A0:Option Addr) (c0:Nat) (l0:List (S33)) (a1:Int) (a2:Int) (r:Bool) (w:World) (hr0:Kd.C k33 w A0 l0.length l0) (hc0:l0.length≤c0) (h:understudyref04_is.f l0 a1 a2=some r) :
  Calls Tryd.prog 44 #[.slice A0 l0.length c0,.int .i64 a1,.int .i64 a2] w fun e w' => e=.returned (.bool r)∧Drawn0 w w':=by
 have HR0:=Aside0.mk hr0
 have HC0:=Aside0.mk hc0
 clear hr0 hc0
 have H:(if a1 ≥ 1 then (if a1 < (l0.length:Int) then (if 0≤a1 then (some (((rd_T33 l0 a1).f0)==a2)) else (none)) else (some false)) else (some false))=some r:=h
 clear h
 by_cases c4:a1 ≥ 1
 ·rw [if_pos c4] at H
  have c4b0:decide (1≤a1)=true:=decide_eq_true c4
  clear c4
  by_cases c5:a1 < (l0.length:Int)
  ·rw [if_pos c5] at H
   have c5b0:decide (a1 < (l0.length:Int))=true:=decide_eq_true c5
   clear c5
   by_cases c6:0≤a1
   ·rw [if_pos c6] at H
    have c6b0:decide (0≤a1)=true:=decide_eq_true c6
    clear c6
    obtain rfl:=Option.some.inj H
    have p201:0≤(a1:Int):=of_decide_eq_true (by first|(with_reducible assumption)|assumption)
    have q201:a1 < (l0.length:Int):=of_decide_eq_true (by first|(with_reducible assumption)|assumption)
    obtain ⟨ad201,e201,hx201_0,hx201_1,hx201_2,hx201_3,hx201_4⟩:=at_T33 HR0.out a1 p201 q201
    cases e201
    replace p201:=eq_true p201
    replace q201:=eq_true q201
    go_enter Tryd.func44,Tryd.ntmps44
    go_wp2
    go_ret
    exact ⟨by first|rfl|(simp;done)|(simp [*];done),by repeat (first|exact Drawn0.refl _|apply Drawn0.step)⟩
   ·rw [if_neg c6] at H
    exact absurd H (by simp)
  ·rw [if_neg c5] at H
   have c5b0:decide (a1 < (l0.length:Int))=false:=decide_eq_false c5
   clear c5
   obtain rfl:=Option.some.inj H
   go_enter Tryd.func44,Tryd.ntmps44
   go_wp2
   go_ret
   exact ⟨by first|rfl|(simp;done)|(simp [*];done),by repeat (first|exact Drawn0.refl _|apply Drawn0.step)⟩
 ·rw [if_neg c4] at H
  have c4b0:decide (1≤a1)=false:=decide_eq_false c4
  clear c4
  obtain rfl:=Option.some.inj H
  go_enter Tryd.func44,Tryd.ntmps44
  go_wp2
  go_ret
  exact ⟨by first|rfl|(simp;done)|(simp [*];done),by repeat (first|exact Drawn0.refl _|apply Drawn0.step)⟩
end Go.Proofs.YtglnhkgodgjepaaDoor.Px
