/- What the bound on bulk gives. -/
/- A slice of whole numbers, as the walks want it. -/
/- What a type's reading as data gives of a value: a value of the printed kinds, well formed, no bulkier than the datum. -/
/- What the struct types' readings give (by rowgen.py). -/
/- Words for wire's readers and writers. -/
/- wire.Reader: NewReader, next, Uint, Int, Bytes, At: what they read and where they stand then, as contracts over a reader's block and row. -/
/- maps.Decode's closures num and must: what they do when all is well, how they die. -/
/- What the package-level variables hold, as a fact of the world that stays as the world grows: internal/bytealg.MaxLen holds some int. -/
/- strings.Cut: what it computes, by the shelf's contract. -/
/- maps.Decode's closure one: a type of bytes. -/
import Derived.Test.YtnihihcopcoabaaRows
import Derived.Test.YtnihihcopcoabaaWSized
import Derived.WalkKit
import Derived.ProofKit
import Derived.OpenShut
import Derived.ShutString
import Derived.Test.YtnihihcopcoabaaWWords
import Derived.ChangeSlices
import Derived.Test.YtnihihcopcoabaaProg
import Derived.Below
import Derived.Deep.Draws
import Derived.Deep.AppendLies
import Derived.Maps.AppendAt
import Derived.OwnWalk
import Derived.Laws.BytesArg
import Derived.Laws.MakeOwn
import Derived.Laws.OwnMore
import Derived.Deep.OwnRows
import Derived.Tactics
import Derived.Lib.ConvBytes
import Derived.Laws.Slices
import Derived.KernelRfl
import Derived.RowKit3
import Derived.Deep.LoopGhost
import Derived.Deep.QuietTactic
import Derived.BigQuiet
import Derived.WideLaws
import Derived.Deep.DeepCutAuto
import Derived.Deep.CutBlock
import Derived.Deep.RegionHeld3
import Derived.Laws.Rows
import Derived.Lib.AppendStr
import Derived.ArgAppend
import Derived.Laws.IdiomCopy
import Derived.OrdersHeld
import Derived.Laws.BitsLemmas
import Derived.RowKit
import Derived.Test.YtnihihcopcoabaaWLast
import Derived.Test.YtnihihcopcoabaaWTab
import Derived.Test.YtnihihcopcoabaaWFour
import Derived.Test.YtnihihcopcoabaaWQPut
import Derived.Test.YtnihihcopcoabaaWApart
import Derived.Test.YtnihihcopcoabaaWArr
import Derived.Test.YtnihihcopcoabaaWZeros
import Derived.Test.YtnihihcopcoabaaWFoot
import Derived.Test.YtnihihcopcoabaaWKept
import Derived.Test.YtnihihcopcoabaaWShare
import Derived.Test.YtnihihcopcoabaaWN
import Derived.Test.YtnihihcopcoabaaWFootNe
import Derived.Test.YtnihihcopcoabaaWAt
import Derived.Test.YtnihihcopcoabaaWEqStruct
import Derived.Test.YtnihihcopcoabaaWRepsOne
import Derived.Test.YtnihihcopcoabaaWInv
import Derived.Test.YtnihihcopcoabaaWInvWords
import Derived.Test.YtnihihcopcoabaaWGuard
import Derived.Test.YtnihihcopcoabaaWNEv
import Derived.Test.YtnihihcopcoabaaWMore
import Derived.ChangeArms
import Derived.ChangeOld
import Derived.BigCall
import Derived.WalkLawsBesides
import Derived.Test.YtnihihcopcoabaaShelf
namespace Go.Proofs.Ytnihihcopcoabaa.Px
set_option linter.unusedVariables false
theorem bulk_one {H : Type} (d : DataW H) : 1 ≤ Rows.uptoBulk d := by
  cases d with
  | lit l => cases l <;> simp [Rows.uptoBulk]
  | nil => simp [Rows.uptoBulk]
  | ptr d => simp [Rows.uptoBulk]
  | slice elems spare => simp [Rows.uptoBulk]
  | agg parts => simp [Rows.uptoBulk]
  | iface t d => simp [Rows.uptoBulk]
  | map entries => simp [Rows.uptoBulk]
  | held h => simp [Rows.uptoBulk]
theorem bulk_part_le {H : Type} {d : DataW H} {l : List (DataW H)} (h : d ∈ l) : Rows.uptoBulk d ≤ Rows.uptoBulkAll l := by
  induction l with
  | nil => cases h
  | cons x r ih =>
    simp only [Rows.uptoBulkAll]
    rcases List.mem_cons.1 h with e | e
    · subst e; omega
    · have := ih e; omega
theorem bulk_length {H : Type} (l : List (DataW H)) : l.length ≤ Rows.uptoBulkAll l := by
  induction l with
  | nil => simp [Rows.uptoBulkAll]
  | cons x r ih => have := bulk_one x; simp only [Rows.uptoBulkAll, List.length_cons]; omega
theorem bulk_part {H : Type} {ds gs : List (DataW H)} {d : DataW H} (hk : Rows.uptoSmall H (ds ++ gs) = true) (hm : d ∈ ds) : Rows.uptoBulk d ≤ 1048576 := by
  have h : Rows.uptoBulkAll (ds ++ gs) ≤ 1048576 := of_decide_eq_true hk
  exact Nat.le_trans (bulk_part_le (List.mem_append_left _ hm)) h
end Go.Proofs.Ytnihihcopcoabaa.Px
namespace Go.Proofs.Ytnihihcopcoabaa.Px
open Go.RowKit Go.ChangeShapes Go.WideShapes Go.ChangeAt Go.Proofs.YtnihihcopcoabaaW.PrintWords
set_option linter.unusedVariables false
theorem int_row {H : Type} {enc : TypeId × Value → H} {P : Program} {W : World} {t e : TypeId} {k : IntKind} {a : Option Addr} {len cap : Nat} {d : DataW H} {p : List MemPlace}
    (ht : P.underlying t = some (.slice e)) (he : P.underlying e = some (.int k)) (hc : P.cellsOf e = 1) (h : DataW.Trod enc P W 0 (fun _ => true) true t (.slice a len cap) d p) :
    ∃ l : List Int, len = l.length ∧ ReadsInt W k a l.length l ∧ (∀ x ∈ l, (Lit.int k x).wf = true) ∧ l.length ≤ cap ∧ l.length ≤ maxLen ∧ ∀ B, Rows.uptoBulk d ≤ B → l.length ≤ B := by
  obtain ⟨fuel, hf⟩ := h
  rcases open_ints ht he hc hf with ⟨hcs, hx⟩ | ⟨x, l, c, zs, hcs, _, hl, hm, hz, hx, hcell, hwz⟩
  · simp [Value.cells] at hcs
    obtain ⟨rfl, rfl, rfl⟩ := hcs
    obtain ⟨l, e1, h1, h2, h3, h4⟩ := ReadsInt.ofRowC (k := k) (w := W) (zs := []) (.inl ⟨rfl, rfl, rfl, rfl⟩)
    exact ⟨l, e1, h1, h3, h4, h2, fun B _ => by omega⟩
  · simp [Value.cells] at hcs
    obtain ⟨rfl, rfl, rfl⟩ := hcs
    simp only [if_true] at hz
    obtain ⟨l, e1, h1, h2, h3, h4⟩ := ReadsInt.ofRowC (k := k) (w := W) (.inr ⟨_, rfl, hl, hm, hz, hcell, hwz⟩)
    refine ⟨l, e1, h1, h3, h4, h2, fun B hB => ?_⟩
    obtain ⟨hx, _⟩ := Prod.mk.inj hx
    subst hx
    simp only [Rows.uptoBulk] at hB
    have := bulk_length (H := H) (lits k (zs.take len))
    have e2 : (lits (H := H) k (zs.take len)).length = len := by simp [lits]; omega
    omega
end Go.Proofs.Ytnihihcopcoabaa.Px
namespace Go.Proofs.Ytnihihcopcoabaa.Px
open Go.RowKit Go.Proofs.YtnihihcopcoabaaW.PrintWords Go.Proofs.YtnihihcopcoabaaW.PrintLast Go.Proofs.YtnihihcopcoabaaW.PrintMore
attribute [local go_sem] max2_int min2_int max_two min_two max_three min_three max_four min_four
set_option linter.unusedVariables false
set_option linter.unusedSimpArgs false
def errW:Option Int→Value
 | none => .nilIface
 | some c => .iface 0 (.int .i64 c)
theorem errW_none:errW none=.nilIface:=rfl
theorem errW_some (c:Int):errW (some c)=.iface 0 (.int .i64 c):=rfl
theorem info5:(Try.prog.info? 5).map (fun i => (i.zero,i.size,i.bytes))=some (some (.int .u8 0),1,1):=by kernel_rfl
theorem info53:(Try.prog.info? 53).map (fun i => (i.zero,i.size,i.bytes))=some (some (.agg #[(.int .i64 0),(.slice none 0 0),(.slice none 0 0),(.bool false)]),4,64):=by kernel_rfl
structure S70 where
 f0:Int
 f1:ByteArray
 f2:Int
 f3:Int
 f4:Int
def z70:S70:=⟨(0:Int),(⟨#[]⟩:ByteArray),(0:Int),(0:Int),(0:Int)⟩
def k70:Kd S70:=Kd.iso (Kd.pair (Kd.int .i64) (Kd.pair Kd.string (Kd.pair (Kd.int .i64) (Kd.pair (Kd.int .i64) (Kd.int .i64))))) (fun x:S70 => (x.f0,x.f1,x.f2,x.f3,x.f4))
theorem k70_open {w:World} {x:S70} {cs:List Value} (h:k70.K w x cs):cs=[.int .i64 x.f0,.string x.f1,.int .i64 x.f2,.int .i64 x.f3,.int .i64 x.f4]:=by
 obtain ⟨_,_,rfl,rfl,⟨_,_,rfl,rfl,⟨_,_,rfl,rfl,⟨_,_,rfl,rfl,rfl⟩⟩⟩⟩:=h
 exact rfl
def rd_T70 (xs:List S70) (i:Int):S70:=xs.getD i.toNat z70
theorem at_T70 {w:World} {A:Option Addr} {n:Nat} {xs:List S70} (h:Kd.C k70 w A n xs) (i:Int) (h0:0≤i) (h1:i < n):∃ ad ,A=some ad∧w.cell? (ad.add (i.toNat * 5))=some (.int .i64 (rd_T70 xs i).f0)∧w.cell? ⟨(ad.add (i.toNat * 5)).block,(ad.add (i.toNat * 5)).off + 1,none⟩=some (.string (rd_T70 xs i).f1)∧w.cell? ⟨(ad.add (i.toNat * 5)).block,(ad.add (i.toNat * 5)).off + 2,none⟩=some (.int .i64 (rd_T70 xs i).f2)∧w.cell? ⟨(ad.add (i.toNat * 5)).block,(ad.add (i.toNat * 5)).off + 3,none⟩=some (.int .i64 (rd_T70 xs i).f3)∧w.cell? ⟨(ad.add (i.toNat * 5)).block,(ad.add (i.toNat * 5)).off + 4,none⟩=some (.int .i64 (rd_T70 xs i).f4):=by
 obtain ⟨ad,c,e,_,hK,hc0⟩:=Kd.C_get h z70 i h0 h1
 have hc:∀ j u,c[j]?=some u→w.cell? (ad.add (i.toNat * 5 + j))=some u:=hc0
 obtain rfl:=k70_open hK
 exact ⟨ad,e,hc 0 _ rfl,by rw [← add_field _ _ 1 (by omega)];exact hc 1 _ rfl,by rw [← add_field _ _ 2 (by omega)];exact hc 2 _ rfl,by rw [← add_field _ _ 3 (by omega)];exact hc 3 _ rfl,by rw [← add_field _ _ 4 (by omega)];exact hc 4 _ rfl⟩
structure S41 where
 f0:Int
 f1:ByteArray
 f2:Int
 f3:Int
 f4:Int
def z41:S41:=⟨(0:Int),(⟨#[]⟩:ByteArray),(0:Int),(0:Int),(0:Int)⟩
def k41:Kd S41:=Kd.iso (Kd.pair (Kd.int .i64) (Kd.pair Kd.string (Kd.pair (Kd.int .i64) (Kd.pair (Kd.int .i64) (Kd.int .i64))))) (fun x:S41 => (x.f0,x.f1,x.f2,x.f3,x.f4))
theorem k41_open {w:World} {x:S41} {cs:List Value} (h:k41.K w x cs):cs=[.int .i64 x.f0,.string x.f1,.int .i64 x.f2,.int .i64 x.f3,.int .i64 x.f4]:=by
 obtain ⟨_,_,rfl,rfl,⟨_,_,rfl,rfl,⟨_,_,rfl,rfl,⟨_,_,rfl,rfl,rfl⟩⟩⟩⟩:=h
 exact rfl
theorem k41_mkM (w:World) (base:Nat) (ok:Nat→Prop) (x:S41) :k41.M w base ok x [.int .i64 x.f0,.string x.f1,.int .i64 x.f2,.int .i64 x.f3,.int .i64 x.f4]:=⟨[.int .i64 x.f0],[.string x.f1,.int .i64 x.f2,.int .i64 x.f3,.int .i64 x.f4],rfl,rfl,⟨[.string x.f1],[.int .i64 x.f2,.int .i64 x.f3,.int .i64 x.f4],rfl,rfl,⟨[.int .i64 x.f2],[.int .i64 x.f3,.int .i64 x.f4],rfl,rfl,⟨[.int .i64 x.f3],[.int .i64 x.f4],rfl,rfl,rfl⟩⟩⟩⟩
def rd_T41 (xs:List S41) (i:Int):S41:=xs.getD i.toNat z41
theorem at_T41 {w:World} {A:Option Addr} {n:Nat} {xs:List S41} (h:Kd.C k41 w A n xs) (i:Int) (h0:0≤i) (h1:i < n):∃ ad ,A=some ad∧w.cell? (ad.add (i.toNat * 5))=some (.int .i64 (rd_T41 xs i).f0)∧w.cell? ⟨(ad.add (i.toNat * 5)).block,(ad.add (i.toNat * 5)).off + 1,none⟩=some (.string (rd_T41 xs i).f1)∧w.cell? ⟨(ad.add (i.toNat * 5)).block,(ad.add (i.toNat * 5)).off + 2,none⟩=some (.int .i64 (rd_T41 xs i).f2)∧w.cell? ⟨(ad.add (i.toNat * 5)).block,(ad.add (i.toNat * 5)).off + 3,none⟩=some (.int .i64 (rd_T41 xs i).f3)∧w.cell? ⟨(ad.add (i.toNat * 5)).block,(ad.add (i.toNat * 5)).off + 4,none⟩=some (.int .i64 (rd_T41 xs i).f4):=by
 obtain ⟨ad,c,e,_,hK,hc0⟩:=Kd.C_get h z41 i h0 h1
 have hc:∀ j u,c[j]?=some u→w.cell? (ad.add (i.toNat * 5 + j))=some u:=hc0
 obtain rfl:=k41_open hK
 exact ⟨ad,e,hc 0 _ rfl,by rw [← add_field _ _ 1 (by omega)];exact hc 1 _ rfl,by rw [← add_field _ _ 2 (by omega)];exact hc 2 _ rfl,by rw [← add_field _ _ 3 (by omega)];exact hc 3 _ rfl,by rw [← add_field _ _ 4 (by omega)];exact hc 4 _ rfl⟩
structure S50 where
 f0:(List S41)
 f1:(List S41)
 f2:Bool
def z50:S50:=⟨([]:List S41),([]:List S41),false⟩
def k50:Kd S50:=Kd.iso (Kd.pair (Kd.slice 41 k41) (Kd.pair (Kd.slice 41 k41) Kd.bool)) (fun x:S50 => (x.f0,x.f1,x.f2))
theorem k50_open {w:World} {x:S50} {cs:List Value} (h:k50.K w x cs):∃ A0 c0 A1 c1,cs=[.slice A0 x.f0.length c0,.slice A1 x.f1.length c1,.bool x.f2]∧x.f0.length≤c0∧k41.C w A0 x.f0.length x.f0∧x.f1.length≤c1∧k41.C w A1 x.f1.length x.f1:=by
 obtain ⟨_,_,rfl,⟨A0,c0,rfl,l0,g0⟩,⟨_,_,rfl,⟨A1,c1,rfl,l1,g1⟩,rfl⟩⟩:=h
 exact ⟨A0,c0,A1,c1,rfl,l0,g0,l1,g1⟩
theorem k50_mkM (w:World) (base:Nat) (ok:Nat→Prop) (x:S50) {v0:Value} (g0:k41.R 41 w base ok v0 x.f0) {v1:Value} (g1:k41.R 41 w base ok v1 x.f1):k50.M w base ok x [v0,v1,.bool x.f2]:=⟨[v0],[v1,.bool x.f2],rfl,⟨v0,rfl,g0⟩,⟨[v1],[.bool x.f2],rfl,⟨v1,rfl,g1⟩,rfl⟩⟩
structure S53 where
 f0:Int
 f1:S50
def z53:S53:=⟨(0:Int),z50⟩
def k53:Kd S53:=Kd.iso (Kd.pair (Kd.int .i64) k50) (fun x:S53 => (x.f0,x.f1))
theorem k53_open {w:World} {x:S53} {cs:List Value} (h:k53.K w x cs):∃ A1 c1 A2 c2,cs=[.int .i64 x.f0,.slice A1 x.f1.f0.length c1,.slice A2 x.f1.f1.length c2,.bool x.f1.f2]∧x.f1.f0.length≤c1∧k41.C w A1 x.f1.f0.length x.f1.f0∧x.f1.f1.length≤c2∧k41.C w A2 x.f1.f1.length x.f1.f1:=by
 obtain ⟨_,_,rfl,rfl,s1⟩:=h
 obtain ⟨A1,c1,A2,c2,rfl,l1,g1,l2,g2⟩:=k50_open s1
 exact ⟨A1,c1,A2,c2,rfl,l1,g1,l2,g2⟩
theorem k53_mkM (w:World) (base:Nat) (ok:Nat→Prop) (x:S53) {v1:Value} (g1:k41.R 41 w base ok v1 x.f1.f0) {v2:Value} (g2:k41.R 41 w base ok v2 x.f1.f1):k53.M w base ok x [.int .i64 x.f0,v1,v2,.bool x.f1.f2]:=⟨[.int .i64 x.f0],[v1,v2,.bool x.f1.f2],rfl,rfl,(k50_mkM w base ok x.f1 g1 g2)⟩
def rd_T53 (xs:List S53) (i:Int):S53:=xs.getD i.toNat z53
theorem at_T53 {w:World} {A:Option Addr} {n:Nat} {xs:List S53} (h:Kd.C k53 w A n xs) (i:Int) (h0:0≤i) (h1:i < n):∃ ad A1 c1 A2 c2,A=some ad∧w.cell? (ad.add (i.toNat * 4))=some (.int .i64 (rd_T53 xs i).f0)∧w.cell? ⟨(ad.add (i.toNat * 4)).block,(ad.add (i.toNat * 4)).off + 1,none⟩=some (.slice A1 (rd_T53 xs i).f1.f0.length c1)∧w.cell? ⟨(ad.add (i.toNat * 4)).block,(ad.add (i.toNat * 4)).off + 2,none⟩=some (.slice A2 (rd_T53 xs i).f1.f1.length c2)∧w.cell? ⟨(ad.add (i.toNat * 4)).block,(ad.add (i.toNat * 4)).off + 3,none⟩=some (.bool (rd_T53 xs i).f1.f2)∧(rd_T53 xs i).f1.f0.length≤c1∧k41.C w A1 (rd_T53 xs i).f1.f0.length (rd_T53 xs i).f1.f0∧(rd_T53 xs i).f1.f1.length≤c2∧k41.C w A2 (rd_T53 xs i).f1.f1.length (rd_T53 xs i).f1.f1:=by
 obtain ⟨ad,c,e,_,hK,hc0⟩:=Kd.C_get h z53 i h0 h1
 have hc:∀ j u,c[j]?=some u→w.cell? (ad.add (i.toNat * 4 + j))=some u:=hc0
 obtain ⟨A1,c1,A2,c2,rfl,l1,g1,l2,g2⟩:=k53_open hK
 exact ⟨ad,A1,c1,A2,c2,e,hc 0 _ rfl,by rw [← add_field _ _ 1 (by omega)];exact hc 1 _ rfl,by rw [← add_field _ _ 2 (by omega)];exact hc 2 _ rfl,by rw [← add_field _ _ 3 (by omega)];exact hc 3 _ rfl,l1,g1,l2,g2⟩
theorem bl_ {w W:World} (h:Below w.heap.size w W:=by repeat (first|(with_reducible first|(refine Aside0.out ?_;assumption)|apply below_alloc|apply pw_below_drewN|apply below_drew1|refine below_set ?_ (Aside0.out (by assumption)))|(refine Aside0.out ?_;assumption))):Below w.heap.size w W:=h
theorem bk_ {w:World} {g:Nat} {o:Obj} (h:w.heap[g]?=some o:=by (repeat (first|(with_reducible (refine Aside0.out ?_;assumption))|(with_reducible refine blk_drewN ?_ _)|(with_reducible refine blk_drew ?_)|(with_reducible refine blk_alloc ?_ _)|refine blk_far ?_ (Aside0.out (by assumption)) _))):w.heap[g]?=some o:=h
theorem kc_ {p q:Prop} (h0:p) (h:p→q:=by (intro h_;repeat (first|exact h_|(with_reducible refine Kd.C_alloc ?_ _)|(with_reducible refine Kd.C_drewN ?_ _)|(with_reducible refine Kd.C_drew ?_)))):q:=h h0
theorem od_ {p:Prop} [Decidable p] (h:decide p=true:=by first|(with_reducible assumption)|assumption):p:=of_decide_eq_true h
theorem hb_ {w W:World} {q:Addr} {v:Value} (h:Aside0 (Below w.heap.size w W)) (hx:w.cell? q=some v):W.cell? q=some v:=(h.out.cell (World.block_lt_of_cell? w _ hx)).trans hx
theorem ew_ {p:Prop} (h:p:=by first|rfl|(simp [errW_none,errW_some] <;> rfl)|(simp [*,errW_none,errW_some] <;> rfl)):p:=h
theorem r3_ {p:Prop} (h:p:=by first|rfl|(simp;done)|(simp [*];done)):p:=h
theorem callA_ {P:Program} {ops:Array Oper} {Q:Exit→Act→World→Prop} {rest:List Oper} {oi:Oper} {a:Act} {w:World} {f:FuncId} {fn:Func} {ars:Array Operand} {ts:Array TypeId} (N:Option Tmp) (hf:P.funcs[f]?=some fn) (args:Array Value)
  (h:Calls P f args w fun e w' => ∃ v,e=.returned v∧wpList P ops Q rest (a.put N v) w') (hop:oi.op=.call { callee:=.value (.func f),args:=ars,argTypes:=ts }:=by with_reducible rfl) (hd:oi.dst=N:=by rfl) (hg:oi.guard=none:=by rfl)
  (hname : (fn.name == "runtime.NumGoroutine") = false := by kernel_rfl) (hb : fn.body.isSome = true := by rfl) (hargs : ars.map a.eval = args := by (try simp only [List.map_toArray, List.map_cons, List.map_nil]); first | done | rfl | (simp only [List.length_drop, List.length_take]; rfl)) : wpList P ops Q (oi :: rest) a w :=
 goesL_ N hd hg hf hname hb args hop hargs h
theorem blk3_ {w:World} {g t:Nat} {v0 v1 v2:Value} (h:w.heap[g]?=some (.cells #[v0,v1,v2] t (0,0))):w.cell? ⟨g,0,none⟩=some v0∧w.cell? ⟨g,1,none⟩=some v1∧w.cell? ⟨g,2,none⟩=some v2∧w.frozen? ⟨g,0,none⟩=false∧w.frozen? ⟨g,1,none⟩=false∧w.frozen? ⟨g,2,none⟩=false :=
 ⟨(blk_cell h 0).trans rfl,(blk_cell h 1).trans rfl,(blk_cell h 2).trans rfl,blk_frozen h 0,blk_frozen h 1,blk_frozen h 2⟩
theorem blk5_ {w:World} {g t:Nat} {v0 v1 v2 v3 v4:Value} (h:w.heap[g]?=some (.cells #[v0,v1,v2,v3,v4] t (0,0))):w.cell? ⟨g,0,none⟩=some v0∧w.cell? ⟨g,1,none⟩=some v1∧w.cell? ⟨g,2,none⟩=some v2∧w.cell? ⟨g,3,none⟩=some v3∧w.cell? ⟨g,4,none⟩=some v4∧w.frozen? ⟨g,0,none⟩=false∧w.frozen? ⟨g,1,none⟩=false∧w.frozen? ⟨g,2,none⟩=false∧w.frozen? ⟨g,3,none⟩=false∧w.frozen? ⟨g,4,none⟩=false :=
 ⟨(blk_cell h 0).trans rfl,(blk_cell h 1).trans rfl,(blk_cell h 2).trans rfl,(blk_cell h 3).trans rfl,(blk_cell h 4).trans rfl,blk_frozen h 0,blk_frozen h 1,blk_frozen h 2,blk_frozen h 3,blk_frozen h 4⟩
theorem st5_ {w:World} {g t:Nat} {v0 v1 v2 v3 v4 u0 u1 u2 u3 u4:Value} (h0:w.heap[g]?=some (.cells #[v0,v1,v2,v3,v4] t (0,0))):(((((w.setCell ⟨g,0,none⟩ u0).setCell ⟨g,1,none⟩ u1).setCell ⟨g,2,none⟩ u2).setCell ⟨g,3,none⟩ u3).setCell ⟨g,4,none⟩ u4).heap[g]?=some (.cells #[u0,u1,u2,u3,u4] t (0,0)):=by
 have h1:(w.setCell ⟨g,0,none⟩ u0).heap[g]?=some (.cells #[u0,v1,v2,v3,v4] t (0,0)):=blk_put h0 0 u0 rfl
 have h2:((w.setCell ⟨g,0,none⟩ u0).setCell ⟨g,1,none⟩ u1).heap[g]?=some (.cells #[u0,u1,v2,v3,v4] t (0,0)):=blk_put h1 1 u1 rfl
 have h3:(((w.setCell ⟨g,0,none⟩ u0).setCell ⟨g,1,none⟩ u1).setCell ⟨g,2,none⟩ u2).heap[g]?=some (.cells #[u0,u1,u2,v3,v4] t (0,0)):=blk_put h2 2 u2 rfl
 have h4:((((w.setCell ⟨g,0,none⟩ u0).setCell ⟨g,1,none⟩ u1).setCell ⟨g,2,none⟩ u2).setCell ⟨g,3,none⟩ u3).heap[g]?=some (.cells #[u0,u1,u2,u3,v4] t (0,0)):=blk_put h3 3 u3 rfl
 have h5:(((((w.setCell ⟨g,0,none⟩ u0).setCell ⟨g,1,none⟩ u1).setCell ⟨g,2,none⟩ u2).setCell ⟨g,3,none⟩ u3).setCell ⟨g,4,none⟩ u4).heap[g]?=some (.cells #[u0,u1,u2,u3,u4] t (0,0)):=blk_put h4 4 u4 rfl
 exact h5
end Go.Proofs.Ytnihihcopcoabaa.Px
namespace Go.Proofs.Ytnihihcopcoabaa.Px
open Go.RowKit Go.ChangeShapes Go.WideShapes Go.ChangeAt Go.Proofs.YtnihihcopcoabaaW.PrintWords Go.Proofs.YtnihihcopcoabaaW.PrintLast Go.Proofs.YtnihihcopcoabaaW.PrintMore
set_option linter.unusedVariables false
def Fits {α:Type} {H:Type} (enc:TypeId × Value→H) (P:Program) (W:World) (t:TypeId) (d:Kd α) (Q:Nat→α→Prop):Prop :=
 ∀ (fuel:Nat) (cs:List Value) (x:DataW H) (p:List MemPlace),DataW.trod enc P W 0 (fun _ => true) true fuel t cs=some (x,p)→∃ a:α,d.K W a cs∧Q (Rows.uptoBulk x) a
section
variable {α β:Type} {H:Type} {enc:TypeId × Value→H} {P:Program} {W:World} {t e:TypeId}
def Qint (k:IntKind) (_:Nat) (a:Int):Prop:=(Lit.int k a).wf=true
def Qbool (_:Nat) (_:Bool):Prop:=True
def Qstr (b:Nat) (a:ByteArray):Prop:=a.size < b
theorem Qint.mono (k:IntKind):∀ b b' a,b≤b'→Qint k b a→Qint k b' a:=fun _ _ _ _ h => h
theorem Qbool.mono:∀ b b' a,b≤b'→Qbool b a→Qbool b' a:=fun _ _ _ _ h => h
theorem Qstr.mono:∀ b b' a,b≤b'→Qstr b a→Qstr b' a:=fun _ _ _ h1 h2 => Nat.lt_of_lt_of_le h2 h1
theorem Fits.int {k:IntKind} (ht:P.underlying t=some (.int k)):Fits enc P W t (Kd.int k) (Qint k):=by
 intro fuel cs x p h
 obtain ⟨n,hc,hx,hw⟩:=DataW.trod_int ht h
 exact ⟨n,hc,hw⟩
theorem Fits.bool (ht:P.underlying t=some .bool):Fits enc P W t Kd.bool Qbool:=by
 intro fuel cs x p h
 obtain ⟨b,hc,hx⟩:=DataW.trod_bool ht h
 exact ⟨b,hc,trivial⟩
theorem Fits.string (ht:P.underlying t=some .string):Fits enc P W t Kd.string Qstr:=by
 intro fuel cs x p h
 obtain ⟨s,hc,hx⟩:=DataW.trod_string ht h
 refine ⟨s,hc,?_⟩
 unfold Qstr
 have hx:=(Prod.mk.inj hx.1).1
 subst hx
 simp only [Rows.uptoBulk]
 have e:s.data.toList.length=s.size:=by rw [Array.length_toList];rfl
 omega
theorem fits_add (a:Addr) (x j:Nat):(a.add x).add j=a.add (x + j):=by
 unfold Addr.add
 by_cases h1:x=0 <;> by_cases h2:j=0 <;> simp [h1,h2,Nat.add_assoc]
def QAll (Q:Nat→α→Prop) (b:Nat) (l:List α):Prop:=l.length < b∧∀ x ∈ l,Q b x
theorem QAll.mono {Q:Nat→α→Prop} (hQ:∀ b b' a,b≤b'→Q b a→Q b' a):∀ b b' l,b≤b'→QAll Q b l→QAll Q b' l:=fun b b' l h hq => ⟨Nat.lt_of_lt_of_le hq.1 h,fun x hx => hQ _ _ _ h (hq.2 x hx)⟩
theorem Fits.slice {d:Kd α} {Q:Nat→α→Prop} (hQ:∀ b b' a,b≤b'→Q b a→Q b' a) (ht:P.underlying t=some (.slice e)) (hsz:P.cellsOf e=d.sz) (hd:Fits enc P W e d Q):Fits enc P W t (Kd.slice e d) (QAll Q):=by
 intro fuel cs x p h
 rcases DataW.trod_slice ht h with ⟨hcs,hx⟩|⟨a,len,cap,elems,rest,n,_,hcs,hx,_,hl,hm,hlen,hel,_,_⟩
 ·refine ⟨[],⟨none,0,hcs,Nat.le_refl _,rfl,by simp,fun hh => absurd hh (by simp)⟩,?_,fun y hy => by cases hy⟩
  exact bulk_one x
 ·have hx1:=(Prod.mk.inj hx).1
  have each:∀ i,i < len→∃ y:α,∃ c:List Value,d.K W y c∧c.length=d.sz∧(∀ j u,c[j]?=some u→W.cell? (a.add (i * d.sz + j))=some u)∧Q (Rows.uptoBulk x) y:=by
   intro i hi
   have h1:=hel i hi
   obtain ⟨z,hz⟩:∃ z,elems[i]?=some z:=⟨elems[i]'(by omega),List.getElem?_eq_getElem (by omega)⟩
   rw [hz] at h1
   obtain ⟨c,hc,hk⟩:=Option.bind_eq_some_iff.1 h1
   obtain ⟨_,hcl,hcc⟩:=World.cells?_some hc
   obtain ⟨y,hy,hq⟩:=hd n c z.1 z.2 hk
   refine ⟨y,c,hy,by rw [hcl,hsz],?_,hQ _ _ _ ?_ hq⟩
   ·intro j u hj
    have hjl:j < c.length:=(List.getElem?_eq_some_iff.1 hj).1
    have:=hcc j (by omega)
    rw [hj] at this
    rw [← this,hsz,fits_add]
   ·rw [hx1]
    simp only [Rows.uptoBulk]
    have:z.1 ∈ elems.map (·.1):=List.mem_map_of_mem (List.mem_of_getElem? hz)
    have:=bulk_part_le this
    omega
  have hf:∀ i:Fin len,∃ c:List Value,d.K W (Classical.choose (each i.1 i.2)) c∧c.length=d.sz∧(∀ j u,c[j]?=some u→W.cell? (a.add (i.1 * d.sz + j))=some u)∧Q (Rows.uptoBulk x) (Classical.choose (each i.1 i.2)):=fun i => Classical.choose_spec (each i.1 i.2)
  generalize hF:(fun i:Fin len => Classical.choose (each i.1 i.2))=f at hf
  replace hf:∀ i:Fin len,∃ c:List Value,d.K W (f i) c∧c.length=d.sz∧(∀ j u,c[j]?=some u→W.cell? (a.add (i.1 * d.sz + j))=some u)∧Q (Rows.uptoBulk x) (f i):=fun i => by
   have:=hf i
   rw [← hF]
   exact this
  have hxs:(List.ofFn f).length=len:=by simp
  refine ⟨List.ofFn f,⟨some a,cap,by rw [hxs];exact hcs,by rw [hxs];exact hl,rfl,?_,fun _ => ⟨a,rfl,?_⟩⟩,?_,?_⟩
  ·rw [hxs];unfold maxLen at hm;omega
  ·intro j q hj
   have hjl:j < len:=by
    have:=(List.getElem?_eq_some_iff.1 hj).1
    omega
   have hq:f ⟨j,hjl⟩=q:=by
    rw [List.getElem?_ofFn,dif_pos hjl] at hj
    exact Option.some.inj hj
   obtain ⟨c,h1,h2,h3,_⟩:=hf ⟨j,hjl⟩
   subst hq
   exact ⟨c,h2,h1,h3⟩
  ·rw [hxs,hx1]
   simp only [Rows.uptoBulk]
   have:=bulk_length (elems.map (·.1))
   rw [List.length_map] at this
   omega
  ·intro y hy
   obtain ⟨i,rfl⟩:=(List.mem_ofFn).1 hy
   obtain ⟨_,_,_,_,hq⟩:=hf i
   exact hq
end
end Go.Proofs.Ytnihihcopcoabaa.Px
namespace Go.Proofs.Ytnihihcopcoabaa.Px
open Go.RowKit Go.ChangeShapes Go.WideShapes Go.ChangeAt Go.Proofs.YtnihihcopcoabaaW.PrintWords Go.Proofs.YtnihihcopcoabaaW.PrintLast Go.Proofs.YtnihihcopcoabaaW.PrintMore
set_option linter.unusedVariables false
set_option maxRecDepth 100000
def QS70 (b:Nat) (a:S70):Prop:=(Qint .i64) b a.f0∧Qstr b a.f1∧(Qint .i64) b a.f2∧(Qint .i64) b a.f3∧(Qint .i64) b a.f4
theorem QS70.mono:∀ b b' a,b≤b'→QS70 b a→QS70 b' a:=fun b b' a h hq => ⟨(Qint.mono .i64) b b' a.f0 h hq.1,Qstr.mono b b' a.f1 h hq.2.1,(Qint.mono .i64) b b' a.f2 h hq.2.2.1,(Qint.mono .i64) b b' a.f3 h hq.2.2.2.1,(Qint.mono .i64) b b' a.f4 h hq.2.2.2.2⟩
theorem fits70 {H:Type} (enc:TypeId × Value→H) (W:World):Fits enc Try.prog W 70 k70 QS70:=by
 intro fuel cs x p h
 obtain ⟨xs,n,rfl,hx,hlen,hxl,hall⟩:=DataW.trod_struct Try.underlying70 h
 have hx1:=(Prod.mk.inj hx).1
 have hb:∀ z ∈ xs,Rows.uptoBulk z.1≤Rows.uptoBulk x:=by
  intro z hz
  rw [hx1]
  simp only [Rows.uptoBulk]
  have:=bulk_part_le (List.mem_map_of_mem (f:=(·.1)) hz)
  omega
 have hl:cs.length=5:=hlen.trans (by kernel_rfl)
 have hxl':xs.length=5:=hxl
 have e0:=hall 0 _ rfl
 obtain ⟨z0,hz0⟩:∃ z,xs[0]?=some z:=⟨xs[0]'(by omega),List.getElem?_eq_getElem (by omega)⟩
 rw [hz0] at e0
 have c0:Try.prog.cellsOf 3=1:=by kernel_rfl
 replace e0:DataW.trod enc Try.prog W 0 (fun _ => true) true n 3 ((cs.drop 0).take 1)=some z0:=by rw [← c0];exact e0
 obtain ⟨a0,K0,q0⟩:=(Fits.int Try.underlying3) n _ z0.1 z0.2 e0
 replace q0:=(Qint.mono .i64) _ _ _ (hb z0 (List.mem_of_getElem? hz0)) q0
 have e1:=hall 1 _ rfl
 obtain ⟨z1,hz1⟩:∃ z,xs[1]?=some z:=⟨xs[1]'(by omega),List.getElem?_eq_getElem (by omega)⟩
 rw [hz1] at e1
 have c1:Try.prog.cellsOf 9=1:=by kernel_rfl
 replace e1:DataW.trod enc Try.prog W 0 (fun _ => true) true n 9 ((cs.drop 1).take 1)=some z1:=by rw [← c1];exact e1
 obtain ⟨a1,K1,q1⟩:=(Fits.string Try.underlying9) n _ z1.1 z1.2 e1
 replace q1:=Qstr.mono _ _ _ (hb z1 (List.mem_of_getElem? hz1)) q1
 have e2:=hall 2 _ rfl
 obtain ⟨z2,hz2⟩:∃ z,xs[2]?=some z:=⟨xs[2]'(by omega),List.getElem?_eq_getElem (by omega)⟩
 rw [hz2] at e2
 have c2:Try.prog.cellsOf 2=1:=by kernel_rfl
 replace e2:DataW.trod enc Try.prog W 0 (fun _ => true) true n 2 ((cs.drop 2).take 1)=some z2:=by rw [← c2];exact e2
 obtain ⟨a2,K2,q2⟩:=(Fits.int Try.underlying2) n _ z2.1 z2.2 e2
 replace q2:=(Qint.mono .i64) _ _ _ (hb z2 (List.mem_of_getElem? hz2)) q2
 have e3:=hall 3 _ rfl
 obtain ⟨z3,hz3⟩:∃ z,xs[3]?=some z:=⟨xs[3]'(by omega),List.getElem?_eq_getElem (by omega)⟩
 rw [hz3] at e3
 have c3:Try.prog.cellsOf 3=1:=by kernel_rfl
 replace e3:DataW.trod enc Try.prog W 0 (fun _ => true) true n 3 ((cs.drop 3).take 1)=some z3:=by rw [← c3];exact e3
 obtain ⟨a3,K3,q3⟩:=(Fits.int Try.underlying3) n _ z3.1 z3.2 e3
 replace q3:=(Qint.mono .i64) _ _ _ (hb z3 (List.mem_of_getElem? hz3)) q3
 have e4:=hall 4 _ rfl
 obtain ⟨z4,hz4⟩:∃ z,xs[4]?=some z:=⟨xs[4]'(by omega),List.getElem?_eq_getElem (by omega)⟩
 rw [hz4] at e4
 have c4:Try.prog.cellsOf 3=1:=by kernel_rfl
 replace e4:DataW.trod enc Try.prog W 0 (fun _ => true) true n 3 ((cs.drop 4).take 1)=some z4:=by rw [← c4];exact e4
 obtain ⟨a4,K4,q4⟩:=(Fits.int Try.underlying3) n _ z4.1 z4.2 e4
 replace q4:=(Qint.mono .i64) _ _ _ (hb z4 (List.mem_of_getElem? hz4)) q4
 refine ⟨⟨a0,a1,a2,a3,a4⟩,?_,⟨q0,q1,q2,q3,q4⟩⟩
 rw [show cs=cs.drop 0 from rfl]
 exact ⟨(cs.drop 0).take 1,cs.drop 1,by rw [← List.drop_drop (i:=1) (j:=0),List.take_append_drop],K0,⟨(cs.drop 1).take 1,cs.drop 2,by rw [← List.drop_drop (i:=1) (j:=1),List.take_append_drop],K1,⟨(cs.drop 2).take 1,cs.drop 3,by rw [← List.drop_drop (i:=1) (j:=2),List.take_append_drop],K2,⟨(cs.drop 3).take 1,cs.drop 4,by rw [← List.drop_drop (i:=1) (j:=3),List.take_append_drop],K3,(by rw [show cs.drop 4=(cs.drop 4).take 1 from (List.take_of_length_le (by rw [List.length_drop];omega)).symm];exact K4)⟩⟩⟩⟩
end Go.Proofs.Ytnihihcopcoabaa.Px
namespace Go.Proofs.Ytnihihcopcoabaa.Px
open Go.RowKit Go.Proofs.YtnihihcopcoabaaW.PrintWords Go.Proofs.YtnihihcopcoabaaW.PrintLast Go.Proofs.YtnihihcopcoabaaW.PrintMore
theorem row_C {w:World} {base:Nat} {ok:Nat→Prop} {A:Option Addr} {c n:Nat} {xs:List Int} (h:Kd.R (Kd.int .u8) 5 w base ok (.slice A n c) xs):(Kd.int .u8).C w A xs.length xs:=by
 obtain ⟨A',c',e,_,hC⟩:=Kd.R_reads h
 injection e with e1 e2 e3
 rw [e1]
 exact hC
end Go.Proofs.Ytnihihcopcoabaa.Px
namespace Go.Proofs.Ytnihihcopcoabaa.Px
open Go.RowKit Go.Proofs.YtnihihcopcoabaaW.PrintWords Go.Proofs.YtnihihcopcoabaaW.PrintLast Go.Proofs.YtnihihcopcoabaaW.PrintMore
attribute [local go_sem] max2_int min2_int max_two min_two max_three min_three max_four min_four
set_option linter.unusedVariables false
set_option linter.unusedSimpArgs false
def maps_fresh.l0:Nat→List (S41)→Int→Int→Option (Bool)
 | 0,_,_,_ => none
 | k + 1,x6,x7,x8 => if x8 < x7 then (if 0≤x8 then (if x8 < (x6.length:Int) then (if ((rd_T41 x6 x8).f0)=7 then (some true) else (maps_fresh.l0 k x6 x7 (wrap64 (x8 + 1)))) else (none)) else (none)) else (some false)
def maps_fresh.f (k:Nat) (l0_0:List (S41)) (l0_1:List (S41)) (a0_2:Bool):Option (Bool):=maps_fresh.l0 k l0_0 (l0_0.length:Int) 0
set_option maxHeartbeats 80000000 in
set_option maxRecDepth 100000 in
theorem maps_fresh.calls (k:Nat) (A0_0:Option Addr) (c0_0:Nat) (l0_0:List (S41)) (A0_1:Option Addr) (c0_1:Nat) (l0_1:List (S41)) (a0_2:Bool) (r:Bool) (w:World) (hr0_0:Kd.C k41 w A0_0 l0_0.length l0_0) (hc0_0:l0_0.length≤c0_0) (hr0_1:Kd.C k41 w A0_1 l0_1.length l0_1) (hc0_1:l0_1.length≤c0_1) (h:maps_fresh.f k l0_0 l0_1 a0_2=some r) :
  Calls Try.prog 17 #[.agg #[.slice A0_0 l0_0.length c0_0,.slice A0_1 l0_1.length c0_1,.bool a0_2]] w fun e w' => e=.returned (.bool r)∧Below w.heap.size w w':=by
 have hu50:=Try.underlying50
 have hu41:=Try.underlying41
 have HR0_0:=Aside0.mk hr0_0
 have HC0_0:=Aside0.mk hc0_0
 clear hr0_0 hc0_0
 have HR0_1:=Aside0.mk hr0_1
 have HC0_1:=Aside0.mk hc0_1
 clear hr0_1 hc0_1
 have HB:=Aside0.mk (Below.refl w.heap.size w)
 have H:(maps_fresh.l0 k l0_0 (l0_0.length:Int) 0)=some r:=h
 clear h
 have H':=Aside0.mk H
 clear H
 go_enter Try.func17,Try.ntmps17
 go_wp2_with (first|((with_reducible refine gate_dst (N:=1) rfl ?_);refine box_event ?hg (N:=1) ?hd (cs:=#[.slice A0_0 l0_0.length c0_0,.slice A0_1 l0_1.length c0_1,.bool a0_2]) (t:=50) ?hr ?_;(case hd => rfl);(case hg => rfl);(case hr => first|(go_simp;done)|(go_simp;rfl));intro gb164 hg w2 hbox hb;have n0_:=Aside0.mk (below_step bl_ hb);have n1_:=Aside0.mk (hbox);have n2_:=Aside0.mk ((by rw [hg];exact (below_size bl_):w.heap.size≤gb164));have n3_:=Aside0.mk ((by rw [hg];exact (below_size bl_):w.heap.size≤gb164));clear HB;have HB:=n0_;have BK164:=n1_;have GW164:=n2_;have GE164:=n3_;clear n0_ n1_ n2_ n3_;clear hb hbox hg;obtain ⟨hcz3_0,hcz3_1,hcz3_2,hfz3_0,hfz3_1,hfz3_2⟩:=blk3_ BK164.out))
 go_loopg [8] k (fun kq v8 w' => ∃ (x8_1:Int),v8=.int .i64 x8_1∧Aside0 (maps_fresh.l0 kq l0_0 (l0_0.length:Int) x8_1=some r)∧Aside0 (kq≤k)∧Aside0 (w'.heap[gb164]?=some (.cells #[(.slice A0_0 l0_0.length c0_0),(.slice A0_1 l0_1.length c0_1),.bool a0_2] 50 (0,0)))∧Aside0 (Below w.heap.size w w'))
 case atStart => exact ⟨(0),r3_,H',⟨Nat.le_refl _⟩,⟨bk_⟩,⟨bl_⟩⟩
 case round =>
  clear H'
  try clear hcz3_0;try clear hcz3_1;try clear hcz3_2;try clear hfz3_0;try clear hfz3_1;try clear hfz3_2
  obtain ⟨x8_1,rfl,HA,HK1,BK164,HB⟩:=hrel
  cases gk with
  | zero => exact absurd HA.out (by simp [maps_fresh.l0])
  | succ k1 =>
   have H:=HA.out
   clear HA
   simp only [maps_fresh.l0] at H
   by_cases c4:x8_1 < (l0_0.length:Int)
   ·rw [if_pos c4] at H
    have c4b0:decide (x8_1 < (l0_0.length:Int))=true:=decide_eq_true c4
    clear c4
    by_cases c5:0≤x8_1
    ·rw [if_pos c5] at H
     have c5b0:decide (0≤x8_1)=true:=decide_eq_true c5
     clear c5
     by_cases c6:x8_1 < (l0_0.length:Int)
     ·rw [if_pos c6] at H
      have c6b0:decide (x8_1 < (l0_0.length:Int))=true:=decide_eq_true c6
      clear c6
      by_cases c7:((rd_T41 l0_0 x8_1).f0)=7
      ·rw [if_pos c7] at H
       have c7b0:(((rd_T41 l0_0 x8_1).f0)==7)=true:=beq_iff_eq.mpr c7
       have c7b1:(((rd_T41 l0_0 x8_1).f0) != 7)=false:=bne_eq_false_iff_eq.mpr c7
       clear c7
       obtain rfl:=Option.some.inj H
       have p165:0≤(x8_1:Int):=od_
       have q165:x8_1 < (l0_0.length:Int):=od_
       obtain ⟨ad165,e165,hx165_0,hx165_1,hx165_2,hx165_3,hx165_4⟩:=at_T41 HR0_0.out x8_1 p165 q165
       cases e165
       replace hx165_0:=hb_ HB hx165_0
       replace hx165_1:=hb_ HB hx165_1
       replace hx165_2:=hb_ HB hx165_2
       replace hx165_3:=hb_ HB hx165_3
       replace hx165_4:=hb_ HB hx165_4
       replace p165:=eq_true p165
       replace q165:=eq_true q165
       go_wp2_with (first|((with_reducible refine gate_dst (N:=4) rfl ?_);refine box_event ?hg (N:=4) ?hd (cs:=#[.int .i64 0,.string (⟨#[]⟩:ByteArray),.int .i64 0,.int .i64 0,.int .i64 0]) (t:=41) ?hr ?_;(case hd => rfl);(case hg => rfl);(case hr => first|(go_simp;done)|(go_simp;rfl));intro gb166 hg w8 hbox hb;have n0_:=Aside0.mk (blk_below (g:=gb164) (o:=.cells #[.slice (some ad165) l0_0.length c0_0,.slice A0_1 l0_1.length c0_1,.bool a0_2] 50 (0,0)) bk_ hb);have n1_:=Aside0.mk (below_step bl_ hb);have n2_:=Aside0.mk (hbox);have n3_:=Aside0.mk ((by rw [hg];exact (below_size bl_):w.heap.size≤gb166));have n4_:=Aside0.mk ((by rw [hg];exact (below_size bl_):w.heap.size≤gb166));have n5_:=Aside0.mk ((by rw [hg];exact Nat.ne_of_lt (blk_lt (g:=gb164) (o:=.cells #[.slice (some ad165) l0_0.length c0_0,.slice A0_1 l0_1.length c0_1,.bool a0_2] 50 (0,0)) bk_):gb164 ≠ gb166));have n6_:=Aside0.mk ((by rw [hg];exact Nat.ne_of_gt (blk_lt (g:=gb164) (o:=.cells #[.slice (some ad165) l0_0.length c0_0,.slice A0_1 l0_1.length c0_1,.bool a0_2] 50 (0,0)) bk_):gb166 ≠ gb164));clear BK164;clear HB;have BK164:=n0_;have HB:=n1_;have BK166:=n2_;have GW166:=n3_;have GE166:=n4_;have NB164_166:=n5_;have NB166_164:=n6_;clear n0_ n1_ n2_ n3_ n4_ n5_ n6_;clear hb hbox hg;have hnb9:=NB166_164.out;have hnc9:=NB164_166.out;obtain ⟨hcz10_0,hcz10_1,hcz10_2,hcz10_3,hcz10_4,hfz10_0,hfz10_1,hfz10_2,hfz10_3,hfz10_4⟩:=blk5_ BK166.out)|((with_reducible refine gate_store (t:=41) (p:=4) rfl ?_);refine store_event (t:=41) (p:=4) (v:=?vo_w11) (w1:=(((((w8.setCell ⟨gb166,0,none⟩ (.int .i64 ((rd_T41 l0_0 x8_1).f0))).setCell ⟨gb166,1,none⟩ (.string ((rd_T41 l0_0 x8_1).f1))).setCell ⟨gb166,2,none⟩ (.int .i64 ((rd_T41 l0_0 x8_1).f2))).setCell ⟨gb166,3,none⟩ (.int .i64 ((rd_T41 l0_0 x8_1).f3))).setCell ⟨gb166,4,none⟩ (.int .i64 ((rd_T41 l0_0 x8_1).f4)))) ?hg ?ho ?hn ?hr ?_;(case ho => rfl);(case hg => rfl);(case hn => rfl);(case hr => first|(go_simp;done)|(go_simp;rfl));intro w11 hw;have n0_:Aside0 (w11.heap[gb164]?=some (.cells #[.slice (some ad165) l0_0.length c0_0,.slice A0_1 l0_1.length c0_1,.bool a0_2] 50 (0,0))):=⟨(by rw [hw];exact bk_)⟩;have n1_:Aside0 (w11.heap[gb166]?=some (.cells #[.int .i64 ((rd_T41 l0_0 x8_1).f0),.string ((rd_T41 l0_0 x8_1).f1),.int .i64 ((rd_T41 l0_0 x8_1).f2),.int .i64 ((rd_T41 l0_0 x8_1).f3),.int .i64 ((rd_T41 l0_0 x8_1).f4)] 41 (0,0))):=⟨(by rw [hw];exact (st5_ BK166.out))⟩;have n2_:Aside0 (Below w.heap.size w w11):=⟨(by rw [hw];exact bl_)⟩;clear hw;clear BK164;clear BK166;clear HB;have BK164:=n0_;have BK166:=n1_;have HB:=n2_;clear n0_ n1_ n2_;obtain ⟨hcz12_0,hcz12_1,hcz12_2,hcz12_3,hcz12_4,hfz12_0,hfz12_1,hfz12_2,hfz12_3,hfz12_4⟩:=blk5_ BK166.out))
       go_ret
       exact ⟨ew_,bl_⟩
      ·rw [if_neg c7] at H
       have c7b0:(((rd_T41 l0_0 x8_1).f0)==7)=false:=beq_eq_false_iff_ne.mpr c7
       have c7b1:(((rd_T41 l0_0 x8_1).f0) != 7)=true:=bne_iff_ne.mpr c7
       have H':=Aside0.mk H
       clear H
       have p165:0≤(x8_1:Int):=od_
       have q165:x8_1 < (l0_0.length:Int):=od_
       obtain ⟨ad165,e165,hx165_0,hx165_1,hx165_2,hx165_3,hx165_4⟩:=at_T41 HR0_0.out x8_1 p165 q165
       cases e165
       replace hx165_0:=hb_ HB hx165_0
       replace hx165_1:=hb_ HB hx165_1
       replace hx165_2:=hb_ HB hx165_2
       replace hx165_3:=hb_ HB hx165_3
       replace hx165_4:=hb_ HB hx165_4
       replace p165:=eq_true p165
       replace q165:=eq_true q165
       go_wp2_with (first|((with_reducible refine gate_dst (N:=4) rfl ?_);refine box_event ?hg (N:=4) ?hd (cs:=#[.int .i64 0,.string (⟨#[]⟩:ByteArray),.int .i64 0,.int .i64 0,.int .i64 0]) (t:=41) ?hr ?_;(case hd => rfl);(case hg => rfl);(case hr => first|(go_simp;done)|(go_simp;rfl));intro gb166 hg w13 hbox hb;have n0_:=Aside0.mk (blk_below (g:=gb164) (o:=.cells #[.slice (some ad165) l0_0.length c0_0,.slice A0_1 l0_1.length c0_1,.bool a0_2] 50 (0,0)) bk_ hb);have n1_:=Aside0.mk (below_step bl_ hb);have n2_:=Aside0.mk (hbox);have n3_:=Aside0.mk ((by rw [hg];exact (below_size bl_):w.heap.size≤gb166));have n4_:=Aside0.mk ((by rw [hg];exact (below_size bl_):w.heap.size≤gb166));have n5_:=Aside0.mk ((by rw [hg];exact Nat.ne_of_lt (blk_lt (g:=gb164) (o:=.cells #[.slice (some ad165) l0_0.length c0_0,.slice A0_1 l0_1.length c0_1,.bool a0_2] 50 (0,0)) bk_):gb164 ≠ gb166));have n6_:=Aside0.mk ((by rw [hg];exact Nat.ne_of_gt (blk_lt (g:=gb164) (o:=.cells #[.slice (some ad165) l0_0.length c0_0,.slice A0_1 l0_1.length c0_1,.bool a0_2] 50 (0,0)) bk_):gb166 ≠ gb164));clear BK164;clear HB;have BK164:=n0_;have HB:=n1_;have BK166:=n2_;have GW166:=n3_;have GE166:=n4_;have NB164_166:=n5_;have NB166_164:=n6_;clear n0_ n1_ n2_ n3_ n4_ n5_ n6_;clear hb hbox hg;have hnb14:=NB166_164.out;have hnc14:=NB164_166.out;obtain ⟨hcz15_0,hcz15_1,hcz15_2,hcz15_3,hcz15_4,hfz15_0,hfz15_1,hfz15_2,hfz15_3,hfz15_4⟩:=blk5_ BK166.out)|((with_reducible refine gate_store (t:=41) (p:=4) rfl ?_);refine store_event (t:=41) (p:=4) (v:=?vo_w16) (w1:=(((((w13.setCell ⟨gb166,0,none⟩ (.int .i64 ((rd_T41 l0_0 x8_1).f0))).setCell ⟨gb166,1,none⟩ (.string ((rd_T41 l0_0 x8_1).f1))).setCell ⟨gb166,2,none⟩ (.int .i64 ((rd_T41 l0_0 x8_1).f2))).setCell ⟨gb166,3,none⟩ (.int .i64 ((rd_T41 l0_0 x8_1).f3))).setCell ⟨gb166,4,none⟩ (.int .i64 ((rd_T41 l0_0 x8_1).f4)))) ?hg ?ho ?hn ?hr ?_;(case ho => rfl);(case hg => rfl);(case hn => rfl);(case hr => first|(go_simp;done)|(go_simp;rfl));intro w16 hw;have n0_:Aside0 (w16.heap[gb164]?=some (.cells #[.slice (some ad165) l0_0.length c0_0,.slice A0_1 l0_1.length c0_1,.bool a0_2] 50 (0,0))):=⟨(by rw [hw];exact bk_)⟩;have n1_:Aside0 (w16.heap[gb166]?=some (.cells #[.int .i64 ((rd_T41 l0_0 x8_1).f0),.string ((rd_T41 l0_0 x8_1).f1),.int .i64 ((rd_T41 l0_0 x8_1).f2),.int .i64 ((rd_T41 l0_0 x8_1).f3),.int .i64 ((rd_T41 l0_0 x8_1).f4)] 41 (0,0))):=⟨(by rw [hw];exact (st5_ BK166.out))⟩;have n2_:Aside0 (Below w.heap.size w w16):=⟨(by rw [hw];exact bl_)⟩;clear hw;clear BK164;clear BK166;clear HB;have BK164:=n0_;have BK166:=n1_;have HB:=n2_;clear n0_ n1_ n2_;obtain ⟨hcz17_0,hcz17_1,hcz17_2,hcz17_3,hcz17_4,hfz17_0,hfz17_1,hfz17_2,hfz17_3,hfz17_4⟩:=blk5_ BK166.out))
       go_roundg k1
       case measure => have:=HK1.out;omega
       case rel => exact ⟨(wrap64 (x8_1 + 1)),r3_,H',⟨by have:=HK1.out;omega⟩,⟨bk_⟩,⟨bl_⟩⟩
     ·rw [if_neg c6] at H
      exact absurd H (by simp)
    ·rw [if_neg c5] at H
     exact absurd H (by simp)
   ·rw [if_neg c4] at H
    have c4b0:decide (x8_1 < (l0_0.length:Int))=false:=decide_eq_false c4
    clear c4
    obtain rfl:=Option.some.inj H
    go_wp2
    go_ret
    exact ⟨ew_,bl_⟩
def wire_gather_uint64.l0:Nat→Int→List Int→Int→Int→Option (Int)
 | 0,_,_,_,_ => none
 | k + 1,x1,x7,x8,x9 => if x9 < x8 then (if 0≤x9 then (if x9 < (x7.length:Int) then (wire_gather_uint64.l0 k (Go.bits .or .u64 (IntKind.u64.wrap (x1 * 256)) (IntKind.u64.wrap (rd x7 x9))) x7 x8 (wrap64 (x9 + 1))) else (none)) else (none)) else (some x1)
def wire_gather_uint64.f (k:Nat) (l0:List Int) (a1:Int):Option (Int):=wire_gather_uint64.l0 k a1 l0 (l0.length:Int) 0
set_option maxHeartbeats 80000000 in
set_option maxRecDepth 100000 in
theorem wire_gather_uint64.calls (k:Nat) (A0:Option Addr) (c0:Nat) (l0:List Int) (a1:Int) (r:Int) (w:World) (hr0:Kd.C (Kd.int .u8) w A0 l0.length l0) (hc0:l0.length≤c0) (h:wire_gather_uint64.f k l0 a1=some r) :
  Calls Try.prog 25 #[.slice A0 l0.length c0,.int .u64 a1] w fun e w' => e=.returned (.int .u64 r)∧Drawn0 w w':=by
 have HR0:=Aside0.mk hr0
 have HC0:=Aside0.mk hc0
 clear hr0 hc0
 have H:(wire_gather_uint64.l0 k a1 l0 (l0.length:Int) 0)=some r:=h
 clear h
 have H':=Aside0.mk H
 clear H
 go_enter Try.func25,Try.ntmps25
 go_wp2
 go_loopg [1,9] k (fun kq v1 v9 w' => ∃ (x1_1:Int) (x9_1:Int),v1=.int .u64 x1_1∧v9=.int .i64 x9_1∧Aside0 (wire_gather_uint64.l0 kq x1_1 l0 (l0.length:Int) x9_1=some r)∧Aside0 (kq≤k)∧Drawn0 w w')
 case atStart => exact ⟨(a1),(0),r3_,r3_,H',⟨Nat.le_refl _⟩,by repeat (first|exact Drawn0.refl _|apply Drawn0.step)⟩
 case round =>
  clear H'
  obtain ⟨x1_1,x9_1,rfl,rfl,HA,HK1,⟨m1,rfl⟩⟩:=hrel
  cases gk with
  | zero => exact absurd HA.out (by simp [wire_gather_uint64.l0])
  | succ k1 =>
   have H:=HA.out
   clear HA
   simp only [wire_gather_uint64.l0] at H
   by_cases c3:x9_1 < (l0.length:Int)
   ·rw [if_pos c3] at H
    have c3b0:decide (x9_1 < (l0.length:Int))=true:=decide_eq_true c3
    clear c3
    by_cases c4:0≤x9_1
    ·rw [if_pos c4] at H
     have c4b0:decide (0≤x9_1)=true:=decide_eq_true c4
     clear c4
     by_cases c5:x9_1 < (l0.length:Int)
     ·rw [if_pos c5] at H
      have c5b0:decide (x9_1 < (l0.length:Int))=true:=decide_eq_true c5
      clear c5
      have H':=Aside0.mk H
      clear H
      have p167:0≤(x9_1:Int):=od_
      have q167:x9_1 < (l0.length:Int):=od_
      obtain ⟨ad167,e167,hx167_0⟩:=Kd.at_int HR0.out x9_1 p167 q167
      cases e167
      replace p167:=eq_true p167
      replace q167:=eq_true q167
      go_wp2
      go_roundg k1
      case measure => have:=HK1.out;omega
      case rel => exact ⟨(Go.bits .or .u64 (IntKind.u64.wrap (x1_1 * 256)) (IntKind.u64.wrap (rd l0 x9_1))),(wrap64 (x9_1 + 1)),r3_,r3_,H',⟨by have:=HK1.out;omega⟩,by repeat (first|exact Drawn0.refl _|apply Drawn0.step)⟩
     ·rw [if_neg c5] at H
      exact absurd H (by simp)
    ·rw [if_neg c4] at H
     exact absurd H (by simp)
   ·rw [if_neg c3] at H
    have c3b0:decide (x9_1 < (l0.length:Int))=false:=decide_eq_false c3
    clear c3
    obtain rfl:=Option.some.inj H
    go_wp2
    go_ret
    exact ⟨by first|rfl|(simp;done)|(simp [*];done),by repeat (first|exact Drawn0.refl _|apply Drawn0.step)⟩
end Go.Proofs.Ytnihihcopcoabaa.Px
namespace Go.Proofs.Ytnihihcopcoabaa.Px
open Go.RowKit Go.Proofs.YtnihihcopcoabaaW.PrintWords Go.Proofs.YtnihihcopcoabaaW.PrintLast Go.Proofs.YtnihihcopcoabaaW.PrintMore
set_option linter.unusedVariables false
set_option linter.unusedSimpArgs false
structure IsRd (B:Nat) (w:World) (g:Nat) (bs:List Int) (p:Nat):Prop where
 ge:B≤g
 blk:∃ v,w.heap[g]?=some (.cells #[v,.int .i64 (p:Int),.bool true] 64 (0,0))∧Kd.R (Kd.int .u8) 5 w B (fun _ => True) v bs
 hi:p≤bs.length
structure RdStep (B:Nat) (w w':World) (g:Nat):Prop where
 below:Below B w w'
 keep:KeepBut w w' g none
def rdL (bs:List Int) (p n:Nat):List Int:=if p + n≤bs.length then (bs.take (p + n)).drop p else []
def rdE (bs:List Int) (p n:Nat):Int:=if p + n≤bs.length then 0 else 3
def rdP (bs:List Int) (p n:Nat):Nat:=if p + n≤bs.length then p + n else p
theorem IsRd.lt {B:Nat} {w:World} {g:Nat} {bs:List Int} {p:Nat} (h:IsRd B w g bs p):g < w.heap.size:=by obtain ⟨v,hb,_⟩:=h.blk;exact blk_lt hb
theorem IsRd.base_le {B:Nat} {w:World} {g:Nat} {bs:List Int} {p:Nat} (h:IsRd B w g bs p):B≤w.heap.size:=Nat.le_trans h.ge (Nat.le_of_lt h.lt)
theorem IsRd.below {B:Nat} {w w1:World} {g:Nat} {bs:List Int} {p:Nat} (h:IsRd B w g bs p) (hb:Below w.heap.size w w1):IsRd B w1 g bs p:=by
 obtain ⟨v,hk,hr⟩:=h.blk
 exact ⟨h.ge,⟨v,(hb.block g h.lt).trans hk,Kd.R_below hr hb⟩,h.hi⟩
theorem IsRd.drewN {B:Nat} {w:World} {g:Nat} {bs:List Int} {p:Nat} (h:IsRd B w g bs p) (n:Nat):IsRd B (w.drewN n) g bs p:=h.below (pw_below_drewN (Below.refl _ _) n)
theorem IsRd.far {B:Nat} {w:World} {g k t:Nat} {bs:List Int} {p:Nat} {cs:Array Value} (h:IsRd B w g bs p) (hb:w.heap[k]?=some (.cells cs t (0,0))) (ht:t ≠ 64) (ht2:5 ≠ t) (j:Nat) (u:Value):IsRd B (w.setCell ⟨k,j,none⟩ u) g bs p:=by
 obtain ⟨v,hk,hr⟩:=h.blk
 exact ⟨h.ge,⟨v,blk_far hk (blk_ne hk hb (fun e => ht e.symm)) u,Kd.R_set hr hb (by intro q hq;rcases List.mem_cons.1 hq with rfl|hq;exact ht2;cases hq) j u⟩,h.hi⟩
theorem RdStep.refl (B:Nat) (w:World) (g:Nat):RdStep B w w g:=⟨Below.refl _ _,KeepBut.refl _ _ _⟩
theorem RdStep.drewN (B:Nat) (w:World) (g n:Nat):RdStep B w (w.drewN n) g:=⟨pw_below_drewN (Below.refl _ _) n,⟨Nat.le_refl _,fun _ _ _ _ => rfl⟩⟩
theorem RdStep.trans {B:Nat} {w w1 w2:World} {g:Nat} (h:RdStep B w w1 g) (k:RdStep B w1 w2 g):RdStep B w w2 g:=⟨h.below.trans k.below,h.keep.trans k.keep (.inl rfl)⟩
theorem RdStep.blk {B:Nat} {w w1:World} {g k:Nat} {o:Obj} (h:RdStep B w w1 g) (hk:k ≠ g) (hb:w.heap[k]?=some o):w1.heap[k]?=some o:=(h.keep.2 k (blk_lt hb) hk (by simp)).trans hb
theorem RdStep.R {α:Type} {d:Kd α} {e:Nat} {B base:Nat} {w w1:World} {g:Nat} {u:Value} {ok:Nat→Prop} {xs:List α} (h:RdStep B w w1 g) (hr:d.R e w base ok u xs) (hg:g < base):d.R e w1 base ok u xs :=
 Kd.R_mono (Kd.R_step (Kd.R_bound hr) (fun k hk hl => h.keep.2 k hl (by have:=hk.2.1;omega) (by simp))) (fun k hk => hk.1)
def RdPost (B:Nat) (w:World) (g:Nat) (bs:List Int) (p:Nat) (w':World):Prop:=IsRd B w' g bs p∧RdStep B w w' g
def NextPost (B:Nat) (w:World) (g:Nat) (bs:List Int) (p n:Nat) (e:Ending) (w':World):Prop :=
 ∃ A c,e=.returned (.tuple #[.slice A (rdL bs p n).length c,.int .i64 (rdE bs p n)])∧(rdL bs p n).length≤c∧(Kd.int .u8).C w' A (rdL bs p n).length (rdL bs p n)∧RdPost B w g bs (rdP bs p n) w'
theorem rd_none (g:Nat) (w:World) (h:w.cell? ⟨g,2,none⟩=some (.bool true)):Calls Try.prog 29 #[.pointer (some ⟨g,0,none⟩)] w fun e w' => e=.returned (.bool false)∧w=w':=by
 go_enter Try.func29,Try.ntmps29
 go_wp2
 go_ret
 exact ⟨rfl,rfl⟩
theorem rd_moved {B:Nat} {w w1:World} {g:Nat} {bs:List Int} {p n m:Nat} (hw:w1=(w.drewN m).setCell ⟨g,1,none⟩ (.int .i64 ((p:Int) + (n:Int)))) (h:IsRd B w g bs p) (hi:p + n≤bs.length):IsRd B w1 g bs (p + n):=by
 obtain ⟨v,hb,hr⟩:=h.blk
 rw [hw]
 exact ⟨h.ge,⟨v,blk_set (w:=w.drewN m) hb 1 _,Kd.R_set (w:=w.drewN m) (Kd.R_drewN hr m) hb (by decide) 1 _⟩,hi⟩
theorem rd_movedS {B:Nat} {w w1:World} {g:Nat} {bs:List Int} {p m:Nat} {u:Value} (hw:w1=(w.drewN m).setCell ⟨g,1,none⟩ u) (h:IsRd B w g bs p):RdStep B w w1 g:=by
 rw [hw]
 exact ⟨(pw_below_drewN (Below.refl B w) m).setCell (p:=⟨g,1,none⟩) h.ge u,(show KeepBut w (w.drewN m) g none from ⟨Nat.le_refl _,fun _ _ _ _ => rfl⟩).set_ 1 u⟩
theorem rd_movedC {w w1:World} {g m B n c:Nat} {A:Option Addr} {u:Value} {cs:Array Value} {bs:List Int} (hw:w1=(w.drewN m).setCell ⟨g,1,none⟩ u) (hb:w.heap[g]?=some (.cells cs 64 (0,0))) (hr:Kd.R (Kd.int .u8) 5 w B (fun _ => True) (.slice A n c) bs):(Kd.int .u8).C w1 A bs.length bs:=by
 rw [hw]
 exact row_C (Kd.R_set (w:=w.drewN m) (Kd.R_drewN hr m) hb (by decide) 1 u)
theorem C_nil (w:World):(Kd.int .u8).C w none ([]:List Int).length []:=Kd.C_of_reads (d:=(0:Int)) ⟨rfl,by simp,fun h => absurd h (by simp)⟩
set_option maxHeartbeats 4000000 in
set_option maxRecDepth 100000 in
theorem rd_next.calls (B g:Nat) (bs:List Int) (p n:Nat) (lo hi:Int) (w:World) (hI:IsRd B w g bs p) (h1:lo≤n) (h2:n≤hi) (hl:bs.length≤140737488355328) (hn:n≤4611686018427387904) :
  Calls Try.prog 24 #[.pointer (some ⟨g,0,none⟩),.int .i64 n,.int .i64 lo,.int .i64 hi] w fun e w' => NextPost B w g bs p n e w':=by
 obtain ⟨v,hb,hr⟩:=hI.blk
 obtain ⟨A0,c0,rfl,hc0,hC⟩:=Kd.R_reads hr
 have c0':w.cell? ⟨g,0,none⟩=some (.slice A0 bs.length c0):=(blk_cell hb 0).trans rfl
 have c1':w.cell? ⟨g,1,none⟩=some (.int .i64 (p:Int)):=(blk_cell hb 1).trans rfl
 have c2':w.cell? ⟨g,2,none⟩=some (.bool true):=(blk_cell hb 2).trans rfl
 have f1':w.frozen? ⟨g,1,none⟩=false:=blk_frozen hb 1
 have t1:decide ((n:Int) < lo)=false:=decide_eq_false (by omega)
 have t2:decide (hi < (n:Int))=false:=decide_eq_false (by omega)
 have hp:=hI.hi
 have HI:=Aside0.mk hI
 have HBK:=Aside0.mk hb
 have HR:=Aside0.mk hr
 have HC:=Aside0.mk hC
 have HC0:=Aside0.mk hc0
 clear hI hb hr hC hc0
 by_cases hs:p + n≤bs.length
 ·have t3:decide ((bs.length:Int) - (p:Int) < (n:Int))=false:=decide_eq_false (by omega)
  have hw1:wrap64 ((p:Int) + (n:Int))=(p:Int) + (n:Int):=by unfold wrap64;omega
  have hw2:wrap64 ((p:Int) + (n:Int) - (n:Int))=(p:Int):=by unfold wrap64;omega
  have hw3:wrap64 ((bs.length:Int) - (p:Int))=(bs.length:Int) - (p:Int):=by unfold wrap64;omega
  obtain ⟨i0,hi0,_,hsz,_⟩:=info_parts info5
  obtain ⟨A',hsl,hrd,hcc⟩:=print_mid_of (P:=Try.prog) (Value.int .u8) (0:Int) 23 5 .i64 .i64 Try.underlying23 hi0 hsz A0 c0 bs (p:Int) ((p:Int) + (n:Int)) (by omega) (by omega) (by omega) HC0.out
  have HS:=Aside0.mk hs
  clear hs
  go_enter Try.func24,Try.ntmps24
  go_wp2_with (go_at_call 29;refine (rd_none g _ c2').mono ?_;rintro e w' ⟨rfl,rfl⟩)
  go_quiet (fail)
  go_wp2
  obtain ⟨w1,hw1⟩:∃ w1,w1=(w.drewN nq).setCell ⟨g,1,none⟩ (.int .i64 ((p:Int) + (n:Int))):=⟨_,rfl⟩
  rw [← hw1]
  have HI1:=Aside0.mk (rd_moved hw1 HI.out HS.out)
  have HST:=Aside0.mk (rd_movedS hw1 HI.out)
  have HC1:=Aside0.mk (show (Kd.int .u8).C w1 A0 bs.length bs from rd_movedC hw1 HBK.out HR.out)
  have k0:w1.cell? ⟨g,0,none⟩=some (.slice A0 bs.length c0):=by rw [hw1];exact (blk_cell (blk_set (w:=w.drewN nq) HBK.out 1 _) 0).trans rfl
  have k1:w1.cell? ⟨g,1,none⟩=some (.int .i64 ((p:Int) + (n:Int))):=by rw [hw1];exact (blk_cell (blk_set (w:=w.drewN nq) HBK.out 1 _) 1).trans rfl
  have HRD:=Aside0.mk hrd
  have HCC:=Aside0.mk hcc
  have hlen:((bs.take ((p:Int) + (n:Int)).toNat).drop (p:Int).toNat)=rdL bs p n:=by unfold rdL;rw [if_pos HS.out,show ((p:Int) + (n:Int)).toNat=p + n by omega,Int.toNat_natCast]
  rw [hlen] at hsl
  have HLN:=Aside0.mk hlen
  clear hw1 c0' c1' c2' f1' hrd hcc hlen
  go_quiet (fail)
  go_wp2
  go_ret2
  have e2:rdE bs p n=0:=if_pos HS.out
  have e3:rdP bs p n=p + n:=if_pos HS.out
  have h1:=HCC.out
  have h2:=HRD.out w1 (Kd.reads_of_C (d:=(0:Int)) HC1.out)
  rw [HLN.out] at h1 h2
  unfold NextPost RdPost
  rw [e2,e3]
  exact ⟨A',_,rfl,h1,Kd.C_below (Kd.C_of_reads h2) (pw_below_drewN (Below.refl _ _) _),HI1.out.drewN _,HST.out.trans (RdStep.drewN _ _ _ _)⟩
 ·have t3:decide ((bs.length:Int) - (p:Int) < (n:Int))=true:=decide_eq_true (by omega)
  have hw3:wrap64 ((bs.length:Int) - (p:Int))=(bs.length:Int) - (p:Int):=by unfold wrap64;omega
  have e1:rdL bs p n=[]:=if_neg hs
  have e2:rdE bs p n=3:=if_neg hs
  have e3:rdP bs p n=p:=if_neg hs
  have HE:=Aside0.mk e1
  have HE2:=Aside0.mk e2
  have HE3:=Aside0.mk e3
  clear hs e1 e2 e3
  go_enter Try.func24,Try.ntmps24
  go_wp2_with (go_at_call 29;refine (rd_none g _ c2').mono ?_;rintro e w' ⟨rfl,rfl⟩)
  go_quiet (fail)
  go_wp2
  go_ret2
  unfold NextPost RdPost
  rw [HE.out,HE2.out,HE3.out]
  exact ⟨none,0,rfl,Nat.le_refl _,C_nil _,HI.out.drewN _,RdStep.drewN _ _ _ _⟩
theorem RdPost.drewN {B:Nat} {w:World} {g:Nat} {bs:List Int} {p:Nat} {w1:World} (h:RdPost B w g bs p w1) (n:Nat):RdPost B w g bs p (w1.drewN n):=⟨h.1.drewN n,h.2.trans (RdStep.drewN _ _ _ _)⟩
def rd_Uint.f (k:Nat) (bs:List Int) (p n:Nat):Option (Int × Int × Nat):=(wire_gather_uint64.f k (rdL bs p n) 0).bind fun x => some (x,rdE bs p n,rdP bs p n)
set_option maxHeartbeats 4000000 in
set_option maxRecDepth 100000 in
theorem rd_Uint.calls (k B g:Nat) (bs:List Int) (p n:Nat) (r1 r2:Int) (r3:Nat) (w:World) (hI:IsRd B w g bs p) (h1:1≤n) (h8:n≤8) (hl:bs.length≤140737488355328) (h:rd_Uint.f k bs p n=some (r1,r2,r3)) :
  Calls Try.prog 11 #[.pointer (some ⟨g,0,none⟩),.int .i64 n] w fun e w' => e=.returned (.tuple #[.int .u64 r1,.int .i64 r2])∧RdPost B w g bs r3 w':=by
 obtain ⟨x,hx,h⟩:=Option.bind_eq_some_iff.mp h
 simp only [Option.some.injEq,Prod.mk.injEq] at h
 obtain ⟨rfl,rfl,rfl⟩:=h
 have HN:=Aside0.mk (rd_next.calls B g bs p n 1 8 w hI (by omega) (by omega) hl (by omega))
 have HX:=Aside0.mk hx
 clear hI h1 h8 hl hx
 go_enter Try.func11,Try.ntmps11
 go_wp2_with fail
 with_reducible refine HN.out.mono ?_
 rintro e w1 ⟨A,c,rfl,hc,hC,hP⟩
 have HC:=Aside0.mk hC
 have HCc:=Aside0.mk hc
 have HP:=Aside0.mk hP
 clear hC hc hP HN
 go_wp2_with fail
 refine (wire_gather_uint64.calls k A c (rdL bs p n) 0 x w1 HC.out HCc.out HX.out).mono ?_
 rintro e w2 ⟨rfl,⟨⟨nd,rfl⟩⟩⟩
 go_wp2
 go_ret2
 exact ⟨rfl,HP.out.drewN _⟩
set_option maxHeartbeats 4000000 in
set_option maxRecDepth 100000 in
theorem rd_New.calls (A:Option Addr) (c:Nat) (bs:List Int) (w:World) (hC:(Kd.int .u8).C w A bs.length bs) (hl:bs.length≤140737488355328) :
  Calls Try.prog 9 #[.slice A bs.length c] w fun e w' => ∃ g,e=.returned (.pointer (some ⟨g,0,none⟩))∧w.heap.size≤g∧IsRd w.heap.size w' g bs 0∧Below w.heap.size w w':=by
 have HC:=Aside0.mk hC
 have HL:=Aside0.mk hl
 clear hC hl
 go_enter Try.func9,Try.ntmps9
 go_wp2_with (at_builtin;refine Kd.R_append_row (Value.int .u8) (0:Int) (w0:=w) w.heap.size rfl _ _ 23 5 (.int .u8 0) 1 rfl Try.underlying23 info5 rfl (by decide) (.slice none 0 0) [] bs A bs.length c (fun _ => True) rfl rfl (fun _ _ => trivial) (Kd.R_nil _ _ _ _ _) HC.out (Below.refl _ _) (Nat.le_refl _) ?c6 ?_)
 case c6 => have:=HL.out;simp only [List.length_nil];omega
 intro v1 w3 hR3 hB3 hg3 ho3
 obtain ⟨A1,c1,hv⟩:=Kd.R_slice hR3
 subst hv
 have HR3:=Aside0.mk hR3
 have HB3:=Aside0.mk hB3
 clear hR3 hB3 hg3 ho3
 go_wp2
 go_ret
 exact ⟨_,rfl,HB3.out.size,⟨HB3.out.size,⟨_,blk_new _ _,Kd.R_below HR3.out (below_alloc (Below.refl _ _) _)⟩,Nat.zero_le _⟩,below_alloc HB3.out _⟩
theorem rdL_len {bs:List Int} {p n:Nat} (h:p + n≤bs.length):(rdL bs p n).length=n:=by unfold rdL;rw [if_pos h,List.length_drop,List.length_take];omega
set_option maxHeartbeats 4000000 in
set_option maxRecDepth 100000 in
theorem rd_Left.calls (B g:Nat) (bs:List Int) (p:Nat) (w:World) (hI:IsRd B w g bs p) (hl:bs.length≤140737488355328) :
  Calls Try.prog 18 #[.pointer (some ⟨g,0,none⟩)] w fun e w' => e=.returned (.int .i64 ((bs.length:Int) - (p:Int)))∧w.drew=w':=by
 have hi:=hI.hi
 obtain ⟨v,hb,hr⟩:=hI.blk
 obtain ⟨A,c,rfl⟩:=Kd.R_slice hr
 have c0':w.cell? ⟨g,0,none⟩=some (.slice A bs.length c):=(blk_cell hb 0).trans rfl
 have c1':w.cell? ⟨g,1,none⟩=some (.int .i64 (p:Int)):=(blk_cell hb 1).trans rfl
 have c2':w.cell? ⟨g,2,none⟩=some (.bool true):=(blk_cell hb 2).trans rfl
 have hw:wrap64 ((bs.length:Int) - (p:Int))=(bs.length:Int) - (p:Int):=by unfold wrap64;omega
 clear hI hb hr hi hl
 go_enter Try.func18,Try.ntmps18
 go_wp2_with (go_at_call 29;refine (rd_none g _ c2').mono ?_;rintro e w' ⟨rfl,rfl⟩)
 refine start_ (n:=11) (S:=fun w' => w'.cell? ⟨g,0,none⟩=some (.slice A bs.length c)∧w'.cell? ⟨g,1,none⟩=some (.int .i64 (p:Int))) (ds:=[]) #[false,false,false,false,false,false,false,false,false,false,false] (by kernel_rfl) rfl rfl ⟨c0',c1'⟩ (fun hHeld => ?_)
 refine pure_ (i:=0) (N:=some 5) (v:=?_) (a':=?_) #[true,false,false,false,false,false,false,false,false,false,false] rfl rfl (by kernel_rfl) (fun _ _ _ h => h) (Or.inl ⟨by rfl,?_⟩) ?_ ?_
 rotate_left
 ·intro w'
  go_simp
  with_reducible rfl
 rotate_left
 ·simp only [Act.put,List.setIfInBounds_toArray,List.set_cons_zero,List.set_cons_succ,i64_w,i32_w]
  rfl
 refine pure_ (i:=1) (N:=some 6) (v:=?_) (a':=?_) #[true,true,false,false,false,false,false,false,false,false,false] rfl rfl (by kernel_rfl) (fun _ _ _ h => h) (Or.inl ⟨by rfl,?_⟩) ?_ ?_
 rotate_left
 ·intro w'
  go_simp
  with_reducible rfl
 rotate_left
 ·simp only [Act.put,List.setIfInBounds_toArray,List.set_cons_zero,List.set_cons_succ,i64_w,i32_w]
  rfl
 refine pure_ (i:=2) (N:=some 7) (v:=?_) (a':=?_) #[true,true,true,false,false,false,false,false,false,false,false] rfl rfl (by kernel_rfl) (fun _ _ _ h => h) (Or.inl ⟨by rfl,?_⟩) ?_ ?_
 rotate_left
 ·intro w'
  go_simp
  with_reducible rfl
 rotate_left
 ·simp only [Act.put,List.setIfInBounds_toArray,List.set_cons_zero,List.set_cons_succ,i64_w,i32_w]
  rfl
 refine pure_ (i:=5) (N:=some 10) (v:=?_) (a':=?_) #[true,true,true,false,false,true,false,false,false,false,false] rfl rfl (by kernel_rfl) (fun _ _ _ h => h) (Or.inl ⟨by rfl,?_⟩) ?_ ?_
 rotate_left
 ·intro w'
  go_simp
  with_reducible rfl
 rotate_left
 ·simp only [Act.put,List.setIfInBounds_toArray,List.set_cons_zero,List.set_cons_succ,i64_w,i32_w]
  rfl
 refine pure_ (i:=6) (N:=some 11) (v:=?_) (a':=?_) #[true,true,true,false,false,true,true,false,false,false,false] rfl rfl (by kernel_rfl) (fun _ _ _ h => h) (Or.inl ⟨by rfl,?_⟩) ?_ ?_
 rotate_left
 ·intro w'
  go_simp
  with_reducible rfl
 rotate_left
 ·simp only [Act.put,List.setIfInBounds_toArray,List.set_cons_zero,List.set_cons_succ,i64_w,i32_w]
  rfl
 refine pure_ (i:=7) (N:=some 12) (v:=?_) (a':=?_) #[true,true,true,false,false,true,true,true,false,false,false] rfl rfl (by kernel_rfl) (fun _ _ _ h => h) (Or.inl ⟨by rfl,?_⟩) ?_ ?_
 rotate_left
 ·intro w'
  go_simp
  with_reducible rfl
 rotate_left
 ·simp only [Act.put,List.setIfInBounds_toArray,List.set_cons_zero,List.set_cons_succ,i64_w,i32_w]
  rfl
 refine take_ (i:=3) (N:=some 8) (v:=?_) (a':=?_) #[true,true,true,true,false,true,true,true,false,false,false] rfl rfl (by kernel_rfl) (fun _ _ _ h => h) (Or.inl ⟨by rfl,?_⟩) hHeld ?_ ?_
 rotate_left
 ·rintro w' ⟨s0,s1⟩
  go_simp
  with_reducible rfl
 rotate_left
 ·simp only [Act.put,List.setIfInBounds_toArray,List.set_cons_zero,List.set_cons_succ,i64_w,i32_w]
  rfl
 refine pure_ (i:=4) (N:=some 9) (v:=?_) (a':=?_) #[true,true,true,true,true,true,true,true,false,false,false] rfl rfl (by kernel_rfl) (fun _ _ _ h => h) (Or.inl ⟨by rfl,?_⟩) ?_ ?_
 rotate_left
 ·intro w'
  go_simp
  with_reducible rfl
 rotate_left
 ·simp only [Act.put,List.setIfInBounds_toArray,List.set_cons_zero,List.set_cons_succ,i64_w,i32_w]
  rfl
 refine take_ (i:=8) (N:=some 13) (v:=?_) (a':=?_) #[true,true,true,true,true,true,true,true,true,false,false] rfl rfl (by kernel_rfl) (fun _ _ _ h => h) (Or.inl ⟨by rfl,?_⟩) hHeld ?_ ?_
 rotate_left
 ·rintro w' ⟨s0,s1⟩
  go_simp
  with_reducible rfl
 rotate_left
 ·simp only [Act.put,List.setIfInBounds_toArray,List.set_cons_zero,List.set_cons_succ,i64_w,i32_w]
  rfl
 refine pure_ (i:=9) (N:=some 14) (v:=?_) (a':=?_) #[true,true,true,true,true,true,true,true,true,true,false] rfl rfl (by kernel_rfl) (fun _ _ _ h => h) (Or.inl ⟨by rfl,?_⟩) ?_ ?_
 rotate_left
 ·intro w'
  go_simp
  with_reducible rfl
 rotate_left
 ·simp only [Act.put,List.setIfInBounds_toArray,List.set_cons_zero,List.set_cons_succ,i64_w,i32_w]
  rfl
 refine pure_ (i:=10) (N:=some 2) (v:=?_) (a':=?_) #[true,true,true,true,true,true,true,true,true,true,true] rfl rfl (by kernel_rfl) (fun _ _ _ h => h) (Or.inl ⟨by rfl,?_⟩) ?_ ?_
 rotate_left
 ·intro w'
  go_simp
  with_reducible rfl
 rotate_left
 ·simp only [Act.put,List.setIfInBounds_toArray,List.set_cons_zero,List.set_cons_succ,i64_w,i32_w]
  rfl
 refine done_ (by kernel_rfl) ?_
 try rw [hw]
 go_wp2
 go_ret
 exact ⟨rfl,rfl⟩
end Go.Proofs.Ytnihihcopcoabaa.Px
namespace Go.Proofs.Ytnihihcopcoabaa.Px
open Go.RowKit Go.Proofs.YtnihihcopcoabaaW.PrintWords Go.Proofs.YtnihihcopcoabaaW.PrintLast Go.Proofs.YtnihihcopcoabaaW.PrintMore
set_option linter.unusedVariables false
set_option linter.unusedSimpArgs false
structure IsMs (B:Nat) (w:World) (br g:Nat) (bs:List Int) (p:Nat):Prop where
 R:IsRd B w g bs p
 blk:w.heap[br]?=some (.cells #[.pointer (some ⟨g,0,none⟩)] 33 (0,0))
def Dies (B:Nat) (w:World) (er:Int) (e:Ending) (w':World):Prop:=e=.panicked [{ v:=.iface 25 (.int .i64 er),recovered:=false }]∧Below B w w'
def MsPost (B:Nat) (w:World) (br g:Nat) (bs:List Int) (p:Nat) (w':World):Prop:=IsMs B w' br g bs p∧RdStep B w w' g
section
variable {B:Nat} {w w':World} {br g:Nat} {bs:List Int} {p p':Nat}
theorem IsMs.ne (h:IsMs B w br g bs p):br ≠ g:=by
 rintro rfl
 obtain ⟨v,hb,_⟩:=h.R.blk
 have:=hb.symm.trans h.blk
 injection this with e
 injection e with _ e
 exact absurd e (by decide)
theorem IsMs.step (h:IsMs B w br g bs p) (hR:RdPost B w g bs p' w'):MsPost B w br g bs p' w':=⟨⟨hR.1,hR.2.blk h.ne h.blk⟩,hR.2⟩
theorem IsMs.c0 (h:IsMs B w br g bs p):w.cell? ⟨br,0,none⟩=some (.pointer (some ⟨g,0,none⟩)):=(blk_cell h.blk 0).trans rfl
theorem IsMs.below (h:IsMs B w br g bs p) (hb:Below w.heap.size w w'):IsMs B w' br g bs p:=⟨h.R.below hb,(hb.block _ (blk_lt h.blk)).trans h.blk⟩
end
theorem must_ok (w:World):Calls Try.prog 12 #[.bool true] w fun e w' => e=.returned (.tuple #[])∧w'=w:=by
 go_enter Try.func12,Try.ntmps12
 go_wp2
 go_end0
 exact ⟨rfl,rfl⟩
theorem must_dies (w:World):Calls Try.prog 12 #[.bool false] w fun e w' => e=.panicked [{ v:=.iface 25 (.int .i64 100),recovered:=false }]∧w'=w:=by
 go_enter Try.func12,Try.ntmps12
 go_wp2
 exact ⟨rfl,rfl,rfl⟩
set_option maxHeartbeats 8000000 in
set_option maxRecDepth 100000 in
theorem ms_num_ok (k B br g:Nat) (bs:List Int) (p n:Nat) (x:Int) (p':Nat) (w:World) (hI:IsMs B w br g bs p) (h1:1≤n) (h8:n≤8) (hl:bs.length≤140737488355328) (h:rd_Uint.f k bs p n=some (x,0,p')) :
  Calls Try.prog 10 #[.int .i64 n,.pointer (some ⟨br,0,none⟩)] w fun e w' => e=.returned (.int .i64 (wrap64 x))∧MsPost B w br g bs p' w':=by
 have c0:=hI.c0
 have HI:=Aside0.mk hI
 have HC:=Aside0.mk (rd_Uint.calls k B g bs p n x 0 p' w hI.R h1 h8 hl h)
 clear hI h1 h8 hl h
 go_enter Try.func10,Try.ntmps10
 go_wp2_with fail
 refine HC.out.mono ?_
 rintro e w2 ⟨rfl,hR⟩
 have HR:=Aside0.mk (HI.out.step hR)
 clear hR HI HC c0
 go_wp2
 go_ret
 exact ⟨rfl,HR.out⟩
set_option maxHeartbeats 8000000 in
set_option maxRecDepth 100000 in
theorem ms_num_dies (k B br g:Nat) (bs:List Int) (p n:Nat) (x er:Int) (p':Nat) (w:World) (hI:IsMs B w br g bs p) (h1:1≤n) (h8:n≤8) (hl:bs.length≤140737488355328) (he:er ≠ 0) (h:rd_Uint.f k bs p n=some (x,er,p')) :
  Calls Try.prog 10 #[.int .i64 n,.pointer (some ⟨br,0,none⟩)] w fun e w' => Dies B w er e w':=by
 have c0:=hI.c0
 have HI:=Aside0.mk hI
 have HC:=Aside0.mk (rd_Uint.calls k B g bs p n x er p' w hI.R h1 h8 hl h)
 have hb:(er != 0)=true:=bne_iff_ne.mpr he
 clear hI h1 h8 hl h he
 go_enter Try.func10,Try.ntmps10
 go_wp2_with fail
 refine HC.out.mono ?_
 rintro e w2 ⟨rfl,hR⟩
 have HR:=Aside0.mk hR.2.below
 clear hR HI HC c0
 go_wp2
 exact ⟨rfl,rfl,HR.out⟩
inductive Rdo (α:Type) where
 | ok (x:α) (p:Nat)
 | er (e:Int)
def Rdo.bind {α β:Type} (o:Rdo α) (f:α→Nat→Option (Rdo β)):Option (Rdo β):=match o with
 | .ok x p => f x p
 | .er e => some (.er e)
def NumPost (B:Nat) (w:World) (br g:Nat) (bs:List Int) (o:Rdo Int) (e:Ending) (w':World):Prop:=match o with
 | .ok x p => e=.returned (.int .i64 x)∧MsPost B w br g bs p w'
 | .er n => Dies B w n e w'
def ms_num.f (k:Nat) (bs:List Int) (p n:Nat):Option (Rdo Int):=(rd_Uint.f k bs p n).bind fun r => some (if r.2.1=0 then .ok (wrap64 r.1) r.2.2 else .er r.2.1)
theorem ms_num.calls {k B br g:Nat} {bs:List Int} {p n:Nat} {o:Rdo Int} {w:World} (hI:IsMs B w br g bs p) (h1:1≤n) (h8:n≤8) (hl:bs.length≤140737488355328) (h:ms_num.f k bs p n=some o) :
  Calls Try.prog 10 #[.int .i64 n,.pointer (some ⟨br,0,none⟩)] w fun e w' => NumPost B w br g bs o e w':=by
 obtain ⟨⟨x,er,p'⟩,hx,h⟩:=Option.bind_eq_some_iff.mp h
 obtain rfl:=Option.some.inj h
 by_cases he:er=0
 ·subst he
  exact (ms_num_ok k B br g bs p n x p' w hI h1 h8 hl hx).mono fun e w' hh => hh
 ·dsimp only
  rw [if_neg he]
  exact ms_num_dies k B br g bs p n x er p' w hI h1 h8 hl he hx
end Go.Proofs.Ytnihihcopcoabaa.Px
namespace Go.Proofs.Ytnihihcopcoabaa.Px
open Go.RowKit Go.Proofs.YtnihihcopcoabaaW.PrintWords Go.Proofs.YtnihihcopcoabaaW.PrintLast Go.Proofs.YtnihihcopcoabaaW.PrintMore
attribute [local go_sem] max2_int min2_int max_two min_two max_three min_three max_four min_four
set_option linter.unusedVariables false
set_option linter.unusedSimpArgs false
def pool_is.f (l0:List (S70)) (a1:Int) (a2:Int):Option (Bool):=if a1 > 0 then (if a1 < (l0.length:Int) then (if 0≤a1 then (some (((rd_T70 l0 a1).f0)==a2)) else (none)) else (some false)) else (some false)
set_option maxHeartbeats 80000000 in
set_option maxRecDepth 100000 in
theorem pool_is.calls (A0:Option Addr) (c0:Nat) (l0:List (S70)) (a1:Int) (a2:Int) (r:Bool) (w:World) (hr0:Kd.C k70 w A0 l0.length l0) (hc0:l0.length≤c0) (h:pool_is.f l0 a1 a2=some r) :
  Calls Try.prog 26 #[.slice A0 l0.length c0,.int .i64 a1,.int .i64 a2] w fun e w' => e=.returned (.bool r)∧Drawn0 w w':=by
 have HR0:=Aside0.mk hr0
 have HC0:=Aside0.mk hc0
 clear hr0 hc0
 have H:(if a1 > 0 then (if a1 < (l0.length:Int) then (if 0≤a1 then (some (((rd_T70 l0 a1).f0)==a2)) else (none)) else (some false)) else (some false))=some r:=h
 clear h
 by_cases c4:a1 > 0
 ·rw [if_pos c4] at H
  have c4b0:decide (0 < a1)=true:=decide_eq_true c4
  clear c4
  by_cases c5:a1 < (l0.length:Int)
  ·rw [if_pos c5] at H
   have c5b0:decide (a1 < (l0.length:Int))=true:=decide_eq_true c5
   clear c5
   by_cases c6:0≤a1
   ·rw [if_pos c6] at H
    have c6b0:decide (0≤a1)=true:=decide_eq_true c6
    clear c6
    obtain rfl:=Option.some.inj H
    have p101:0≤(a1:Int):=od_
    have q101:a1 < (l0.length:Int):=od_
    obtain ⟨ad101,e101,hx101_0,hx101_1,hx101_2,hx101_3,hx101_4⟩:=at_T70 HR0.out a1 p101 q101
    cases e101
    replace p101:=eq_true p101
    replace q101:=eq_true q101
    go_enter Try.func26,Try.ntmps26
    go_wp2
    go_ret
    exact ⟨by first|rfl|(simp;done)|(simp [*];done),by repeat (first|exact Drawn0.refl _|apply Drawn0.step)⟩
   ·rw [if_neg c6] at H
    exact absurd H (by simp)
  ·rw [if_neg c5] at H
   have c5b0:decide (a1 < (l0.length:Int))=false:=decide_eq_false c5
   clear c5
   obtain rfl:=Option.some.inj H
   go_enter Try.func26,Try.ntmps26
   go_wp2
   go_ret
   exact ⟨by first|rfl|(simp;done)|(simp [*];done),by repeat (first|exact Drawn0.refl _|apply Drawn0.step)⟩
 ·rw [if_neg c4] at H
  have c4b0:decide (0 < a1)=false:=decide_eq_false c4
  clear c4
  obtain rfl:=Option.some.inj H
  go_enter Try.func26,Try.ntmps26
  go_wp2
  go_ret
  exact ⟨by first|rfl|(simp;done)|(simp [*];done),by repeat (first|exact Drawn0.refl _|apply Drawn0.step)⟩
def pool_Text.f (l0:List (S70)) (a1:Int):Option (ByteArray × Bool):=(pool_is.f l0 a1 1).bind fun t102 => (if t102=true then (if 0≤a1 then (if a1 < (l0.length:Int) then (some ((rd_T70 l0 a1).f1,true)) else (none)) else (none)) else (some ((⟨#[]⟩:ByteArray),false)))
set_option maxHeartbeats 80000000 in
set_option maxRecDepth 100000 in
theorem pool_Text.calls (A0:Option Addr) (c0:Nat) (l0:List (S70)) (a1:Int) (r1:ByteArray) (r2:Bool) (w:World) (hr0:Kd.C k70 w A0 l0.length l0) (hc0:l0.length≤c0) (h:pool_Text.f l0 a1=some (r1,r2)) :
  Calls Try.prog 27 #[.slice A0 l0.length c0,.int .i64 a1] w fun e w' => e=.returned (.tuple #[.string r1,.bool r2])∧Drawn0 w w':=by
 have HR0:=Aside0.mk hr0
 have HC0:=Aside0.mk hc0
 clear hr0 hc0
 have H:((pool_is.f l0 a1 1).bind fun t102 => (if t102=true then (if 0≤a1 then (if a1 < (l0.length:Int) then (some ((rd_T70 l0 a1).f1,true)) else (none)) else (none)) else (some ((⟨#[]⟩:ByteArray),false))))=some (r1,r2):=h
 clear h
 replace H:=Option.bind_eq_some_iff.mp H
 obtain ⟨t102,A30,H⟩:=H
 try dsimp only at H
 have A3:=Aside0.mk A30
 clear A30
 by_cases c4:t102=true
 ·subst c4
  rw [if_pos rfl] at H
  by_cases c5:0≤a1
  ·rw [if_pos c5] at H
   have c5b0:decide (0≤a1)=true:=decide_eq_true c5
   clear c5
   by_cases c6:a1 < (l0.length:Int)
   ·rw [if_pos c6] at H
    have c6b0:decide (a1 < (l0.length:Int))=true:=decide_eq_true c6
    clear c6
    simp only [Option.some.injEq,Prod.mk.injEq] at H
    obtain ⟨rfl,rfl⟩:=H
    go_enter Try.func27,Try.ntmps27
    go_wp2_with (first|(refine callA_ (f:=26) (some 8) Try.func26 #[.slice A0 l0.length c0,.int .i64 a1,.int .i64 1] ?_;(with_reducible refine (pool_is.calls _ _ l0 a1 1 true _ ?side1 ?side2 A3.out).mono ?_);(case side1 => exact kc_ HR0.out);(case side2 => exact HC0.out);rintro e w' ⟨rfl,⟨nd,rfl⟩⟩;refine ⟨_,rfl,?_⟩;have p103:0≤(a1:Int):=od_;have q103:a1 < (l0.length:Int):=od_;obtain ⟨ad103,e103,hx103_0,hx103_1,hx103_2,hx103_3,hx103_4⟩:=at_T70 HR0.out a1 p103 q103;cases e103;replace p103:=eq_true p103;replace q103:=eq_true q103))
    go_ret2
    exact ⟨by first|rfl|(simp;done)|(simp [*];done),by repeat (first|exact Drawn0.refl _|apply Drawn0.step)⟩
   ·rw [if_neg c6] at H
    exact absurd H (by simp)
  ·rw [if_neg c5] at H
   exact absurd H (by simp)
 ·replace c4:=Bool.eq_false_iff.mpr c4
  subst c4
  rw [if_neg (show ¬ (false=true) by decide)] at H
  simp only [Option.some.injEq,Prod.mk.injEq] at H
  obtain ⟨rfl,rfl⟩:=H
  go_enter Try.func27,Try.ntmps27
  go_wp2_with (first|(refine callA_ (f:=26) (some 8) Try.func26 #[.slice A0 l0.length c0,.int .i64 a1,.int .i64 1] ?_;(with_reducible refine (pool_is.calls _ _ l0 a1 1 false _ ?side1 ?side2 A3.out).mono ?_);(case side1 => exact kc_ HR0.out);(case side2 => exact HC0.out);rintro e w' ⟨rfl,⟨nd,rfl⟩⟩;refine ⟨_,rfl,?_⟩))
  go_ret2
  exact ⟨by first|rfl|(simp;done)|(simp [*];done),by repeat (first|exact Drawn0.refl _|apply Drawn0.step)⟩
def pool_Class.f (l0:List (S70)) (a1:Int):Option (ByteArray × Bool):=(pool_is.f l0 a1 7).bind fun t104 => (if t104=true then (if 0≤a1 then (if a1 < (l0.length:Int) then ((pool_Text.f l0 ((rd_T70 l0 a1).f3)).bind fun bt106 => (some (bt106.1,bt106.2))) else (none)) else (none)) else (some ((⟨#[]⟩:ByteArray),false)))
set_option maxHeartbeats 80000000 in
set_option maxRecDepth 100000 in
theorem pool_Class.calls (A0:Option Addr) (c0:Nat) (l0:List (S70)) (a1:Int) (r1:ByteArray) (r2:Bool) (w:World) (hr0:Kd.C k70 w A0 l0.length l0) (hc0:l0.length≤c0) (h:pool_Class.f l0 a1=some (r1,r2)) :
  Calls Try.prog 14 #[.slice A0 l0.length c0,.int .i64 a1] w fun e w' => e=.returned (.tuple #[.string r1,.bool r2])∧Drawn0 w w':=by
 have HR0:=Aside0.mk hr0
 have HC0:=Aside0.mk hc0
 clear hr0 hc0
 have H:((pool_is.f l0 a1 7).bind fun t104 => (if t104=true then (if 0≤a1 then (if a1 < (l0.length:Int) then ((pool_Text.f l0 ((rd_T70 l0 a1).f3)).bind fun bt106 => (some (bt106.1,bt106.2))) else (none)) else (none)) else (some ((⟨#[]⟩:ByteArray),false))))=some (r1,r2):=h
 clear h
 replace H:=Option.bind_eq_some_iff.mp H
 obtain ⟨t104,A30,H⟩:=H
 try dsimp only at H
 have A3:=Aside0.mk A30
 clear A30
 by_cases c4:t104=true
 ·subst c4
  rw [if_pos rfl] at H
  by_cases c5:0≤a1
  ·rw [if_pos c5] at H
   have c5b0:decide (0≤a1)=true:=decide_eq_true c5
   clear c5
   by_cases c6:a1 < (l0.length:Int)
   ·rw [if_pos c6] at H
    have c6b0:decide (a1 < (l0.length:Int))=true:=decide_eq_true c6
    clear c6
    replace H:=Option.bind_eq_some_iff.mp H
    obtain ⟨⟨t106,t107⟩,A70,H⟩:=H
    try dsimp only at H
    have A7:=Aside0.mk A70
    clear A70
    simp only [Option.some.injEq,Prod.mk.injEq] at H
    obtain ⟨rfl,rfl⟩:=H
    go_enter Try.func14,Try.ntmps14
    go_wp2_with (first|(refine callA_ (f:=26) (some 8) Try.func26 #[.slice A0 l0.length c0,.int .i64 a1,.int .i64 7] ?_;(with_reducible refine (pool_is.calls _ _ l0 a1 7 true _ ?side1 ?side2 A3.out).mono ?_);(case side1 => exact kc_ HR0.out);(case side2 => exact HC0.out);rintro e w' ⟨rfl,⟨nd,rfl⟩⟩;refine ⟨_,rfl,?_⟩;have p105:0≤(a1:Int):=od_;have q105:a1 < (l0.length:Int):=od_;obtain ⟨ad105,e105,hx105_0,hx105_1,hx105_2,hx105_3,hx105_4⟩:=at_T70 HR0.out a1 p105 q105;cases e105;replace p105:=eq_true p105;replace q105:=eq_true q105)|(refine callA_ (f:=27) (some 16) Try.func27 #[.slice (some ad105) l0.length c0,.int .i64 ((rd_T70 l0 a1).f3)] ?_;(with_reducible refine (pool_Text.calls _ _ l0 ((rd_T70 l0 a1).f3) t106 t107 _ ?side1 ?side2 A7.out).mono ?_);(case side1 => exact kc_ HR0.out);(case side2 => exact HC0.out);rintro e w' ⟨rfl,⟨nd,rfl⟩⟩;refine ⟨_,rfl,?_⟩))
    go_ret2
    exact ⟨by first|rfl|(simp;done)|(simp [*];done),by repeat (first|exact Drawn0.refl _|apply Drawn0.step)⟩
   ·rw [if_neg c6] at H
    exact absurd H (by simp)
  ·rw [if_neg c5] at H
   exact absurd H (by simp)
 ·replace c4:=Bool.eq_false_iff.mpr c4
  subst c4
  rw [if_neg (show ¬ (false=true) by decide)] at H
  simp only [Option.some.injEq,Prod.mk.injEq] at H
  obtain ⟨rfl,rfl⟩:=H
  go_enter Try.func14,Try.ntmps14
  go_wp2_with (first|(refine callA_ (f:=26) (some 8) Try.func26 #[.slice A0 l0.length c0,.int .i64 a1,.int .i64 7] ?_;(with_reducible refine (pool_is.calls _ _ l0 a1 7 false _ ?side1 ?side2 A3.out).mono ?_);(case side1 => exact kc_ HR0.out);(case side2 => exact HC0.out);rintro e w' ⟨rfl,⟨nd,rfl⟩⟩;refine ⟨_,rfl,?_⟩))
  go_ret2
  exact ⟨by first|rfl|(simp;done)|(simp [*];done),by repeat (first|exact Drawn0.refl _|apply Drawn0.step)⟩
def IsS78 (w0 W:World) (g:Nat) (f0:ByteArray) (f1:Int):Prop:=W.heap[g]?=some (.cells #[.string f0,.int .i64 f1] 78 (0,0))∧w0.heap.size≤g
theorem IsS78.grown {w0 W:World} {g:Nat} {f0:ByteArray} {f1:Int} {W1:World} {row:Option Nat} (h:IsS78 w0 W g f0 f1) (hw:W.grownBy W1 row) (hne:some g ≠ row):IsS78 w0 W1 g f0 f1:=by
 obtain ⟨hb,hg⟩:=h
 exact ⟨blk_grown hb hw hne,hg⟩
theorem IsS78.kept {w0 W:World} {g:Nat} {f0:ByteArray} {f1:Int} {W1:World} {S:Nat→Prop} (h:IsS78 w0 W g f0 f1) (hk:Kept W W1 S) (hne:¬ S g):IsS78 w0 W1 g f0 f1:=by
 obtain ⟨hb,hg⟩:=h
 exact ⟨blk_kept hb hk hne,hg⟩
theorem IsS78.below {w0 W:World} {g:Nat} {f0:ByteArray} {f1:Int} {W1:World} (h:IsS78 w0 W g f0 f1) (hw:Below W.heap.size W W1):IsS78 w0 W1 g f0 f1:=h.grown (grown_of_below hw none) (by simp)
theorem IsS78.alloc {w0 W:World} {g:Nat} {f0:ByteArray} {f1:Int} (h:IsS78 w0 W g f0 f1) (o:Obj):IsS78 w0 (W.alloc o) g f0 f1:=h.below (below_alloc (Below.refl _ _) o)
theorem IsS78.drewN {w0 W:World} {g:Nat} {f0:ByteArray} {f1:Int} (h:IsS78 w0 W g f0 f1) (m:Nat):IsS78 w0 (W.drewN m) g f0 f1:=h
theorem IsS78.drew {w0 W:World} {g:Nat} {f0:ByteArray} {f1:Int} (h:IsS78 w0 W g f0 f1):IsS78 w0 W.drew g f0 f1:=h
theorem IsS78.at_ {w0 W:World} {g:Nat} {f0:ByteArray} {f1:Int} {w':World} {m:Nat} (hq:W.drewN m=w') (h:IsS78 w0 W g f0 f1):IsS78 w0 w' g f0 f1:=by subst hq;exact IsS78.drewN h m
theorem IsS78.apart {w0 W:World} {g:Nat} {f0:ByteArray} {f1:Int} {α:Type} {d:Kd α} {e:Nat} {base:Nat} {ok:Nat→Prop} {v:Value} {xs:List α} (h:IsS78 w0 W g f0 f1) (ho:d.R e W base ok v xs) (ht:∀ q,q ∈ e :: d.E→q ≠ 78):d.R e W base (fun k => ok k∧k ≠ g) v xs:=by
 obtain ⟨hb,hg⟩:=h
 exact Kd.R_types ho hb ht
theorem IsS78.own_ne {w0 W:World} {g:Nat} {f0:ByteArray} {f1:Int} {α:Type} {d:Kd α} {e:Nat} {base:Nat} {ok:Nat→Prop} {v:Value} {xs:List α} (h:IsS78 w0 W g f0 f1) (ho:d.R e W base ok v xs) (ht:e ≠ 78):some g ≠ v.ownBlock:=by
 obtain ⟨hb,hg⟩:=h
 exact Kd.R_ne ho hb ht
theorem IsS78.lt {w0 W:World} {g:Nat} {f0:ByteArray} {f1:Int} (h:IsS78 w0 W g f0 f1):g < W.heap.size:=by
 obtain ⟨hb,hg⟩:=h
 exact blk_lt hb
theorem IsS78.ge {w0 W:World} {g:Nat} {f0:ByteArray} {f1:Int} (h:IsS78 w0 W g f0 f1):w0.heap.size≤g:=by
 obtain ⟨hb,hg⟩:=h
 exact hg
theorem IsS78.far {w0 W:World} {g:Nat} {f0:ByteArray} {f1:Int} {p:Addr} (h:IsS78 w0 W g f0 f1) (hne:g ≠ p.block) (u:Value):IsS78 w0 (W.setCell p u) g f0 f1:=by
 obtain ⟨hb,hg⟩:=h
 exact ⟨blk_far hb hne u,hg⟩
theorem cellS78_0 {W:World} {g:Nat} {f0:ByteArray} {f1:Int} (h:W.heap[g]?=some (.cells #[.string f0,.int .i64 f1] 78 (0,0))):W.cell? ⟨g,0,none⟩=some (.string f0):=(blk_cell h 0).trans rfl
theorem IsS78.set_0 {w0 W:World} {g:Nat} {f0:ByteArray} {f1:Int} (h:IsS78 w0 W g f0 f1) (x:ByteArray):IsS78 w0 (W.setCell ⟨g,0,none⟩ (.string x)) g x f1:=by
 obtain ⟨hb,hg⟩:=h
 exact ⟨by simpa using blk_set hb 0 (.string x),hg⟩
theorem cellS78_1 {W:World} {g:Nat} {f0:ByteArray} {f1:Int} (h:W.heap[g]?=some (.cells #[.string f0,.int .i64 f1] 78 (0,0))):W.cell? ⟨g,1,none⟩=some (.int .i64 f1):=(blk_cell h 1).trans rfl
theorem IsS78.set_1 {w0 W:World} {g:Nat} {f0:ByteArray} {f1:Int} (h:IsS78 w0 W g f0 f1) (x:Int):IsS78 w0 (W.setCell ⟨g,1,none⟩ (.int .i64 x)) g f0 x:=by
 obtain ⟨hb,hg⟩:=h
 exact ⟨by simpa using blk_set hb 1 (.int .i64 x),hg⟩
theorem IsS78.new (w0 W:World) (f0:ByteArray) (f1:Int) (hB:Below w0.heap.size w0 W):IsS78 w0 (W.alloc (.cells #[.string f0,.int .i64 f1] 78)) W.heap.size f0 f1:=⟨by simpa using heap_alloc_new W _,hB.size⟩
def kind_scan_left.f (s0_0:ByteArray) (s0_1:Int):Option (ByteArray × ByteArray × Int):=if 0≤s0_1 then (if s0_1≤(s0_0.size:Int) then (some (s0_0.extract (s0_1:Int).toNat s0_0.size,s0_0,s0_1)) else (none)) else (none)
set_option maxHeartbeats 80000000 in
set_option maxRecDepth 100000 in
theorem kind_scan_left.calls (g:Nat) (s0_0:ByteArray) (s0_1:Int) (r1:ByteArray) (r2:ByteArray) (r3:Int) (w0 w:World) (hI:IsS78 w0 w g s0_0 s0_1) (hB:Below w0.heap.size w0 w) (h:kind_scan_left.f s0_0 s0_1=some (r1,r2,r3)) :
  Calls Try.prog 33 #[.pointer (some ⟨g,0,none⟩)] w fun e w' => e=.returned (.string r1)∧IsS78 w0 w' g r2 r3∧Below w0.heap.size w0 w'∧KeepBut w w' g none:=by
 have HI0:=Aside0.mk hI
 have HK:=Aside0.mk (KeepBut.refl w g none)
 have HL:=Aside0.mk hB.size
 clear hI
 have HW0:=Aside0.mk hB.size
 have HB:=Aside0.mk hB
 clear hB
 have H:(if 0≤s0_1 then (if s0_1≤(s0_0.size:Int) then (some (s0_0.extract (s0_1:Int).toNat s0_0.size,s0_0,s0_1)) else (none)) else (none))=some (r1,r2,r3):=h
 clear h
 by_cases c2:0≤s0_1
 ·rw [if_pos c2] at H
  have c2b0:=eq_true c2
  have c2b1:decide (0≤s0_1)=true:=decide_eq_true c2
  clear c2
  by_cases c3:s0_1≤(s0_0.size:Int)
  ·rw [if_pos c3] at H
   have c3b0:=eq_true c3
   have c3b1:decide (s0_1≤(s0_0.size:Int))=true:=decide_eq_true c3
   clear c3
   simp only [Option.some.injEq,Prod.mk.injEq] at H
   obtain ⟨rfl,rfl,rfl⟩:=H
   obtain ⟨HGz4,hgz4⟩:=HI0.out
   have hcz4_0:=cellS78_0 HGz4
   have hcz4_1:=cellS78_1 HGz4
   have hfz4_0:=blk_frozen HGz4 0
   have hfz4_1:=blk_frozen HGz4 1
   clear HGz4 hgz4
   go_enter Try.func33,Try.ntmps33
   go_wp2
   repeat (go_quiet (fail);try go_wp2)
   go_ret
   exact ⟨ew_,by repeat (first|(with_reducible first|exact HI0.out|apply IsS78.alloc|apply IsS78.drewN|apply IsS78.drew|apply IsS78.set_0|apply IsS78.set_1)|exact HI0.out|apply IsS78.set_0|apply IsS78.set_1),by repeat (first|(with_reducible first|exact HB.out|apply below_alloc|apply pw_below_drewN|apply below_drew1|refine below_set ?_ (IsS78.ge HI0.out))|exact HB.out),by repeat (first|(with_reducible first|exact HK.out|apply KeepBut.set_|apply keep_drewN|apply keep_drew|apply keep_alloc)|exact HK.out)⟩
  ·rw [if_neg c3] at H
   exact absurd H (by simp)
 ·rw [if_neg c2] at H
  exact absurd H (by simp)
def stringslite_HasPrefix.f (a0:ByteArray) (a1:ByteArray):Option (Bool):=if (a0.size:Int) ≥ (a1.size:Int) then (if 0≤(a1.size:Int) then (if (a1.size:Int)≤(a0.size:Int) then (some ((a0.extract 0 ((a1.size:Int):Int).toNat).toList==a1.toList)) else (none)) else (none)) else (some false)
set_option maxHeartbeats 80000000 in
set_option maxRecDepth 100000 in
theorem stringslite_HasPrefix.calls (a0:ByteArray) (a1:ByteArray) (r:Bool) (w:World) (h:stringslite_HasPrefix.f a0 a1=some r) :
  Calls Try.prog 43 #[.string a0,.string a1] w fun e w' => e=.returned (.bool r)∧Drawn0 w w':=by
 have H:(if (a0.size:Int) ≥ (a1.size:Int) then (if 0≤(a1.size:Int) then (if (a1.size:Int)≤(a0.size:Int) then (some ((a0.extract 0 ((a1.size:Int):Int).toNat).toList==a1.toList)) else (none)) else (none)) else (some false))=some r:=h
 clear h
 by_cases c3:(a0.size:Int) ≥ (a1.size:Int)
 ·rw [if_pos c3] at H
  have c3b0:decide ((a1.size:Int)≤(a0.size:Int))=true:=decide_eq_true c3
  have c3b1:decide (a1.size≤a0.size)=true:=decide_eq_true (Int.ofNat_le.mp c3)
  clear c3
  by_cases c4:0≤(a1.size:Int)
  ·rw [if_pos c4] at H
   have c4b0:=eq_true c4
   have c4b1:decide (0≤(a1.size:Int))=true:=decide_eq_true c4
   clear c4
   by_cases c5:(a1.size:Int)≤(a0.size:Int)
   ·rw [if_pos c5] at H
    have c5b0:=eq_true c5
    have c5b1:decide ((a1.size:Int)≤(a0.size:Int))=true:=decide_eq_true c5
    clear c5
    obtain rfl:=Option.some.inj H
    go_enter Try.func43,Try.ntmps43
    go_wp2
    go_ret
    exact ⟨by first|rfl|(simp;done)|(simp [*];done),by repeat (first|exact Drawn0.refl _|apply Drawn0.step)⟩
   ·rw [if_neg c5] at H
    exact absurd H (by simp)
  ·rw [if_neg c4] at H
   exact absurd H (by simp)
 ·rw [if_neg c3] at H
  have c3b0:decide ((a1.size:Int)≤(a0.size:Int))=false:=decide_eq_false c3
  have c3b1:decide (a1.size≤a0.size)=false:=decide_eq_false (fun h => c3 (Int.ofNat_le.mpr h))
  clear c3
  obtain rfl:=Option.some.inj H
  go_enter Try.func43,Try.ntmps43
  go_wp2
  go_ret
  exact ⟨by first|rfl|(simp;done)|(simp [*];done),by repeat (first|exact Drawn0.refl _|apply Drawn0.step)⟩
def strings_HasPrefix.f (a0:ByteArray) (a1:ByteArray):Option (Bool):=(stringslite_HasPrefix.f a0 a1).bind fun t108 => (some t108)
set_option maxHeartbeats 80000000 in
set_option maxRecDepth 100000 in
theorem strings_HasPrefix.calls (a0:ByteArray) (a1:ByteArray) (r:Bool) (w:World) (h:strings_HasPrefix.f a0 a1=some r) :
  Calls Try.prog 36 #[.string a0,.string a1] w fun e w' => e=.returned (.bool r)∧Drawn0 w w':=by
 have H:((stringslite_HasPrefix.f a0 a1).bind fun t108 => (some t108))=some r:=h
 clear h
 replace H:=Option.bind_eq_some_iff.mp H
 obtain ⟨t108,A30,H⟩:=H
 try dsimp only at H
 have A3:=Aside0.mk A30
 clear A30
 obtain rfl:=Option.some.inj H
 go_enter Try.func36,Try.ntmps36
 go_wp2_with (first|(refine callA_ (f:=43) (some 7) Try.func43 #[.string a0,.string a1] ?_;(with_reducible refine (stringslite_HasPrefix.calls a0 a1 t108 _ A3.out).mono ?_);rintro e w' ⟨rfl,⟨nd,rfl⟩⟩;refine ⟨_,rfl,?_⟩))
 go_ret
 exact ⟨by first|rfl|(simp;done)|(simp [*];done),by repeat (first|exact Drawn0.refl _|apply Drawn0.step)⟩
end Go.Proofs.Ytnihihcopcoabaa.Px
namespace Go.Proofs.Ytnihihcopcoabaa.Px
open Go.RowKit Go.Proofs.YtnihihcopcoabaaW.PrintWords Go.Proofs.YtnihihcopcoabaaW.PrintLast Go.Proofs.YtnihihcopcoabaaW.PrintMore
attribute [local go_sem] max2_int min2_int max_two min_two max_three min_three max_four min_four
set_option linter.unusedVariables false
set_option linter.unusedSimpArgs false
def kind_plain.l0:Nat→ByteArray→Int→Int→Option (Bool)
 | 0,_,_,_ => none
 | k + 1,x0,x5,x6 => if x6 < x5 then (if 0≤x6 then (if x6 < (x0.size:Int) then (if (bt x0 x6)=46 then (some false) else (if (bt x0 x6)=59 then (some false) else (if (bt x0 x6)=91 then (some false) else (if (bt x0 x6)=47 then (some false) else (if (bt x0 x6)=60 then (some false) else (if (bt x0 x6)=62 then (some false) else (kind_plain.l0 k x0 x5 (wrap64 (x6 + 1))))))))) else (none)) else (none)) else (if x0.toList=([]:List UInt8) then (some false) else (some (decide ((x0.size:Int)≤256))))
def kind_plain.f (k:Nat) (a0:ByteArray):Option (Bool):=kind_plain.l0 k a0 (a0.size:Int) 0
set_option maxHeartbeats 80000000 in
set_option maxRecDepth 100000 in
theorem kind_plain.calls (k:Nat) (a0:ByteArray) (r:Bool) (w:World) (h:kind_plain.f k a0=some r) :
  Calls Try.prog 38 #[.string a0] w fun e w' => e=.returned (.bool r)∧Drawn0 w w':=by
 have H:(kind_plain.l0 k a0 (a0.size:Int) 0)=some r:=h
 clear h
 have H':=Aside0.mk H
 clear H
 go_enter Try.func38,Try.ntmps38
 go_wp2
 go_loopg [6] k (fun kq v6 w' => ∃ (x6_1:Int),v6=.int .i64 x6_1∧Aside0 (kind_plain.l0 kq a0 (a0.size:Int) x6_1=some r)∧Aside0 (kq≤k)∧Drawn0 w w')
 case atStart => exact ⟨(0),r3_,H',⟨Nat.le_refl _⟩,by repeat (first|exact Drawn0.refl _|apply Drawn0.step)⟩
 case round =>
  clear H'
  obtain ⟨x6_1,rfl,HA,HK1,⟨m1,rfl⟩⟩:=hrel
  cases gk with
  | zero => exact absurd HA.out (by simp [kind_plain.l0])
  | succ k1 =>
   have H:=HA.out
   clear HA
   simp only [kind_plain.l0] at H
   by_cases c2:x6_1 < (a0.size:Int)
   ·rw [if_pos c2] at H
    have c2b0:decide (x6_1 < (a0.size:Int))=true:=decide_eq_true c2
    clear c2
    by_cases c3:0≤x6_1
    ·rw [if_pos c3] at H
     have c3b0:decide (0≤x6_1)=true:=decide_eq_true c3
     clear c3
     by_cases c4:x6_1 < (a0.size:Int)
     ·rw [if_pos c4] at H
      have c4b0:decide (x6_1 < (a0.size:Int))=true:=decide_eq_true c4
      clear c4
      by_cases c6:(bt a0 x6_1)=46
      ·rw [if_pos c6] at H
       have c6b0:((bt a0 x6_1)==46)=true:=beq_iff_eq.mpr c6
       have c6b1:((bt a0 x6_1) != 46)=false:=bne_eq_false_iff_eq.mpr c6
       clear c6
       obtain rfl:=Option.some.inj H
       have p5:0≤(x6_1:Int):=od_
       have q5:x6_1 < (a0.size:Int):=od_
       have hx5:=bt_at a0 x6_1
       replace p5:=eq_true p5
       replace q5:=eq_true q5
       go_wp2
       go_ret
       exact ⟨by first|rfl|(simp;done)|(simp [*];done),by repeat (first|exact Drawn0.refl _|apply Drawn0.step)⟩
      ·rw [if_neg c6] at H
       have c6b0:((bt a0 x6_1)==46)=false:=beq_eq_false_iff_ne.mpr c6
       have c6b1:((bt a0 x6_1) != 46)=true:=bne_iff_ne.mpr c6
       by_cases c7:(bt a0 x6_1)=59
       ·rw [if_pos c7] at H
        have c7b0:((bt a0 x6_1)==59)=true:=beq_iff_eq.mpr c7
        have c7b1:((bt a0 x6_1) != 59)=false:=bne_eq_false_iff_eq.mpr c7
        clear c7
        obtain rfl:=Option.some.inj H
        have p5:0≤(x6_1:Int):=od_
        have q5:x6_1 < (a0.size:Int):=od_
        have hx5:=bt_at a0 x6_1
        replace p5:=eq_true p5
        replace q5:=eq_true q5
        go_wp2
        go_ret
        exact ⟨by first|rfl|(simp;done)|(simp [*];done),by repeat (first|exact Drawn0.refl _|apply Drawn0.step)⟩
       ·rw [if_neg c7] at H
        have c7b0:((bt a0 x6_1)==59)=false:=beq_eq_false_iff_ne.mpr c7
        have c7b1:((bt a0 x6_1) != 59)=true:=bne_iff_ne.mpr c7
        by_cases c8:(bt a0 x6_1)=91
        ·rw [if_pos c8] at H
         have c8b0:((bt a0 x6_1)==91)=true:=beq_iff_eq.mpr c8
         have c8b1:((bt a0 x6_1) != 91)=false:=bne_eq_false_iff_eq.mpr c8
         clear c8
         obtain rfl:=Option.some.inj H
         have p5:0≤(x6_1:Int):=od_
         have q5:x6_1 < (a0.size:Int):=od_
         have hx5:=bt_at a0 x6_1
         replace p5:=eq_true p5
         replace q5:=eq_true q5
         go_wp2
         go_ret
         exact ⟨by first|rfl|(simp;done)|(simp [*];done),by repeat (first|exact Drawn0.refl _|apply Drawn0.step)⟩
        ·rw [if_neg c8] at H
         have c8b0:((bt a0 x6_1)==91)=false:=beq_eq_false_iff_ne.mpr c8
         have c8b1:((bt a0 x6_1) != 91)=true:=bne_iff_ne.mpr c8
         by_cases c9:(bt a0 x6_1)=47
         ·rw [if_pos c9] at H
          have c9b0:((bt a0 x6_1)==47)=true:=beq_iff_eq.mpr c9
          have c9b1:((bt a0 x6_1) != 47)=false:=bne_eq_false_iff_eq.mpr c9
          clear c9
          obtain rfl:=Option.some.inj H
          have p5:0≤(x6_1:Int):=od_
          have q5:x6_1 < (a0.size:Int):=od_
          have hx5:=bt_at a0 x6_1
          replace p5:=eq_true p5
          replace q5:=eq_true q5
          go_wp2
          go_ret
          exact ⟨by first|rfl|(simp;done)|(simp [*];done),by repeat (first|exact Drawn0.refl _|apply Drawn0.step)⟩
         ·rw [if_neg c9] at H
          have c9b0:((bt a0 x6_1)==47)=false:=beq_eq_false_iff_ne.mpr c9
          have c9b1:((bt a0 x6_1) != 47)=true:=bne_iff_ne.mpr c9
          by_cases c10:(bt a0 x6_1)=60
          ·rw [if_pos c10] at H
           have c10b0:((bt a0 x6_1)==60)=true:=beq_iff_eq.mpr c10
           have c10b1:((bt a0 x6_1) != 60)=false:=bne_eq_false_iff_eq.mpr c10
           clear c10
           obtain rfl:=Option.some.inj H
           have p5:0≤(x6_1:Int):=od_
           have q5:x6_1 < (a0.size:Int):=od_
           have hx5:=bt_at a0 x6_1
           replace p5:=eq_true p5
           replace q5:=eq_true q5
           go_wp2
           go_ret
           exact ⟨by first|rfl|(simp;done)|(simp [*];done),by repeat (first|exact Drawn0.refl _|apply Drawn0.step)⟩
          ·rw [if_neg c10] at H
           have c10b0:((bt a0 x6_1)==60)=false:=beq_eq_false_iff_ne.mpr c10
           have c10b1:((bt a0 x6_1) != 60)=true:=bne_iff_ne.mpr c10
           by_cases c11:(bt a0 x6_1)=62
           ·rw [if_pos c11] at H
            have c11b0:((bt a0 x6_1)==62)=true:=beq_iff_eq.mpr c11
            have c11b1:((bt a0 x6_1) != 62)=false:=bne_eq_false_iff_eq.mpr c11
            clear c11
            obtain rfl:=Option.some.inj H
            have p5:0≤(x6_1:Int):=od_
            have q5:x6_1 < (a0.size:Int):=od_
            have hx5:=bt_at a0 x6_1
            replace p5:=eq_true p5
            replace q5:=eq_true q5
            go_wp2
            go_ret
            exact ⟨by first|rfl|(simp;done)|(simp [*];done),by repeat (first|exact Drawn0.refl _|apply Drawn0.step)⟩
           ·rw [if_neg c11] at H
            have c11b0:((bt a0 x6_1)==62)=false:=beq_eq_false_iff_ne.mpr c11
            have c11b1:((bt a0 x6_1) != 62)=true:=bne_iff_ne.mpr c11
            have H':=Aside0.mk H
            clear H
            have p5:0≤(x6_1:Int):=od_
            have q5:x6_1 < (a0.size:Int):=od_
            have hx5:=bt_at a0 x6_1
            replace p5:=eq_true p5
            replace q5:=eq_true q5
            go_wp2
            go_roundg k1
            case measure => have:=HK1.out;omega
            case rel => exact ⟨(wrap64 (x6_1 + 1)),r3_,H',⟨by have:=HK1.out;omega⟩,by repeat (first|exact Drawn0.refl _|apply Drawn0.step)⟩
     ·rw [if_neg c4] at H
      exact absurd H (by simp)
    ·rw [if_neg c3] at H
     exact absurd H (by simp)
   ·rw [if_neg c2] at H
    have c2b0:decide (x6_1 < (a0.size:Int))=false:=decide_eq_false c2
    clear c2
    by_cases c12:a0.toList=([]:List UInt8)
    ·rw [if_pos c12] at H
     have c12b0:(a0.toList==([]:List UInt8))=true:=beq_iff_eq.mpr c12
     have c12b1:(a0.toList != ([]:List UInt8))=false:=bne_eq_false_iff_eq.mpr c12
     clear c12
     obtain rfl:=Option.some.inj H
     go_wp2
     go_ret
     exact ⟨by first|rfl|(simp;done)|(simp [*];done),by repeat (first|exact Drawn0.refl _|apply Drawn0.step)⟩
    ·rw [if_neg c12] at H
     have c12b0:(a0.toList==([]:List UInt8))=false:=beq_eq_false_iff_ne.mpr c12
     have c12b1:(a0.toList != ([]:List UInt8))=true:=bne_iff_ne.mpr c12
     obtain rfl:=Option.some.inj H
     go_wp2
     go_ret
     exact ⟨by first|rfl|(simp;done)|(simp [*];done),by repeat (first|exact Drawn0.refl _|apply Drawn0.step)⟩
end Go.Proofs.Ytnihihcopcoabaa.Px
namespace Go.Proofs.Ytnihihcopcoabaa.Px
open Go.RowKit Go.Proofs.YtnihihcopcoabaaW.PrintWords Go.Proofs.YtnihihcopcoabaaW.PrintLast Go.Proofs.YtnihihcopcoabaaW.PrintMore
structure GG (w:World):Prop where mk ::
 maxLen:∃ m,w.cell? ⟨Try.laysM145_ren.g 1,0,none⟩=some (.int .i64 m)
theorem GG.below {w w':World} (h:GG w) (hb:Below w.heap.size w w'):GG w':=by
 obtain ⟨m,hm⟩:=h.maxLen
 exact ⟨m,pw_cell_below hb hm⟩
theorem GG.of_shaped {w:World} (h:w.ShapedOpen Try.prog):GG w:=⟨Try.laysM145.s1_3 w h⟩
end Go.Proofs.Ytnihihcopcoabaa.Px
namespace Go.Proofs.Ytnihihcopcoabaa.Px
open Go.RowKit Go.Proofs.YtnihihcopcoabaaW.PrintWords Go.Proofs.YtnihihcopcoabaaW.PrintLast Go.Proofs.YtnihihcopcoabaaW.PrintMore
def strings_Cut.f (a0 a1:ByteArray):Option (ByteArray × ByteArray × Bool) :=
 if a0.size < 4294967281 then some (⟨(Lib.cut a0.data.toList a1.data.toList).1.toArray⟩,⟨(Lib.cut a0.data.toList a1.data.toList).2.1.toArray⟩,(Lib.cut a0.data.toList a1.data.toList).2.2) else none
theorem strings_Cut.calls (a0 a1:ByteArray) (r1 r2:ByteArray) (r3:Bool) (w:World) (hG:Aside0 (GG w)) (h:strings_Cut.f a0 a1=some (r1,r2,r3)) :
  Calls Try.prog 37 #[.string a0,.string a1] w fun e w' => e=.returned (.tuple #[.string r1,.string r2,.bool r3])∧Drawn0 w w':=by
 unfold strings_Cut.f at h
 by_cases hs:a0.size < 4294967281
 ·rw [if_pos hs] at h
  simp only [Option.some.injEq,Prod.mk.injEq] at h
  obtain ⟨rfl,rfl,rfl⟩:=h
  obtain ⟨m,hm⟩:=hG.out.maxLen
  refine (Try.strings_Cut a0 a1 m w hs hm).mono ?_
  rintro e w' ⟨he,hd⟩
  exact ⟨he,⟨hd⟩⟩
 ·rw [if_neg hs] at h
  exact absurd h (by simp)
end Go.Proofs.Ytnihihcopcoabaa.Px
namespace Go.Proofs.Ytnihihcopcoabaa.Px
open Go.RowKit Go.Proofs.YtnihihcopcoabaaW.PrintWords Go.Proofs.YtnihihcopcoabaaW.PrintLast Go.Proofs.YtnihihcopcoabaaW.PrintMore
attribute [local go_sem] max2_int min2_int max_two min_two max_three min_three max_four min_four
set_option linter.unusedVariables false
set_option linter.unusedSimpArgs false
mutual
def kind_scan_field.j1:Nat→Int→ByteArray→Int→Option (Int × ByteArray × Int × Int × Int × Bool × ByteArray × Int)
 | 0,_,_,_ => none
 | k + 1,x4,x1000,x1001 => (kind_scan_left.f x1000 x1001).bind fun bt114 => (if bt114.1.toList=([]:List UInt8) then (kind_scan_field.j2 k x4 true bt114.2.1 bt114.2.2) else (kind_scan_field.j2 k x4 (decide (x4 > 4)) bt114.2.1 bt114.2.2))
def kind_scan_field.j2:Nat→Int→Bool→ByteArray→Int→Option (Int × ByteArray × Int × Int × Int × Bool × ByteArray × Int)
 | 0,_,_,_,_ => none
 | k + 1,x4,x37,x1000,x1001 => if x37=true then (some (0,(⟨#[]⟩:ByteArray),0,0,0,false,x1000,x1001)) else ((kind_scan_left.f x1000 x1001).bind fun bt118 => (if 0 < (bt118.1.size:Int) then (if (bt bt118.1 0)=73 then (if x4 > 0 then (some (5,(⟨#[]⟩:ByteArray),x4,1,0,true,bt118.2.1,wrap64 (bt118.2.2 + 1))) else (some (1,(⟨#[]⟩:ByteArray),0,0,0,true,bt118.2.1,wrap64 (bt118.2.2 + 1)))) else (if (bt bt118.1 0)=74 then (if x4 > 0 then (some (5,(⟨#[]⟩:ByteArray),x4,2,0,true,bt118.2.1,wrap64 (bt118.2.2 + 1))) else (some (2,(⟨#[]⟩:ByteArray),0,0,0,true,bt118.2.1,wrap64 (bt118.2.2 + 1)))) else (if (bt bt118.1 0)=76 then ((kind_scan_left.f bt118.2.1 bt118.2.2).bind fun bt121 => (if 1≤(bt121.1.size:Int) then ((strings_Cut.f (bt121.1.extract 1 bt121.1.size) (⟨#[59]⟩:ByteArray)).bind fun bt124 => (if bt124.2.2=true then ((kind_plain.f k bt124.1).bind fun t127 => (kind_scan_field.j3 k x4 bt124.1 (!t127) bt121.2.1 bt121.2.2 0 (⟨#[]⟩:ByteArray) 0 0 0)) else (kind_scan_field.j3 k x4 bt124.1 true bt121.2.1 bt121.2.2 0 (⟨#[]⟩:ByteArray) 0 0 0))) else (none))) else (some (0,(⟨#[]⟩:ByteArray),0,0,0,false,bt118.2.1,bt118.2.2))))) else (none)))
def kind_scan_field.j3:Nat→Int→ByteArray→Bool→ByteArray→Int→Int→ByteArray→Int→Int→Int→Option (Int × ByteArray × Int × Int × Int × Bool × ByteArray × Int)
 | 0,_,_,_,_,_,_,_,_,_,_ => none
 | k + 1,x4,x7,x67,x1000,x1001,x118000,x118001,x118002,x118003,x118004 => if x67=true then (some (0,(⟨#[]⟩:ByteArray),0,0,0,false,x1000,x1001)) else (if x4 > 0 then (some (5,x7,x4,4,x118004,true,x1000,wrap64 ((wrap64 (x1001 + (wrap64 ((x7.size:Int) + 1)))) + 1))) else (some (4,x7,x118002,x118003,x118004,true,x1000,wrap64 ((wrap64 (x1001 + (wrap64 ((x7.size:Int) + 1)))) + 1))))
def kind_scan_field.l0:Nat→Int→Int→Int→ByteArray→Int→Option (Int × ByteArray × Int × Int × Int × Bool × ByteArray × Int)
 | 0,_,_,_,_,_ => none
 | k + 1,x4,x14,x15,x1000,x1001 => if x15 < x14 then ((kind_scan_left.f x1000 x1001).bind fun bt110 => ((strings_HasPrefix.f bt110.1 (⟨#[91]⟩:ByteArray)).bind fun t113 => (if t113=true then (kind_scan_field.l0 k (wrap64 (x4 + 1)) x14 (wrap64 (x15 + 1)) bt110.2.1 (wrap64 (bt110.2.2 + 1))) else (kind_scan_field.j1 k x4 bt110.2.1 bt110.2.2)))) else (kind_scan_field.j1 k x4 x1000 x1001)
end
def kind_scan_field.f (k:Nat) (s0_0:ByteArray) (s0_1:Int):Option (Int × ByteArray × Int × Int × Int × Bool × ByteArray × Int):=kind_scan_field.l0 k 0 (s0_0.size:Int) 0 s0_0 s0_1
set_option maxHeartbeats 80000000 in
set_option maxRecDepth 100000 in
theorem kind_scan_field.calls (k:Nat) (g:Nat) (s0_0:ByteArray) (s0_1:Int) (r1:Int) (r2:ByteArray) (r3:Int) (r4:Int) (r5:Int) (r6:Bool) (r7:ByteArray) (r8:Int) (w0 w:World) (hG:Aside0 (GG w0)) (hI:IsS78 w0 w g s0_0 s0_1) (hB:Below w0.heap.size w0 w) (h:kind_scan_field.f k s0_0 s0_1=some (r1,r2,r3,r4,r5,r6,r7,r8)) :
  Calls Try.prog 32 #[.pointer (some ⟨g,0,none⟩)] w fun e w' => e=.returned (.tuple #[.agg #[.int .i64 r1,.string r2,.int .i64 r3,.int .i64 r4,.int .i64 r5],.bool r6])∧IsS78 w0 w' g r7 r8∧Below w0.heap.size w0 w'∧KeepBut w w' g none:=by
 have hu41:=Try.underlying41
 have HI0:=Aside0.mk hI
 have HK:=Aside0.mk (KeepBut.refl w g none)
 have HL:=Aside0.mk hB.size
 clear hI
 have HW0:=Aside0.mk hB.size
 have HB:=Aside0.mk hB
 clear hB
 have H:(kind_scan_field.l0 k 0 (s0_0.size:Int) 0 s0_0 s0_1)=some (r1,r2,r3,r4,r5,r6,r7,r8):=h
 clear h
 have HC2:=Aside0.mk H
 clear H
 go_enter Try.func32,Try.ntmps32
 go_upto_block 0 with (first|((with_reducible refine gate_dst (N:=2) rfl ?_);refine box_event ?hg (N:=2) ?hd (cs:=#[.int .i64 0,.string (⟨#[]⟩:ByteArray),.int .i64 0,.int .i64 0,.int .i64 0]) (t:=41) ?hr ?_;(case hd => rfl);(case hg => rfl);(case hr => first|(go_simp;done)|(go_simp;rfl));intro gb109 hg w3 hbox hb;have n0_:=Aside0.mk (IsS78.below (by repeat (first|(with_reducible first|exact HI0.out|apply IsS78.alloc|apply IsS78.drewN|apply IsS78.drew|apply IsS78.set_0|apply IsS78.set_1)|exact HI0.out|apply IsS78.set_0|apply IsS78.set_1)) hb);have n1_:=Aside0.mk (KeepBut.trans (by repeat (first|(with_reducible first|exact HK.out|apply KeepBut.set_|apply keep_drewN|apply keep_drew|apply keep_alloc)|exact HK.out)) (KeepBut.of_below hb g none) (.inl rfl));have n2_:=Aside0.mk (below_step (by repeat (first|(with_reducible first|exact HB.out|apply below_alloc|apply pw_below_drewN|apply below_drew1|refine below_set ?_ (IsS78.ge HI0.out))|exact HB.out)) hb);have n3_:=Aside0.mk (hbox);have n4_:=Aside0.mk ((by rw [hg];exact (keep_size (w:=w) (g:=g) (row:=none) (by repeat (first|(with_reducible first|exact HK.out|apply KeepBut.set_|apply keep_drewN|apply keep_drew|apply keep_alloc)|exact HK.out))):w.heap.size≤gb109));have n5_:=Aside0.mk ((Nat.le_trans HW0.out (by rw [hg];exact (keep_size (w:=w) (g:=g) (row:=none) (by repeat (first|(with_reducible first|exact HK.out|apply KeepBut.set_|apply keep_drewN|apply keep_drew|apply keep_alloc)|exact HK.out))):w.heap.size≤gb109):w0.heap.size≤gb109));have n6_:=Aside0.mk ((by rw [hg];exact Nat.ne_of_lt (IsS78.lt (show IsS78 w0 _ g s0_0 s0_1 from by repeat (first|(with_reducible first|exact HI0.out|apply IsS78.alloc|apply IsS78.drewN|apply IsS78.drew|apply IsS78.set_0|apply IsS78.set_1)|exact HI0.out|apply IsS78.set_0|apply IsS78.set_1))):g ≠ gb109));have n7_:=Aside0.mk ((by rw [hg];exact Nat.ne_of_gt (IsS78.lt (show IsS78 w0 _ g s0_0 s0_1 from by repeat (first|(with_reducible first|exact HI0.out|apply IsS78.alloc|apply IsS78.drewN|apply IsS78.drew|apply IsS78.set_0|apply IsS78.set_1)|exact HI0.out|apply IsS78.set_0|apply IsS78.set_1))):gb109 ≠ g));clear HI0;clear HK;clear HB;have HI0:=n0_;have HK:=n1_;have HB:=n2_;have BK109:=n3_;have GW109:=n4_;have GE109:=n5_;have NB0_109:=n6_;have NB109_0:=n7_;clear n0_ n1_ n2_ n3_ n4_ n5_ n6_ n7_;clear hb hbox hg;obtain ⟨HGz4,hgz4⟩:=HI0.out;have hcz4_0:=cellS78_0 HGz4;have hcz4_1:=cellS78_1 HGz4;have hfz4_0:=blk_frozen HGz4 0;have hfz4_1:=blk_frozen HGz4 1;clear HGz4 hgz4))
 (try simp only [Act.put,List.setIfInBounds_toArray,List.set_cons_zero,List.set_cons_succ])
 go_cut [4] (fun v4 wc => ∃ (kq:Nat) (x4_1:Int) (x1000_1:ByteArray) (x1001_1:Int),v4=.int .i64 x4_1∧Aside0 (kind_scan_field.j1 kq x4_1 x1000_1 x1001_1=some (r1,r2,r3,r4,r5,r6,r7,r8))∧Aside0 (kq≤k)∧Aside0 (wc.heap[gb109]?=some (.cells #[.int .i64 0,.string (⟨#[]⟩:ByteArray),.int .i64 0,.int .i64 0,.int .i64 0] 41 (0,0)))∧Aside0 (IsS78 w0 wc g x1000_1 x1001_1)∧Aside0 (KeepBut w wc g none)∧Aside0 (Below w0.heap.size w0 wc))
 case first =>
  have H:=HC2.out
  clear HC2
  have H':=Aside0.mk H
  clear H
  go_wp2
  go_loopg [4,15] k (fun kq v4 v15 w' => ∃ (x4_1:Int) (x15_1:Int) (x1000_1:ByteArray) (x1001_1:Int),v4=.int .i64 x4_1∧v15=.int .i64 x15_1∧Aside0 (kind_scan_field.l0 kq x4_1 (s0_0.size:Int) x15_1 x1000_1 x1001_1=some (r1,r2,r3,r4,r5,r6,r7,r8))∧Aside0 (kq≤k)∧Aside0 (w'.heap[gb109]?=some (.cells #[.int .i64 0,.string (⟨#[]⟩:ByteArray),.int .i64 0,.int .i64 0,.int .i64 0] 41 (0,0)))∧Aside0 (IsS78 w0 w' g x1000_1 x1001_1)∧Aside0 (KeepBut w w' g none)∧Aside0 (Below w0.heap.size w0 w'))
  case atStart => exact ⟨(0),(0),(s0_0),(s0_1),r3_,r3_,H',⟨Nat.le_refl _⟩,⟨bk_⟩,⟨by repeat (first|(with_reducible first|exact HI0.out|apply IsS78.alloc|apply IsS78.drewN|apply IsS78.drew|apply IsS78.set_0|apply IsS78.set_1|apply IsS78.far (hne:=NB0_109.out))|exact HI0.out|apply IsS78.set_0|apply IsS78.set_1)⟩,⟨by repeat (first|(with_reducible first|exact HK.out|apply KeepBut.set_|apply keep_drewN|apply keep_drew|apply keep_alloc|refine keep_far ?_ GW109.out _)|exact HK.out)⟩,⟨by repeat (first|(with_reducible first|exact HB.out|apply below_alloc|apply pw_below_drewN|apply below_drew1|refine below_set ?_ (IsS78.ge HI0.out)|refine below_set ?_ GE109.out)|exact HB.out)⟩⟩
  case round =>
   clear H'
   try clear hcz4_0;try clear hcz4_1;try clear hfz4_0;try clear hfz4_1
   obtain ⟨x4_1,x15_1,x1000_1,x1001_1,rfl,rfl,HA,HK1,BK109,HI0,HK,HB⟩:=hrel
   cases gk with
   | zero => exact absurd HA.out (by simp [kind_scan_field.l0])
   | succ k1 =>
    have H:=HA.out
    clear HA
    simp only [kind_scan_field.l0] at H
    by_cases c5:x15_1 < (s0_0.size:Int)
    ·rw [if_pos c5] at H
     have c5b0:decide (x15_1 < (s0_0.size:Int))=true:=decide_eq_true c5
     clear c5
     (first|rw [c5b0]|(simp only [i64_w,i32_w];rw [c5b0])|skip)
     replace H:=Option.bind_eq_some_iff.mp H
     obtain ⟨⟨t110,t111,t112⟩,A60,H⟩:=H
     try dsimp only at H
     have A6:=Aside0.mk A60
     clear A60
     replace H:=Option.bind_eq_some_iff.mp H
     obtain ⟨t113,A70,H⟩:=H
     try dsimp only at H
     have A7:=Aside0.mk A70
     clear A70
     by_cases c8:t113=true
     ·subst c8
      rw [if_pos rfl] at H
      have H':=Aside0.mk H
      clear H
      go_wp2_with (first|(refine callA_ (f:=33) (some 18) Try.func33 #[.pointer (some ⟨g,0,none⟩)] ?_;(with_reducible refine (kind_scan_left.calls g x1000_1 x1001_1 t110 t111 t112 w0 _ ?side1 ?side2 A6.out).mono ?_);(case side1 => repeat (first|(with_reducible first|exact HI0.out|apply IsS78.alloc|apply IsS78.drewN|apply IsS78.drew|apply IsS78.set_0|apply IsS78.set_1|apply IsS78.far (hne:=NB0_109.out))|exact HI0.out|apply IsS78.set_0|apply IsS78.set_1));(case side2 => repeat (first|(with_reducible first|exact HB.out|apply below_alloc|apply pw_below_drewN|apply below_drew1|refine below_set ?_ (IsS78.ge HI0.out)|refine below_set ?_ GE109.out)|exact HB.out));rintro e w9 ⟨rfl,hi,hb,hk⟩;refine ⟨_,rfl,?_⟩;have n0_:=Aside0.mk (KeepBut.blk hk (g':=gb109) (o:=.cells #[.int .i64 0,.string (⟨#[]⟩:ByteArray),.int .i64 0,.int .i64 0,.int .i64 0] 41 (0,0)) bk_ NB109_0.out (by simp));have n1_:=Aside0.mk (KeepBut.trans (by repeat (first|(with_reducible first|exact HK.out|apply KeepBut.set_|apply keep_drewN|apply keep_drew|apply keep_alloc|refine keep_far ?_ GW109.out _)|exact HK.out)) hk (.inl rfl));have n2_:=Aside0.mk (hb);have n3_:=Aside0.mk (hi);clear BK109;clear HK;clear HB;clear HI0;have BK109:=n0_;have HK:=n1_;have HB:=n2_;have HI0:=n3_;clear n0_ n1_ n2_ n3_;(try clear hb);(try clear hb2);(try clear hk);(try clear hi))|(refine callA_ (f:=36) (some 19) Try.func36 #[.string t110,.string (⟨#[91]⟩:ByteArray)] ?_;(with_reducible refine (strings_HasPrefix.calls t110 (⟨#[91]⟩:ByteArray) true _ A7.out).mono ?_);rintro e w' ⟨rfl,⟨nd,rfl⟩⟩;refine ⟨_,rfl,?_⟩;(try (rw [drewN_self w9];generalize hq_:World.drewN w9 _=w9;have n0_:Aside0 (w9.heap[gb109]?=some (.cells #[.int .i64 0,.string (⟨#[]⟩:ByteArray),.int .i64 0,.int .i64 0,.int .i64 0] 41 (0,0))):=⟨by rw [← hq_];exact bk_⟩;have n1_:Aside0 (IsS78 w0 w9 g t111 t112):=⟨by rw [← hq_];exact (by repeat (first|(with_reducible first|exact HI0.out|apply IsS78.alloc|apply IsS78.drewN|apply IsS78.drew|apply IsS78.set_0|apply IsS78.set_1|apply IsS78.far (hne:=NB0_109.out))|exact HI0.out|apply IsS78.set_0|apply IsS78.set_1))⟩;have n2_:Aside0 (KeepBut w w9 g none):=⟨by rw [← hq_];exact (by repeat (first|(with_reducible first|exact HK.out|apply KeepBut.set_|apply keep_drewN|apply keep_drew|apply keep_alloc|refine keep_far ?_ GW109.out _)|exact HK.out))⟩;have n3_:Aside0 (Below w0.heap.size w0 w9):=⟨by rw [← hq_];exact (by repeat (first|(with_reducible first|exact HB.out|apply below_alloc|apply pw_below_drewN|apply below_drew1|refine below_set ?_ (IsS78.ge HI0.out)|refine below_set ?_ GE109.out)|exact HB.out))⟩;clear BK109 HI0 HK HB hq_;have BK109:=n0_;have HI0:=n1_;have HK:=n2_;have HB:=n3_;clear n0_ n1_ n2_ n3_));obtain ⟨HGz10,hgz10⟩:=HI0.out;have hcz10_0:=cellS78_0 HGz10;have hcz10_1:=cellS78_1 HGz10;have hfz10_0:=blk_frozen HGz10 0;have hfz10_1:=blk_frozen HGz10 1;clear HGz10 hgz10))
      go_roundg k1
      case measure => have:=HK1.out;omega
      case rel => exact ⟨(wrap64 (x4_1 + 1)),(wrap64 (x15_1 + 1)),(t111),(wrap64 (t112 + 1)),r3_,r3_,H',⟨by have:=HK1.out;omega⟩,⟨bk_⟩,⟨by repeat (first|(with_reducible first|exact HI0.out|apply IsS78.alloc|apply IsS78.drewN|apply IsS78.drew|apply IsS78.set_0|apply IsS78.set_1|apply IsS78.far (hne:=NB0_109.out))|exact HI0.out|apply IsS78.set_0|apply IsS78.set_1)⟩,⟨by repeat (first|(with_reducible first|exact HK.out|apply KeepBut.set_|apply keep_drewN|apply keep_drew|apply keep_alloc|refine keep_far ?_ GW109.out _)|exact HK.out)⟩,⟨by repeat (first|(with_reducible first|exact HB.out|apply below_alloc|apply pw_below_drewN|apply below_drew1|refine below_set ?_ (IsS78.ge HI0.out)|refine below_set ?_ GE109.out)|exact HB.out)⟩⟩
     ·replace c8:=Bool.eq_false_iff.mpr c8
      subst c8
      rw [if_neg (show ¬ (false=true) by decide)] at H
      have H':=Aside0.mk H
      clear H
      go_wp2_with (first|(refine callA_ (f:=33) (some 18) Try.func33 #[.pointer (some ⟨g,0,none⟩)] ?_;(with_reducible refine (kind_scan_left.calls g x1000_1 x1001_1 t110 t111 t112 w0 _ ?side1 ?side2 A6.out).mono ?_);(case side1 => repeat (first|(with_reducible first|exact HI0.out|apply IsS78.alloc|apply IsS78.drewN|apply IsS78.drew|apply IsS78.set_0|apply IsS78.set_1|apply IsS78.far (hne:=NB0_109.out))|exact HI0.out|apply IsS78.set_0|apply IsS78.set_1));(case side2 => repeat (first|(with_reducible first|exact HB.out|apply below_alloc|apply pw_below_drewN|apply below_drew1|refine below_set ?_ (IsS78.ge HI0.out)|refine below_set ?_ GE109.out)|exact HB.out));rintro e w11 ⟨rfl,hi,hb,hk⟩;refine ⟨_,rfl,?_⟩;have n0_:=Aside0.mk (KeepBut.blk hk (g':=gb109) (o:=.cells #[.int .i64 0,.string (⟨#[]⟩:ByteArray),.int .i64 0,.int .i64 0,.int .i64 0] 41 (0,0)) bk_ NB109_0.out (by simp));have n1_:=Aside0.mk (KeepBut.trans (by repeat (first|(with_reducible first|exact HK.out|apply KeepBut.set_|apply keep_drewN|apply keep_drew|apply keep_alloc|refine keep_far ?_ GW109.out _)|exact HK.out)) hk (.inl rfl));have n2_:=Aside0.mk (hb);have n3_:=Aside0.mk (hi);clear BK109;clear HK;clear HB;clear HI0;have BK109:=n0_;have HK:=n1_;have HB:=n2_;have HI0:=n3_;clear n0_ n1_ n2_ n3_;(try clear hb);(try clear hb2);(try clear hk);(try clear hi))|(refine callA_ (f:=36) (some 19) Try.func36 #[.string t110,.string (⟨#[91]⟩:ByteArray)] ?_;(with_reducible refine (strings_HasPrefix.calls t110 (⟨#[91]⟩:ByteArray) false _ A7.out).mono ?_);rintro e w' ⟨rfl,⟨nd,rfl⟩⟩;refine ⟨_,rfl,?_⟩))
      go_meet
      case rel => exact ⟨_,(x4_1),(t111),(t112),r3_,H',⟨by have:=HK1.out;first|omega|exact Nat.le_refl _⟩,⟨bk_⟩,⟨by repeat (first|(with_reducible first|exact HI0.out|apply IsS78.alloc|apply IsS78.drewN|apply IsS78.drew|apply IsS78.set_0|apply IsS78.set_1|apply IsS78.far (hne:=NB0_109.out))|exact HI0.out|apply IsS78.set_0|apply IsS78.set_1)⟩,⟨by repeat (first|(with_reducible first|exact HK.out|apply KeepBut.set_|apply keep_drewN|apply keep_drew|apply keep_alloc|refine keep_far ?_ GW109.out _)|exact HK.out)⟩,⟨by repeat (first|(with_reducible first|exact HB.out|apply below_alloc|apply pw_below_drewN|apply below_drew1|refine below_set ?_ (IsS78.ge HI0.out)|refine below_set ?_ GE109.out)|exact HB.out)⟩⟩
    ·rw [if_neg c5] at H
     have c5b0:decide (x15_1 < (s0_0.size:Int))=false:=decide_eq_false c5
     clear c5
     (first|rw [c5b0]|(simp only [i64_w,i32_w];rw [c5b0])|skip)
     have H':=Aside0.mk H
     clear H
     go_wp2
     go_meet
     case rel => exact ⟨_,(x4_1),(x1000_1),(x1001_1),r3_,H',⟨by have:=HK1.out;first|omega|exact Nat.le_refl _⟩,⟨bk_⟩,⟨by repeat (first|(with_reducible first|exact HI0.out|apply IsS78.alloc|apply IsS78.drewN|apply IsS78.drew|apply IsS78.set_0|apply IsS78.set_1|apply IsS78.far (hne:=NB0_109.out))|exact HI0.out|apply IsS78.set_0|apply IsS78.set_1)⟩,⟨by repeat (first|(with_reducible first|exact HK.out|apply KeepBut.set_|apply keep_drewN|apply keep_drew|apply keep_alloc|refine keep_far ?_ GW109.out _)|exact HK.out)⟩,⟨by repeat (first|(with_reducible first|exact HB.out|apply below_alloc|apply pw_below_drewN|apply below_drew1|refine below_set ?_ (IsS78.ge HI0.out)|refine below_set ?_ GE109.out)|exact HB.out)⟩⟩
 case rest =>
  clear HC2
  obtain ⟨kq,x4_1,x1000_1,x1001_1,rfl,HA,HJ1,BK109,HI0,HK,HB⟩:=hcut
  cases kq with
  | zero => exact absurd HA.out (by simp [kind_scan_field.j1])
  | succ kj1 =>
   have H:=HA.out
   clear HA
   simp only [kind_scan_field.j1] at H
   have HC12:=Aside0.mk H
   clear H
   go_upto_region 8 with (fail)
   go_cut [37] (fun v37 wc => ∃ (kq:Nat) (x37_11:Bool) (x1000_11:ByteArray) (x1001_11:Int),v37=.bool x37_11∧Aside0 (kind_scan_field.j2 kq x4_1 x37_11 x1000_11 x1001_11=some (r1,r2,r3,r4,r5,r6,r7,r8))∧Aside0 (kq≤kj1)∧Aside0 (wc.heap[gb109]?=some (.cells #[.int .i64 0,.string (⟨#[]⟩:ByteArray),.int .i64 0,.int .i64 0,.int .i64 0] 41 (0,0)))∧Aside0 (IsS78 w0 wc g x1000_11 x1001_11)∧Aside0 (KeepBut w wc g none)∧Aside0 (Below w0.heap.size w0 wc))
   case first =>
    have H:=HC12.out
    clear HC12
    replace H:=Option.bind_eq_some_iff.mp H
    obtain ⟨⟨t114,t115,t116⟩,A130,H⟩:=H
    try dsimp only at H
    have A13:=Aside0.mk A130
    clear A130
    by_cases c14:t114.toList=([]:List UInt8)
    ·rw [if_pos c14] at H
     have c14b0:(t114.toList==([]:List UInt8))=true:=beq_iff_eq.mpr c14
     have c14b1:(t114.toList != ([]:List UInt8))=false:=bne_eq_false_iff_eq.mpr c14
     clear c14
     (first|rw [c14b0]|(simp only [i64_w,i32_w];rw [c14b0])|skip)
     have H':=Aside0.mk H
     clear H
     go_wp2_with (first|(refine callA_ (f:=33) (some 32) Try.func33 #[.pointer (some ⟨g,0,none⟩)] ?_;(with_reducible refine (kind_scan_left.calls g x1000_1 x1001_1 t114 t115 t116 w0 _ ?side1 ?side2 A13.out).mono ?_);(case side1 => repeat (first|(with_reducible first|exact HI0.out|apply IsS78.alloc|apply IsS78.drewN|apply IsS78.drew|apply IsS78.set_0|apply IsS78.set_1|apply IsS78.far (hne:=NB0_109.out))|exact HI0.out|apply IsS78.set_0|apply IsS78.set_1));(case side2 => repeat (first|(with_reducible first|exact HB.out|apply below_alloc|apply pw_below_drewN|apply below_drew1|refine below_set ?_ (IsS78.ge HI0.out)|refine below_set ?_ GE109.out)|exact HB.out));rintro e w15 ⟨rfl,hi,hb,hk⟩;refine ⟨_,rfl,?_⟩;have n0_:=Aside0.mk (KeepBut.blk hk (g':=gb109) (o:=.cells #[.int .i64 0,.string (⟨#[]⟩:ByteArray),.int .i64 0,.int .i64 0,.int .i64 0] 41 (0,0)) bk_ NB109_0.out (by simp));have n1_:=Aside0.mk (KeepBut.trans (by repeat (first|(with_reducible first|exact HK.out|apply KeepBut.set_|apply keep_drewN|apply keep_drew|apply keep_alloc|refine keep_far ?_ GW109.out _)|exact HK.out)) hk (.inl rfl));have n2_:=Aside0.mk (hb);have n3_:=Aside0.mk (hi);clear BK109;clear HK;clear HB;clear HI0;have BK109:=n0_;have HK:=n1_;have HB:=n2_;have HI0:=n3_;clear n0_ n1_ n2_ n3_;(try clear hb);(try clear hb2);(try clear hk);(try clear hi)))
     go_meet
     case rel => exact ⟨_,(true),(t115),(t116),r3_,H',⟨by have:=HJ1.out;first|omega|exact Nat.le_refl _⟩,⟨bk_⟩,⟨by repeat (first|(with_reducible first|exact HI0.out|apply IsS78.alloc|apply IsS78.drewN|apply IsS78.drew|apply IsS78.set_0|apply IsS78.set_1|apply IsS78.far (hne:=NB0_109.out))|exact HI0.out|apply IsS78.set_0|apply IsS78.set_1)⟩,⟨by repeat (first|(with_reducible first|exact HK.out|apply KeepBut.set_|apply keep_drewN|apply keep_drew|apply keep_alloc|refine keep_far ?_ GW109.out _)|exact HK.out)⟩,⟨by repeat (first|(with_reducible first|exact HB.out|apply below_alloc|apply pw_below_drewN|apply below_drew1|refine below_set ?_ (IsS78.ge HI0.out)|refine below_set ?_ GE109.out)|exact HB.out)⟩⟩
    ·rw [if_neg c14] at H
     have c14b0:(t114.toList==([]:List UInt8))=false:=beq_eq_false_iff_ne.mpr c14
     have c14b1:(t114.toList != ([]:List UInt8))=true:=bne_iff_ne.mpr c14
     (first|rw [c14b0]|(simp only [i64_w,i32_w];rw [c14b0])|skip)
     have H':=Aside0.mk H
     clear H
     go_wp2_with (first|(refine callA_ (f:=33) (some 32) Try.func33 #[.pointer (some ⟨g,0,none⟩)] ?_;(with_reducible refine (kind_scan_left.calls g x1000_1 x1001_1 t114 t115 t116 w0 _ ?side1 ?side2 A13.out).mono ?_);(case side1 => repeat (first|(with_reducible first|exact HI0.out|apply IsS78.alloc|apply IsS78.drewN|apply IsS78.drew|apply IsS78.set_0|apply IsS78.set_1|apply IsS78.far (hne:=NB0_109.out))|exact HI0.out|apply IsS78.set_0|apply IsS78.set_1));(case side2 => repeat (first|(with_reducible first|exact HB.out|apply below_alloc|apply pw_below_drewN|apply below_drew1|refine below_set ?_ (IsS78.ge HI0.out)|refine below_set ?_ GE109.out)|exact HB.out));rintro e w16 ⟨rfl,hi,hb,hk⟩;refine ⟨_,rfl,?_⟩;have n0_:=Aside0.mk (KeepBut.blk hk (g':=gb109) (o:=.cells #[.int .i64 0,.string (⟨#[]⟩:ByteArray),.int .i64 0,.int .i64 0,.int .i64 0] 41 (0,0)) bk_ NB109_0.out (by simp));have n1_:=Aside0.mk (KeepBut.trans (by repeat (first|(with_reducible first|exact HK.out|apply KeepBut.set_|apply keep_drewN|apply keep_drew|apply keep_alloc|refine keep_far ?_ GW109.out _)|exact HK.out)) hk (.inl rfl));have n2_:=Aside0.mk (hb);have n3_:=Aside0.mk (hi);clear BK109;clear HK;clear HB;clear HI0;have BK109:=n0_;have HK:=n1_;have HB:=n2_;have HI0:=n3_;clear n0_ n1_ n2_ n3_;(try clear hb);(try clear hb2);(try clear hk);(try clear hi)))
     go_meet
     case rel => exact ⟨_,(decide (x4_1 > 4)),(t115),(t116),r3_,H',⟨by have:=HJ1.out;first|omega|exact Nat.le_refl _⟩,⟨bk_⟩,⟨by repeat (first|(with_reducible first|exact HI0.out|apply IsS78.alloc|apply IsS78.drewN|apply IsS78.drew|apply IsS78.set_0|apply IsS78.set_1|apply IsS78.far (hne:=NB0_109.out))|exact HI0.out|apply IsS78.set_0|apply IsS78.set_1)⟩,⟨by repeat (first|(with_reducible first|exact HK.out|apply KeepBut.set_|apply keep_drewN|apply keep_drew|apply keep_alloc|refine keep_far ?_ GW109.out _)|exact HK.out)⟩,⟨by repeat (first|(with_reducible first|exact HB.out|apply below_alloc|apply pw_below_drewN|apply below_drew1|refine below_set ?_ (IsS78.ge HI0.out)|refine below_set ?_ GE109.out)|exact HB.out)⟩⟩
   case rest =>
    clear HC12
    obtain ⟨kq,x37_11,x1000_11,x1001_11,rfl,HA,HJ11,BK109,HI0,HK,HB⟩:=hcut
    cases kq with
    | zero => exact absurd HA.out (by simp [kind_scan_field.j2])
    | succ kj11 =>
     have H:=HA.out
     clear HA
     simp only [kind_scan_field.j2] at H
     by_cases c17:x37_11=true
     ·subst c17
      rw [if_pos rfl] at H
      simp only [Option.some.injEq,Prod.mk.injEq] at H
      obtain ⟨rfl,rfl,rfl,rfl,rfl,rfl,rfl,rfl⟩:=H
      have hnb18:=NB109_0.out
      have hnc18:=NB0_109.out
      obtain ⟨hcz19_0,hcz19_1,hcz19_2,hcz19_3,hcz19_4,hfz19_0,hfz19_1,hfz19_2,hfz19_3,hfz19_4⟩:=blk5_ BK109.out
      go_wp2_with (first|((with_reducible refine gate_store (t:=41) (p:=2) rfl ?_);refine store_event (t:=41) (p:=2) (v:=?vo_w20) (w1:=(((((wc.setCell ⟨gb109,0,none⟩ (.int .i64 0)).setCell ⟨gb109,1,none⟩ (.string (⟨#[]⟩:ByteArray))).setCell ⟨gb109,2,none⟩ (.int .i64 0)).setCell ⟨gb109,3,none⟩ (.int .i64 0)).setCell ⟨gb109,4,none⟩ (.int .i64 0))) ?hg ?ho ?hn ?hr ?_;(case ho => rfl);(case hg => rfl);(case hn => rfl);(case hr => first|(go_simp;done)|(go_simp;rfl));intro w20 hw;have n0_:Aside0 (w20.heap[gb109]?=some (.cells #[.int .i64 0,.string (⟨#[]⟩:ByteArray),.int .i64 0,.int .i64 0,.int .i64 0] 41 (0,0))):=⟨(by rw [hw];exact (st5_ BK109.out))⟩;have n1_:Aside0 (IsS78 w0 w20 g x1000_11 x1001_11):=⟨(by rw [hw];exact (by repeat (first|(with_reducible first|exact HI0.out|apply IsS78.alloc|apply IsS78.drewN|apply IsS78.drew|apply IsS78.set_0|apply IsS78.set_1|apply IsS78.far (hne:=NB0_109.out))|exact HI0.out|apply IsS78.set_0|apply IsS78.set_1)))⟩;have n2_:Aside0 (KeepBut w w20 g none):=⟨(by rw [hw];exact (by repeat (first|(with_reducible first|exact HK.out|apply KeepBut.set_|apply keep_drewN|apply keep_drew|apply keep_alloc|refine keep_far ?_ GW109.out _)|exact HK.out)))⟩;have n3_:Aside0 (Below w0.heap.size w0 w20):=⟨(by rw [hw];exact (by repeat (first|(with_reducible first|exact HB.out|apply below_alloc|apply pw_below_drewN|apply below_drew1|refine below_set ?_ (IsS78.ge HI0.out)|refine below_set ?_ GE109.out)|exact HB.out)))⟩;clear hw;clear BK109;clear HI0;clear HK;clear HB;have BK109:=n0_;have HI0:=n1_;have HK:=n2_;have HB:=n3_;clear n0_ n1_ n2_ n3_))
      refine bodyPost_ret (results_ct rfl _ _ gb109 41 #[.int .i64 0,.string (⟨#[]⟩:ByteArray),.int .i64 0,.int .i64 0,.int .i64 0] (0,0) _ rfl bk_ Try.underlying41 rfl (by kernel_rfl)) rfl ?_
      exact ⟨ew_,by repeat (first|(with_reducible first|exact HI0.out|apply IsS78.alloc|apply IsS78.drewN|apply IsS78.drew|apply IsS78.set_0|apply IsS78.set_1|apply IsS78.far (hne:=NB0_109.out))|exact HI0.out|apply IsS78.set_0|apply IsS78.set_1),by repeat (first|(with_reducible first|exact HB.out|apply below_alloc|apply pw_below_drewN|apply below_drew1|refine below_set ?_ (IsS78.ge HI0.out)|refine below_set ?_ GE109.out)|exact HB.out),by repeat (first|(with_reducible first|exact HK.out|apply KeepBut.set_|apply keep_drewN|apply keep_drew|apply keep_alloc|refine keep_far ?_ GW109.out _)|exact HK.out)⟩
     ·replace c17:=Bool.eq_false_iff.mpr c17
      subst c17
      rw [if_neg (show ¬ (false=true) by decide)] at H
      replace H:=Option.bind_eq_some_iff.mp H
      obtain ⟨⟨t118,t119,t120⟩,A210,H⟩:=H
      try dsimp only at H
      have A21:=Aside0.mk A210
      clear A210
      by_cases c22:0 < (t118.size:Int)
      ·rw [if_pos c22] at H
       have c22b0:decide (0 < (t118.size:Int))=true:=decide_eq_true c22
       have c22b1:decide (0 < t118.size)=true:=decide_eq_true (by omega)
       clear c22
       by_cases c24:(bt t118 0)=73
       ·rw [if_pos c24] at H
        have c24b0:((bt t118 0)==73)=true:=beq_iff_eq.mpr c24
        have c24b1:((bt t118 0) != 73)=false:=bne_eq_false_iff_eq.mpr c24
        clear c24
        by_cases c25:x4_1 > 0
        ·rw [if_pos c25] at H
         have c25b0:decide (0 < x4_1)=true:=decide_eq_true c25
         clear c25
         simp only [Option.some.injEq,Prod.mk.injEq] at H
         obtain ⟨rfl,rfl,rfl,rfl,rfl,rfl,rfl,rfl⟩:=H
         go_wp2_with (first|((with_reducible refine gate_dst (N:=5) rfl ?_);refine box_event ?hg (N:=5) ?hd (cs:=#[.int .i64 0,.string (⟨#[]⟩:ByteArray),.int .i64 0,.int .i64 0,.int .i64 0]) (t:=41) ?hr ?_;(case hd => rfl);(case hg => rfl);(case hr => first|(go_simp;done)|(go_simp;rfl));intro gb117 hg w26 hbox hb;have n0_:=Aside0.mk (blk_below (g:=gb109) (o:=.cells #[.int .i64 0,.string (⟨#[]⟩:ByteArray),.int .i64 0,.int .i64 0,.int .i64 0] 41 (0,0)) bk_ hb);have n1_:=Aside0.mk (IsS78.below (by repeat (first|(with_reducible first|exact HI0.out|apply IsS78.alloc|apply IsS78.drewN|apply IsS78.drew|apply IsS78.set_0|apply IsS78.set_1|apply IsS78.far (hne:=NB0_109.out))|exact HI0.out|apply IsS78.set_0|apply IsS78.set_1)) hb);have n2_:=Aside0.mk (KeepBut.trans (by repeat (first|(with_reducible first|exact HK.out|apply KeepBut.set_|apply keep_drewN|apply keep_drew|apply keep_alloc|refine keep_far ?_ GW109.out _)|exact HK.out)) (KeepBut.of_below hb g none) (.inl rfl));have n3_:=Aside0.mk (below_step (by repeat (first|(with_reducible first|exact HB.out|apply below_alloc|apply pw_below_drewN|apply below_drew1|refine below_set ?_ (IsS78.ge HI0.out)|refine below_set ?_ GE109.out)|exact HB.out)) hb);have n4_:=Aside0.mk (hbox);have n5_:=Aside0.mk ((by rw [hg];exact (keep_size (w:=w) (g:=g) (row:=none) (by repeat (first|(with_reducible first|exact HK.out|apply KeepBut.set_|apply keep_drewN|apply keep_drew|apply keep_alloc|refine keep_far ?_ GW109.out _)|exact HK.out))):w.heap.size≤gb117));have n6_:=Aside0.mk ((Nat.le_trans HW0.out (by rw [hg];exact (keep_size (w:=w) (g:=g) (row:=none) (by repeat (first|(with_reducible first|exact HK.out|apply KeepBut.set_|apply keep_drewN|apply keep_drew|apply keep_alloc|refine keep_far ?_ GW109.out _)|exact HK.out))):w.heap.size≤gb117):w0.heap.size≤gb117));have n7_:=Aside0.mk ((by rw [hg];exact Nat.ne_of_lt (blk_lt (g:=gb109) (o:=.cells #[.int .i64 0,.string (⟨#[]⟩:ByteArray),.int .i64 0,.int .i64 0,.int .i64 0] 41 (0,0)) bk_):gb109 ≠ gb117));have n8_:=Aside0.mk ((by rw [hg];exact Nat.ne_of_gt (blk_lt (g:=gb109) (o:=.cells #[.int .i64 0,.string (⟨#[]⟩:ByteArray),.int .i64 0,.int .i64 0,.int .i64 0] 41 (0,0)) bk_):gb117 ≠ gb109));have n9_:=Aside0.mk ((by rw [hg];exact Nat.ne_of_lt (IsS78.lt (show IsS78 w0 _ g x1000_11 x1001_11 from by repeat (first|(with_reducible first|exact HI0.out|apply IsS78.alloc|apply IsS78.drewN|apply IsS78.drew|apply IsS78.set_0|apply IsS78.set_1|apply IsS78.far (hne:=NB0_109.out))|exact HI0.out|apply IsS78.set_0|apply IsS78.set_1))):g ≠ gb117));have n10_:=Aside0.mk ((by rw [hg];exact Nat.ne_of_gt (IsS78.lt (show IsS78 w0 _ g x1000_11 x1001_11 from by repeat (first|(with_reducible first|exact HI0.out|apply IsS78.alloc|apply IsS78.drewN|apply IsS78.drew|apply IsS78.set_0|apply IsS78.set_1|apply IsS78.far (hne:=NB0_109.out))|exact HI0.out|apply IsS78.set_0|apply IsS78.set_1))):gb117 ≠ g));clear BK109;clear HI0;clear HK;clear HB;have BK109:=n0_;have HI0:=n1_;have HK:=n2_;have HB:=n3_;have BK117:=n4_;have GW117:=n5_;have GE117:=n6_;have NB109_117:=n7_;have NB117_109:=n8_;have NB0_117:=n9_;have NB117_0:=n10_;clear n0_ n1_ n2_ n3_ n4_ n5_ n6_ n7_ n8_ n9_ n10_;clear hb hbox hg;have hnb27:=NB117_109.out;have hnc27:=NB109_117.out;have hnb28:=NB117_0.out;have hnc28:=NB0_117.out;obtain ⟨hcz29_0,hcz29_1,hcz29_2,hcz29_3,hcz29_4,hfz29_0,hfz29_1,hfz29_2,hfz29_3,hfz29_4⟩:=blk5_ BK117.out)|((with_reducible refine gate_store (t:=41) (p:=5) rfl ?_);refine store_event (t:=41) (p:=5) (v:=?vo_w30) (w1:=(((((w26.setCell ⟨gb117,0,none⟩ (.int .i64 0)).setCell ⟨gb117,1,none⟩ (.string (⟨#[]⟩:ByteArray))).setCell ⟨gb117,2,none⟩ (.int .i64 0)).setCell ⟨gb117,3,none⟩ (.int .i64 0)).setCell ⟨gb117,4,none⟩ (.int .i64 0))) ?hg ?ho ?hn ?hr ?_;(case ho => rfl);(case hg => rfl);(case hn => rfl);(case hr => first|(go_simp;done)|(go_simp;rfl));intro w30 hw;have n0_:Aside0 (w30.heap[gb109]?=some (.cells #[.int .i64 0,.string (⟨#[]⟩:ByteArray),.int .i64 0,.int .i64 0,.int .i64 0] 41 (0,0))):=⟨(by rw [hw];exact bk_)⟩;have n1_:Aside0 (w30.heap[gb117]?=some (.cells #[.int .i64 0,.string (⟨#[]⟩:ByteArray),.int .i64 0,.int .i64 0,.int .i64 0] 41 (0,0))):=⟨(by rw [hw];exact (st5_ BK117.out))⟩;have n2_:Aside0 (IsS78 w0 w30 g x1000_11 x1001_11):=⟨(by rw [hw];exact (by repeat (first|(with_reducible first|exact HI0.out|apply IsS78.alloc|apply IsS78.drewN|apply IsS78.drew|apply IsS78.set_0|apply IsS78.set_1|apply IsS78.far (hne:=NB0_109.out)|apply IsS78.far (hne:=NB0_117.out))|exact HI0.out|apply IsS78.set_0|apply IsS78.set_1)))⟩;have n3_:Aside0 (KeepBut w w30 g none):=⟨(by rw [hw];exact (by repeat (first|(with_reducible first|exact HK.out|apply KeepBut.set_|apply keep_drewN|apply keep_drew|apply keep_alloc|refine keep_far ?_ GW109.out _|refine keep_far ?_ GW117.out _)|exact HK.out)))⟩;have n4_:Aside0 (Below w0.heap.size w0 w30):=⟨(by rw [hw];exact (by repeat (first|(with_reducible first|exact HB.out|apply below_alloc|apply pw_below_drewN|apply below_drew1|refine below_set ?_ (IsS78.ge HI0.out)|refine below_set ?_ GE109.out|refine below_set ?_ GE117.out)|exact HB.out)))⟩;clear hw;clear BK109;clear BK117;clear HI0;clear HK;clear HB;have BK109:=n0_;have BK117:=n1_;have HI0:=n2_;have HK:=n3_;have HB:=n4_;clear n0_ n1_ n2_ n3_ n4_)|(refine callA_ (f:=33) (some 41) Try.func33 #[.pointer (some ⟨g,0,none⟩)] ?_;(with_reducible refine (kind_scan_left.calls g x1000_11 x1001_11 t118 t119 t120 w0 _ ?side1 ?side2 A21.out).mono ?_);(case side1 => repeat (first|(with_reducible first|exact HI0.out|apply IsS78.alloc|apply IsS78.drewN|apply IsS78.drew|apply IsS78.set_0|apply IsS78.set_1|apply IsS78.far (hne:=NB0_109.out)|apply IsS78.far (hne:=NB0_117.out))|exact HI0.out|apply IsS78.set_0|apply IsS78.set_1));(case side2 => repeat (first|(with_reducible first|exact HB.out|apply below_alloc|apply pw_below_drewN|apply below_drew1|refine below_set ?_ (IsS78.ge HI0.out)|refine below_set ?_ GE109.out|refine below_set ?_ GE117.out)|exact HB.out));rintro e w31 ⟨rfl,hi,hb,hk⟩;refine ⟨_,rfl,?_⟩;have n0_:=Aside0.mk (KeepBut.blk hk (g':=gb109) (o:=.cells #[.int .i64 0,.string (⟨#[]⟩:ByteArray),.int .i64 0,.int .i64 0,.int .i64 0] 41 (0,0)) bk_ NB109_0.out (by simp));have n1_:=Aside0.mk (KeepBut.blk hk (g':=gb117) (o:=.cells #[.int .i64 0,.string (⟨#[]⟩:ByteArray),.int .i64 0,.int .i64 0,.int .i64 0] 41 (0,0)) bk_ NB117_0.out (by simp));have n2_:=Aside0.mk (KeepBut.trans (by repeat (first|(with_reducible first|exact HK.out|apply KeepBut.set_|apply keep_drewN|apply keep_drew|apply keep_alloc|refine keep_far ?_ GW109.out _|refine keep_far ?_ GW117.out _)|exact HK.out)) hk (.inl rfl));have n3_:=Aside0.mk (hb);have n4_:=Aside0.mk (hi);clear BK109;clear BK117;clear HK;clear HB;clear HI0;have BK109:=n0_;have BK117:=n1_;have HK:=n2_;have HB:=n3_;have HI0:=n4_;clear n0_ n1_ n2_ n3_ n4_;(try clear hb);(try clear hb2);(try clear hk);(try clear hi);have p23:0≤(0:Int):=(by omega);have q23:0 < t118.size:=(by have:(0:Int) < (t118.size:Int):=od_;omega);have hx23:∀ h:0 < t118.size,((t118[0]'h).toNat:Int)=bt t118 0:=bt_at t118 0;clear p23;have qi23:(0 < (t118.size:Int))=True:=eq_true (od_);replace q23:=eq_true q23;obtain ⟨hcz32_0,hcz32_1,hcz32_2,hcz32_3,hcz32_4,hfz32_0,hfz32_1,hfz32_2,hfz32_3,hfz32_4⟩:=blk5_ BK117.out;obtain ⟨HGz33,hgz33⟩:=HI0.out;have hcz33_0:=cellS78_0 HGz33;have hcz33_1:=cellS78_1 HGz33;have hfz33_0:=blk_frozen HGz33 0;have hfz33_1:=blk_frozen HGz33 1;clear HGz33 hgz33;have hnb34:=NB109_0.out;have hnc34:=NB0_109.out;obtain ⟨hcz35_0,hcz35_1,hcz35_2,hcz35_3,hcz35_4,hfz35_0,hfz35_1,hfz35_2,hfz35_3,hfz35_4⟩:=blk5_ BK109.out))
         refine bodyPost_ret (results_ct rfl _ _ gb109 41 #[.int .i64 5,.string (⟨#[]⟩:ByteArray),.int .i64 x4_1,.int .i64 1,.int .i64 0] (0,0) _ rfl (by (with_reducible repeat (first|refine blk_drewN ?_ _|refine blk_drew ?_|refine blk_alloc ?_ _));refine blk_put (cs:=#[.int .i64 5,.string (⟨#[]⟩:ByteArray),.int .i64 x4_1,.int .i64 1,.int .i64 0]) ?_ 4 _ rfl;(with_reducible repeat (first|refine blk_drewN ?_ _|refine blk_drew ?_|refine blk_alloc ?_ _));refine blk_put (cs:=#[.int .i64 5,.string (⟨#[]⟩:ByteArray),.int .i64 x4_1,.int .i64 0,.int .i64 0]) ?_ 3 _ rfl;(with_reducible repeat (first|refine blk_drewN ?_ _|refine blk_drew ?_|refine blk_alloc ?_ _));refine blk_put (cs:=#[.int .i64 5,.string (⟨#[]⟩:ByteArray),.int .i64 0,.int .i64 0,.int .i64 0]) ?_ 2 _ rfl;(with_reducible repeat (first|refine blk_drewN ?_ _|refine blk_drew ?_|refine blk_alloc ?_ _));refine blk_put (cs:=#[.int .i64 5,.string (⟨#[]⟩:ByteArray),.int .i64 0,.int .i64 0,.int .i64 0]) ?_ 1 _ rfl;(with_reducible repeat (first|refine blk_drewN ?_ _|refine blk_drew ?_|refine blk_alloc ?_ _));refine blk_put (cs:=#[.int .i64 0,.string (⟨#[]⟩:ByteArray),.int .i64 0,.int .i64 0,.int .i64 0]) ?_ 0 _ rfl;(with_reducible repeat (first|refine blk_drewN ?_ _|refine blk_drew ?_|refine blk_alloc ?_ _));refine blk_far ?_ NB109_117.out _;(with_reducible repeat (first|refine blk_drewN ?_ _|refine blk_drew ?_|refine blk_alloc ?_ _));refine blk_far ?_ NB109_117.out _;(with_reducible repeat (first|refine blk_drewN ?_ _|refine blk_drew ?_|refine blk_alloc ?_ _));refine blk_far ?_ NB109_117.out _;(with_reducible repeat (first|refine blk_drewN ?_ _|refine blk_drew ?_|refine blk_alloc ?_ _));refine blk_far ?_ NB109_0.out _;(with_reducible repeat (first|refine blk_drewN ?_ _|refine blk_drew ?_|refine blk_alloc ?_ _));refine blk_far ?_ NB109_117.out _;(with_reducible repeat (first|refine blk_drewN ?_ _|refine blk_drew ?_|refine blk_alloc ?_ _));exact BK109.out) Try.underlying41 rfl (by kernel_rfl)) rfl ?_
         exact ⟨ew_,by repeat (first|(with_reducible first|exact HI0.out|apply IsS78.alloc|apply IsS78.drewN|apply IsS78.drew|apply IsS78.set_0|apply IsS78.set_1|apply IsS78.far (hne:=NB0_109.out)|apply IsS78.far (hne:=NB0_117.out))|exact HI0.out|apply IsS78.set_0|apply IsS78.set_1),by repeat (first|(with_reducible first|exact HB.out|apply below_alloc|apply pw_below_drewN|apply below_drew1|refine below_set ?_ (IsS78.ge HI0.out)|refine below_set ?_ GE109.out|refine below_set ?_ GE117.out)|exact HB.out),by repeat (first|(with_reducible first|exact HK.out|apply KeepBut.set_|apply keep_drewN|apply keep_drew|apply keep_alloc|refine keep_far ?_ GW109.out _|refine keep_far ?_ GW117.out _)|exact HK.out)⟩
        ·rw [if_neg c25] at H
         have c25b0:decide (0 < x4_1)=false:=decide_eq_false c25
         clear c25
         simp only [Option.some.injEq,Prod.mk.injEq] at H
         obtain ⟨rfl,rfl,rfl,rfl,rfl,rfl,rfl,rfl⟩:=H
         go_wp2_with (first|((with_reducible refine gate_dst (N:=5) rfl ?_);refine box_event ?hg (N:=5) ?hd (cs:=#[.int .i64 0,.string (⟨#[]⟩:ByteArray),.int .i64 0,.int .i64 0,.int .i64 0]) (t:=41) ?hr ?_;(case hd => rfl);(case hg => rfl);(case hr => first|(go_simp;done)|(go_simp;rfl));intro gb117 hg w36 hbox hb;have n0_:=Aside0.mk (blk_below (g:=gb109) (o:=.cells #[.int .i64 0,.string (⟨#[]⟩:ByteArray),.int .i64 0,.int .i64 0,.int .i64 0] 41 (0,0)) bk_ hb);have n1_:=Aside0.mk (IsS78.below (by repeat (first|(with_reducible first|exact HI0.out|apply IsS78.alloc|apply IsS78.drewN|apply IsS78.drew|apply IsS78.set_0|apply IsS78.set_1|apply IsS78.far (hne:=NB0_109.out))|exact HI0.out|apply IsS78.set_0|apply IsS78.set_1)) hb);have n2_:=Aside0.mk (KeepBut.trans (by repeat (first|(with_reducible first|exact HK.out|apply KeepBut.set_|apply keep_drewN|apply keep_drew|apply keep_alloc|refine keep_far ?_ GW109.out _)|exact HK.out)) (KeepBut.of_below hb g none) (.inl rfl));have n3_:=Aside0.mk (below_step (by repeat (first|(with_reducible first|exact HB.out|apply below_alloc|apply pw_below_drewN|apply below_drew1|refine below_set ?_ (IsS78.ge HI0.out)|refine below_set ?_ GE109.out)|exact HB.out)) hb);have n4_:=Aside0.mk (hbox);have n5_:=Aside0.mk ((by rw [hg];exact (keep_size (w:=w) (g:=g) (row:=none) (by repeat (first|(with_reducible first|exact HK.out|apply KeepBut.set_|apply keep_drewN|apply keep_drew|apply keep_alloc|refine keep_far ?_ GW109.out _)|exact HK.out))):w.heap.size≤gb117));have n6_:=Aside0.mk ((Nat.le_trans HW0.out (by rw [hg];exact (keep_size (w:=w) (g:=g) (row:=none) (by repeat (first|(with_reducible first|exact HK.out|apply KeepBut.set_|apply keep_drewN|apply keep_drew|apply keep_alloc|refine keep_far ?_ GW109.out _)|exact HK.out))):w.heap.size≤gb117):w0.heap.size≤gb117));have n7_:=Aside0.mk ((by rw [hg];exact Nat.ne_of_lt (blk_lt (g:=gb109) (o:=.cells #[.int .i64 0,.string (⟨#[]⟩:ByteArray),.int .i64 0,.int .i64 0,.int .i64 0] 41 (0,0)) bk_):gb109 ≠ gb117));have n8_:=Aside0.mk ((by rw [hg];exact Nat.ne_of_gt (blk_lt (g:=gb109) (o:=.cells #[.int .i64 0,.string (⟨#[]⟩:ByteArray),.int .i64 0,.int .i64 0,.int .i64 0] 41 (0,0)) bk_):gb117 ≠ gb109));have n9_:=Aside0.mk ((by rw [hg];exact Nat.ne_of_lt (IsS78.lt (show IsS78 w0 _ g x1000_11 x1001_11 from by repeat (first|(with_reducible first|exact HI0.out|apply IsS78.alloc|apply IsS78.drewN|apply IsS78.drew|apply IsS78.set_0|apply IsS78.set_1|apply IsS78.far (hne:=NB0_109.out))|exact HI0.out|apply IsS78.set_0|apply IsS78.set_1))):g ≠ gb117));have n10_:=Aside0.mk ((by rw [hg];exact Nat.ne_of_gt (IsS78.lt (show IsS78 w0 _ g x1000_11 x1001_11 from by repeat (first|(with_reducible first|exact HI0.out|apply IsS78.alloc|apply IsS78.drewN|apply IsS78.drew|apply IsS78.set_0|apply IsS78.set_1|apply IsS78.far (hne:=NB0_109.out))|exact HI0.out|apply IsS78.set_0|apply IsS78.set_1))):gb117 ≠ g));clear BK109;clear HI0;clear HK;clear HB;have BK109:=n0_;have HI0:=n1_;have HK:=n2_;have HB:=n3_;have BK117:=n4_;have GW117:=n5_;have GE117:=n6_;have NB109_117:=n7_;have NB117_109:=n8_;have NB0_117:=n9_;have NB117_0:=n10_;clear n0_ n1_ n2_ n3_ n4_ n5_ n6_ n7_ n8_ n9_ n10_;clear hb hbox hg;have hnb37:=NB117_109.out;have hnc37:=NB109_117.out;have hnb38:=NB117_0.out;have hnc38:=NB0_117.out;obtain ⟨hcz39_0,hcz39_1,hcz39_2,hcz39_3,hcz39_4,hfz39_0,hfz39_1,hfz39_2,hfz39_3,hfz39_4⟩:=blk5_ BK117.out)|((with_reducible refine gate_store (t:=41) (p:=5) rfl ?_);refine store_event (t:=41) (p:=5) (v:=?vo_w40) (w1:=(((((w36.setCell ⟨gb117,0,none⟩ (.int .i64 0)).setCell ⟨gb117,1,none⟩ (.string (⟨#[]⟩:ByteArray))).setCell ⟨gb117,2,none⟩ (.int .i64 0)).setCell ⟨gb117,3,none⟩ (.int .i64 0)).setCell ⟨gb117,4,none⟩ (.int .i64 0))) ?hg ?ho ?hn ?hr ?_;(case ho => rfl);(case hg => rfl);(case hn => rfl);(case hr => first|(go_simp;done)|(go_simp;rfl));intro w40 hw;have n0_:Aside0 (w40.heap[gb109]?=some (.cells #[.int .i64 0,.string (⟨#[]⟩:ByteArray),.int .i64 0,.int .i64 0,.int .i64 0] 41 (0,0))):=⟨(by rw [hw];exact bk_)⟩;have n1_:Aside0 (w40.heap[gb117]?=some (.cells #[.int .i64 0,.string (⟨#[]⟩:ByteArray),.int .i64 0,.int .i64 0,.int .i64 0] 41 (0,0))):=⟨(by rw [hw];exact (st5_ BK117.out))⟩;have n2_:Aside0 (IsS78 w0 w40 g x1000_11 x1001_11):=⟨(by rw [hw];exact (by repeat (first|(with_reducible first|exact HI0.out|apply IsS78.alloc|apply IsS78.drewN|apply IsS78.drew|apply IsS78.set_0|apply IsS78.set_1|apply IsS78.far (hne:=NB0_109.out)|apply IsS78.far (hne:=NB0_117.out))|exact HI0.out|apply IsS78.set_0|apply IsS78.set_1)))⟩;have n3_:Aside0 (KeepBut w w40 g none):=⟨(by rw [hw];exact (by repeat (first|(with_reducible first|exact HK.out|apply KeepBut.set_|apply keep_drewN|apply keep_drew|apply keep_alloc|refine keep_far ?_ GW109.out _|refine keep_far ?_ GW117.out _)|exact HK.out)))⟩;have n4_:Aside0 (Below w0.heap.size w0 w40):=⟨(by rw [hw];exact (by repeat (first|(with_reducible first|exact HB.out|apply below_alloc|apply pw_below_drewN|apply below_drew1|refine below_set ?_ (IsS78.ge HI0.out)|refine below_set ?_ GE109.out|refine below_set ?_ GE117.out)|exact HB.out)))⟩;clear hw;clear BK109;clear BK117;clear HI0;clear HK;clear HB;have BK109:=n0_;have BK117:=n1_;have HI0:=n2_;have HK:=n3_;have HB:=n4_;clear n0_ n1_ n2_ n3_ n4_)|(refine callA_ (f:=33) (some 41) Try.func33 #[.pointer (some ⟨g,0,none⟩)] ?_;(with_reducible refine (kind_scan_left.calls g x1000_11 x1001_11 t118 t119 t120 w0 _ ?side1 ?side2 A21.out).mono ?_);(case side1 => repeat (first|(with_reducible first|exact HI0.out|apply IsS78.alloc|apply IsS78.drewN|apply IsS78.drew|apply IsS78.set_0|apply IsS78.set_1|apply IsS78.far (hne:=NB0_109.out)|apply IsS78.far (hne:=NB0_117.out))|exact HI0.out|apply IsS78.set_0|apply IsS78.set_1));(case side2 => repeat (first|(with_reducible first|exact HB.out|apply below_alloc|apply pw_below_drewN|apply below_drew1|refine below_set ?_ (IsS78.ge HI0.out)|refine below_set ?_ GE109.out|refine below_set ?_ GE117.out)|exact HB.out));rintro e w41 ⟨rfl,hi,hb,hk⟩;refine ⟨_,rfl,?_⟩;have n0_:=Aside0.mk (KeepBut.blk hk (g':=gb109) (o:=.cells #[.int .i64 0,.string (⟨#[]⟩:ByteArray),.int .i64 0,.int .i64 0,.int .i64 0] 41 (0,0)) bk_ NB109_0.out (by simp));have n1_:=Aside0.mk (KeepBut.blk hk (g':=gb117) (o:=.cells #[.int .i64 0,.string (⟨#[]⟩:ByteArray),.int .i64 0,.int .i64 0,.int .i64 0] 41 (0,0)) bk_ NB117_0.out (by simp));have n2_:=Aside0.mk (KeepBut.trans (by repeat (first|(with_reducible first|exact HK.out|apply KeepBut.set_|apply keep_drewN|apply keep_drew|apply keep_alloc|refine keep_far ?_ GW109.out _|refine keep_far ?_ GW117.out _)|exact HK.out)) hk (.inl rfl));have n3_:=Aside0.mk (hb);have n4_:=Aside0.mk (hi);clear BK109;clear BK117;clear HK;clear HB;clear HI0;have BK109:=n0_;have BK117:=n1_;have HK:=n2_;have HB:=n3_;have HI0:=n4_;clear n0_ n1_ n2_ n3_ n4_;(try clear hb);(try clear hb2);(try clear hk);(try clear hi);have p23:0≤(0:Int):=(by omega);have q23:0 < t118.size:=(by have:(0:Int) < (t118.size:Int):=od_;omega);have hx23:∀ h:0 < t118.size,((t118[0]'h).toNat:Int)=bt t118 0:=bt_at t118 0;clear p23;have qi23:(0 < (t118.size:Int))=True:=eq_true (od_);replace q23:=eq_true q23;obtain ⟨hcz42_0,hcz42_1,hcz42_2,hcz42_3,hcz42_4,hfz42_0,hfz42_1,hfz42_2,hfz42_3,hfz42_4⟩:=blk5_ BK117.out;obtain ⟨HGz43,hgz43⟩:=HI0.out;have hcz43_0:=cellS78_0 HGz43;have hcz43_1:=cellS78_1 HGz43;have hfz43_0:=blk_frozen HGz43 0;have hfz43_1:=blk_frozen HGz43 1;clear HGz43 hgz43;have hnb44:=NB109_0.out;have hnc44:=NB0_109.out;obtain ⟨hcz45_0,hcz45_1,hcz45_2,hcz45_3,hcz45_4,hfz45_0,hfz45_1,hfz45_2,hfz45_3,hfz45_4⟩:=blk5_ BK109.out))
         refine bodyPost_ret (results_ct rfl _ _ gb109 41 #[.int .i64 1,.string (⟨#[]⟩:ByteArray),.int .i64 0,.int .i64 0,.int .i64 0] (0,0) _ rfl (by (with_reducible repeat (first|refine blk_drewN ?_ _|refine blk_drew ?_|refine blk_alloc ?_ _));refine blk_put (cs:=#[.int .i64 1,.string (⟨#[]⟩:ByteArray),.int .i64 0,.int .i64 0,.int .i64 0]) ?_ 4 _ rfl;(with_reducible repeat (first|refine blk_drewN ?_ _|refine blk_drew ?_|refine blk_alloc ?_ _));refine blk_put (cs:=#[.int .i64 1,.string (⟨#[]⟩:ByteArray),.int .i64 0,.int .i64 0,.int .i64 0]) ?_ 3 _ rfl;(with_reducible repeat (first|refine blk_drewN ?_ _|refine blk_drew ?_|refine blk_alloc ?_ _));refine blk_put (cs:=#[.int .i64 1,.string (⟨#[]⟩:ByteArray),.int .i64 0,.int .i64 0,.int .i64 0]) ?_ 2 _ rfl;(with_reducible repeat (first|refine blk_drewN ?_ _|refine blk_drew ?_|refine blk_alloc ?_ _));refine blk_put (cs:=#[.int .i64 1,.string (⟨#[]⟩:ByteArray),.int .i64 0,.int .i64 0,.int .i64 0]) ?_ 1 _ rfl;(with_reducible repeat (first|refine blk_drewN ?_ _|refine blk_drew ?_|refine blk_alloc ?_ _));refine blk_put (cs:=#[.int .i64 0,.string (⟨#[]⟩:ByteArray),.int .i64 0,.int .i64 0,.int .i64 0]) ?_ 0 _ rfl;(with_reducible repeat (first|refine blk_drewN ?_ _|refine blk_drew ?_|refine blk_alloc ?_ _));refine blk_far ?_ NB109_0.out _;(with_reducible repeat (first|refine blk_drewN ?_ _|refine blk_drew ?_|refine blk_alloc ?_ _));refine blk_far ?_ NB109_117.out _;(with_reducible repeat (first|refine blk_drewN ?_ _|refine blk_drew ?_|refine blk_alloc ?_ _));exact BK109.out) Try.underlying41 rfl (by kernel_rfl)) rfl ?_
         exact ⟨ew_,by repeat (first|(with_reducible first|exact HI0.out|apply IsS78.alloc|apply IsS78.drewN|apply IsS78.drew|apply IsS78.set_0|apply IsS78.set_1|apply IsS78.far (hne:=NB0_109.out)|apply IsS78.far (hne:=NB0_117.out))|exact HI0.out|apply IsS78.set_0|apply IsS78.set_1),by repeat (first|(with_reducible first|exact HB.out|apply below_alloc|apply pw_below_drewN|apply below_drew1|refine below_set ?_ (IsS78.ge HI0.out)|refine below_set ?_ GE109.out|refine below_set ?_ GE117.out)|exact HB.out),by repeat (first|(with_reducible first|exact HK.out|apply KeepBut.set_|apply keep_drewN|apply keep_drew|apply keep_alloc|refine keep_far ?_ GW109.out _|refine keep_far ?_ GW117.out _)|exact HK.out)⟩
       ·rw [if_neg c24] at H
        have c24b0:((bt t118 0)==73)=false:=beq_eq_false_iff_ne.mpr c24
        have c24b1:((bt t118 0) != 73)=true:=bne_iff_ne.mpr c24
        by_cases c46:(bt t118 0)=74
        ·rw [if_pos c46] at H
         have c46b0:((bt t118 0)==74)=true:=beq_iff_eq.mpr c46
         have c46b1:((bt t118 0) != 74)=false:=bne_eq_false_iff_eq.mpr c46
         clear c46
         by_cases c47:x4_1 > 0
         ·rw [if_pos c47] at H
          have c47b0:decide (0 < x4_1)=true:=decide_eq_true c47
          clear c47
          simp only [Option.some.injEq,Prod.mk.injEq] at H
          obtain ⟨rfl,rfl,rfl,rfl,rfl,rfl,rfl,rfl⟩:=H
          go_wp2_with (first|((with_reducible refine gate_dst (N:=5) rfl ?_);refine box_event ?hg (N:=5) ?hd (cs:=#[.int .i64 0,.string (⟨#[]⟩:ByteArray),.int .i64 0,.int .i64 0,.int .i64 0]) (t:=41) ?hr ?_;(case hd => rfl);(case hg => rfl);(case hr => first|(go_simp;done)|(go_simp;rfl));intro gb117 hg w48 hbox hb;have n0_:=Aside0.mk (blk_below (g:=gb109) (o:=.cells #[.int .i64 0,.string (⟨#[]⟩:ByteArray),.int .i64 0,.int .i64 0,.int .i64 0] 41 (0,0)) bk_ hb);have n1_:=Aside0.mk (IsS78.below (by repeat (first|(with_reducible first|exact HI0.out|apply IsS78.alloc|apply IsS78.drewN|apply IsS78.drew|apply IsS78.set_0|apply IsS78.set_1|apply IsS78.far (hne:=NB0_109.out))|exact HI0.out|apply IsS78.set_0|apply IsS78.set_1)) hb);have n2_:=Aside0.mk (KeepBut.trans (by repeat (first|(with_reducible first|exact HK.out|apply KeepBut.set_|apply keep_drewN|apply keep_drew|apply keep_alloc|refine keep_far ?_ GW109.out _)|exact HK.out)) (KeepBut.of_below hb g none) (.inl rfl));have n3_:=Aside0.mk (below_step (by repeat (first|(with_reducible first|exact HB.out|apply below_alloc|apply pw_below_drewN|apply below_drew1|refine below_set ?_ (IsS78.ge HI0.out)|refine below_set ?_ GE109.out)|exact HB.out)) hb);have n4_:=Aside0.mk (hbox);have n5_:=Aside0.mk ((by rw [hg];exact (keep_size (w:=w) (g:=g) (row:=none) (by repeat (first|(with_reducible first|exact HK.out|apply KeepBut.set_|apply keep_drewN|apply keep_drew|apply keep_alloc|refine keep_far ?_ GW109.out _)|exact HK.out))):w.heap.size≤gb117));have n6_:=Aside0.mk ((Nat.le_trans HW0.out (by rw [hg];exact (keep_size (w:=w) (g:=g) (row:=none) (by repeat (first|(with_reducible first|exact HK.out|apply KeepBut.set_|apply keep_drewN|apply keep_drew|apply keep_alloc|refine keep_far ?_ GW109.out _)|exact HK.out))):w.heap.size≤gb117):w0.heap.size≤gb117));have n7_:=Aside0.mk ((by rw [hg];exact Nat.ne_of_lt (blk_lt (g:=gb109) (o:=.cells #[.int .i64 0,.string (⟨#[]⟩:ByteArray),.int .i64 0,.int .i64 0,.int .i64 0] 41 (0,0)) bk_):gb109 ≠ gb117));have n8_:=Aside0.mk ((by rw [hg];exact Nat.ne_of_gt (blk_lt (g:=gb109) (o:=.cells #[.int .i64 0,.string (⟨#[]⟩:ByteArray),.int .i64 0,.int .i64 0,.int .i64 0] 41 (0,0)) bk_):gb117 ≠ gb109));have n9_:=Aside0.mk ((by rw [hg];exact Nat.ne_of_lt (IsS78.lt (show IsS78 w0 _ g x1000_11 x1001_11 from by repeat (first|(with_reducible first|exact HI0.out|apply IsS78.alloc|apply IsS78.drewN|apply IsS78.drew|apply IsS78.set_0|apply IsS78.set_1|apply IsS78.far (hne:=NB0_109.out))|exact HI0.out|apply IsS78.set_0|apply IsS78.set_1))):g ≠ gb117));have n10_:=Aside0.mk ((by rw [hg];exact Nat.ne_of_gt (IsS78.lt (show IsS78 w0 _ g x1000_11 x1001_11 from by repeat (first|(with_reducible first|exact HI0.out|apply IsS78.alloc|apply IsS78.drewN|apply IsS78.drew|apply IsS78.set_0|apply IsS78.set_1|apply IsS78.far (hne:=NB0_109.out))|exact HI0.out|apply IsS78.set_0|apply IsS78.set_1))):gb117 ≠ g));clear BK109;clear HI0;clear HK;clear HB;have BK109:=n0_;have HI0:=n1_;have HK:=n2_;have HB:=n3_;have BK117:=n4_;have GW117:=n5_;have GE117:=n6_;have NB109_117:=n7_;have NB117_109:=n8_;have NB0_117:=n9_;have NB117_0:=n10_;clear n0_ n1_ n2_ n3_ n4_ n5_ n6_ n7_ n8_ n9_ n10_;clear hb hbox hg;have hnb49:=NB117_109.out;have hnc49:=NB109_117.out;have hnb50:=NB117_0.out;have hnc50:=NB0_117.out;obtain ⟨hcz51_0,hcz51_1,hcz51_2,hcz51_3,hcz51_4,hfz51_0,hfz51_1,hfz51_2,hfz51_3,hfz51_4⟩:=blk5_ BK117.out)|((with_reducible refine gate_store (t:=41) (p:=5) rfl ?_);refine store_event (t:=41) (p:=5) (v:=?vo_w52) (w1:=(((((w48.setCell ⟨gb117,0,none⟩ (.int .i64 0)).setCell ⟨gb117,1,none⟩ (.string (⟨#[]⟩:ByteArray))).setCell ⟨gb117,2,none⟩ (.int .i64 0)).setCell ⟨gb117,3,none⟩ (.int .i64 0)).setCell ⟨gb117,4,none⟩ (.int .i64 0))) ?hg ?ho ?hn ?hr ?_;(case ho => rfl);(case hg => rfl);(case hn => rfl);(case hr => first|(go_simp;done)|(go_simp;rfl));intro w52 hw;have n0_:Aside0 (w52.heap[gb109]?=some (.cells #[.int .i64 0,.string (⟨#[]⟩:ByteArray),.int .i64 0,.int .i64 0,.int .i64 0] 41 (0,0))):=⟨(by rw [hw];exact bk_)⟩;have n1_:Aside0 (w52.heap[gb117]?=some (.cells #[.int .i64 0,.string (⟨#[]⟩:ByteArray),.int .i64 0,.int .i64 0,.int .i64 0] 41 (0,0))):=⟨(by rw [hw];exact (st5_ BK117.out))⟩;have n2_:Aside0 (IsS78 w0 w52 g x1000_11 x1001_11):=⟨(by rw [hw];exact (by repeat (first|(with_reducible first|exact HI0.out|apply IsS78.alloc|apply IsS78.drewN|apply IsS78.drew|apply IsS78.set_0|apply IsS78.set_1|apply IsS78.far (hne:=NB0_109.out)|apply IsS78.far (hne:=NB0_117.out))|exact HI0.out|apply IsS78.set_0|apply IsS78.set_1)))⟩;have n3_:Aside0 (KeepBut w w52 g none):=⟨(by rw [hw];exact (by repeat (first|(with_reducible first|exact HK.out|apply KeepBut.set_|apply keep_drewN|apply keep_drew|apply keep_alloc|refine keep_far ?_ GW109.out _|refine keep_far ?_ GW117.out _)|exact HK.out)))⟩;have n4_:Aside0 (Below w0.heap.size w0 w52):=⟨(by rw [hw];exact (by repeat (first|(with_reducible first|exact HB.out|apply below_alloc|apply pw_below_drewN|apply below_drew1|refine below_set ?_ (IsS78.ge HI0.out)|refine below_set ?_ GE109.out|refine below_set ?_ GE117.out)|exact HB.out)))⟩;clear hw;clear BK109;clear BK117;clear HI0;clear HK;clear HB;have BK109:=n0_;have BK117:=n1_;have HI0:=n2_;have HK:=n3_;have HB:=n4_;clear n0_ n1_ n2_ n3_ n4_)|(refine callA_ (f:=33) (some 41) Try.func33 #[.pointer (some ⟨g,0,none⟩)] ?_;(with_reducible refine (kind_scan_left.calls g x1000_11 x1001_11 t118 t119 t120 w0 _ ?side1 ?side2 A21.out).mono ?_);(case side1 => repeat (first|(with_reducible first|exact HI0.out|apply IsS78.alloc|apply IsS78.drewN|apply IsS78.drew|apply IsS78.set_0|apply IsS78.set_1|apply IsS78.far (hne:=NB0_109.out)|apply IsS78.far (hne:=NB0_117.out))|exact HI0.out|apply IsS78.set_0|apply IsS78.set_1));(case side2 => repeat (first|(with_reducible first|exact HB.out|apply below_alloc|apply pw_below_drewN|apply below_drew1|refine below_set ?_ (IsS78.ge HI0.out)|refine below_set ?_ GE109.out|refine below_set ?_ GE117.out)|exact HB.out));rintro e w53 ⟨rfl,hi,hb,hk⟩;refine ⟨_,rfl,?_⟩;have n0_:=Aside0.mk (KeepBut.blk hk (g':=gb109) (o:=.cells #[.int .i64 0,.string (⟨#[]⟩:ByteArray),.int .i64 0,.int .i64 0,.int .i64 0] 41 (0,0)) bk_ NB109_0.out (by simp));have n1_:=Aside0.mk (KeepBut.blk hk (g':=gb117) (o:=.cells #[.int .i64 0,.string (⟨#[]⟩:ByteArray),.int .i64 0,.int .i64 0,.int .i64 0] 41 (0,0)) bk_ NB117_0.out (by simp));have n2_:=Aside0.mk (KeepBut.trans (by repeat (first|(with_reducible first|exact HK.out|apply KeepBut.set_|apply keep_drewN|apply keep_drew|apply keep_alloc|refine keep_far ?_ GW109.out _|refine keep_far ?_ GW117.out _)|exact HK.out)) hk (.inl rfl));have n3_:=Aside0.mk (hb);have n4_:=Aside0.mk (hi);clear BK109;clear BK117;clear HK;clear HB;clear HI0;have BK109:=n0_;have BK117:=n1_;have HK:=n2_;have HB:=n3_;have HI0:=n4_;clear n0_ n1_ n2_ n3_ n4_;(try clear hb);(try clear hb2);(try clear hk);(try clear hi);have p23:0≤(0:Int):=(by omega);have q23:0 < t118.size:=(by have:(0:Int) < (t118.size:Int):=od_;omega);have hx23:∀ h:0 < t118.size,((t118[0]'h).toNat:Int)=bt t118 0:=bt_at t118 0;clear p23;have qi23:(0 < (t118.size:Int))=True:=eq_true (od_);replace q23:=eq_true q23;obtain ⟨hcz54_0,hcz54_1,hcz54_2,hcz54_3,hcz54_4,hfz54_0,hfz54_1,hfz54_2,hfz54_3,hfz54_4⟩:=blk5_ BK117.out;obtain ⟨HGz55,hgz55⟩:=HI0.out;have hcz55_0:=cellS78_0 HGz55;have hcz55_1:=cellS78_1 HGz55;have hfz55_0:=blk_frozen HGz55 0;have hfz55_1:=blk_frozen HGz55 1;clear HGz55 hgz55;have hnb56:=NB109_0.out;have hnc56:=NB0_109.out;obtain ⟨hcz57_0,hcz57_1,hcz57_2,hcz57_3,hcz57_4,hfz57_0,hfz57_1,hfz57_2,hfz57_3,hfz57_4⟩:=blk5_ BK109.out))
          refine bodyPost_ret (results_ct rfl _ _ gb109 41 #[.int .i64 5,.string (⟨#[]⟩:ByteArray),.int .i64 x4_1,.int .i64 2,.int .i64 0] (0,0) _ rfl (by (with_reducible repeat (first|refine blk_drewN ?_ _|refine blk_drew ?_|refine blk_alloc ?_ _));refine blk_put (cs:=#[.int .i64 5,.string (⟨#[]⟩:ByteArray),.int .i64 x4_1,.int .i64 2,.int .i64 0]) ?_ 4 _ rfl;(with_reducible repeat (first|refine blk_drewN ?_ _|refine blk_drew ?_|refine blk_alloc ?_ _));refine blk_put (cs:=#[.int .i64 5,.string (⟨#[]⟩:ByteArray),.int .i64 x4_1,.int .i64 0,.int .i64 0]) ?_ 3 _ rfl;(with_reducible repeat (first|refine blk_drewN ?_ _|refine blk_drew ?_|refine blk_alloc ?_ _));refine blk_put (cs:=#[.int .i64 5,.string (⟨#[]⟩:ByteArray),.int .i64 0,.int .i64 0,.int .i64 0]) ?_ 2 _ rfl;(with_reducible repeat (first|refine blk_drewN ?_ _|refine blk_drew ?_|refine blk_alloc ?_ _));refine blk_put (cs:=#[.int .i64 5,.string (⟨#[]⟩:ByteArray),.int .i64 0,.int .i64 0,.int .i64 0]) ?_ 1 _ rfl;(with_reducible repeat (first|refine blk_drewN ?_ _|refine blk_drew ?_|refine blk_alloc ?_ _));refine blk_put (cs:=#[.int .i64 0,.string (⟨#[]⟩:ByteArray),.int .i64 0,.int .i64 0,.int .i64 0]) ?_ 0 _ rfl;(with_reducible repeat (first|refine blk_drewN ?_ _|refine blk_drew ?_|refine blk_alloc ?_ _));refine blk_far ?_ NB109_117.out _;(with_reducible repeat (first|refine blk_drewN ?_ _|refine blk_drew ?_|refine blk_alloc ?_ _));refine blk_far ?_ NB109_117.out _;(with_reducible repeat (first|refine blk_drewN ?_ _|refine blk_drew ?_|refine blk_alloc ?_ _));refine blk_far ?_ NB109_117.out _;(with_reducible repeat (first|refine blk_drewN ?_ _|refine blk_drew ?_|refine blk_alloc ?_ _));refine blk_far ?_ NB109_0.out _;(with_reducible repeat (first|refine blk_drewN ?_ _|refine blk_drew ?_|refine blk_alloc ?_ _));refine blk_far ?_ NB109_117.out _;(with_reducible repeat (first|refine blk_drewN ?_ _|refine blk_drew ?_|refine blk_alloc ?_ _));exact BK109.out) Try.underlying41 rfl (by kernel_rfl)) rfl ?_
          exact ⟨ew_,by repeat (first|(with_reducible first|exact HI0.out|apply IsS78.alloc|apply IsS78.drewN|apply IsS78.drew|apply IsS78.set_0|apply IsS78.set_1|apply IsS78.far (hne:=NB0_109.out)|apply IsS78.far (hne:=NB0_117.out))|exact HI0.out|apply IsS78.set_0|apply IsS78.set_1),by repeat (first|(with_reducible first|exact HB.out|apply below_alloc|apply pw_below_drewN|apply below_drew1|refine below_set ?_ (IsS78.ge HI0.out)|refine below_set ?_ GE109.out|refine below_set ?_ GE117.out)|exact HB.out),by repeat (first|(with_reducible first|exact HK.out|apply KeepBut.set_|apply keep_drewN|apply keep_drew|apply keep_alloc|refine keep_far ?_ GW109.out _|refine keep_far ?_ GW117.out _)|exact HK.out)⟩
         ·rw [if_neg c47] at H
          have c47b0:decide (0 < x4_1)=false:=decide_eq_false c47
          clear c47
          simp only [Option.some.injEq,Prod.mk.injEq] at H
          obtain ⟨rfl,rfl,rfl,rfl,rfl,rfl,rfl,rfl⟩:=H
          go_wp2_with (first|((with_reducible refine gate_dst (N:=5) rfl ?_);refine box_event ?hg (N:=5) ?hd (cs:=#[.int .i64 0,.string (⟨#[]⟩:ByteArray),.int .i64 0,.int .i64 0,.int .i64 0]) (t:=41) ?hr ?_;(case hd => rfl);(case hg => rfl);(case hr => first|(go_simp;done)|(go_simp;rfl));intro gb117 hg w58 hbox hb;have n0_:=Aside0.mk (blk_below (g:=gb109) (o:=.cells #[.int .i64 0,.string (⟨#[]⟩:ByteArray),.int .i64 0,.int .i64 0,.int .i64 0] 41 (0,0)) bk_ hb);have n1_:=Aside0.mk (IsS78.below (by repeat (first|(with_reducible first|exact HI0.out|apply IsS78.alloc|apply IsS78.drewN|apply IsS78.drew|apply IsS78.set_0|apply IsS78.set_1|apply IsS78.far (hne:=NB0_109.out))|exact HI0.out|apply IsS78.set_0|apply IsS78.set_1)) hb);have n2_:=Aside0.mk (KeepBut.trans (by repeat (first|(with_reducible first|exact HK.out|apply KeepBut.set_|apply keep_drewN|apply keep_drew|apply keep_alloc|refine keep_far ?_ GW109.out _)|exact HK.out)) (KeepBut.of_below hb g none) (.inl rfl));have n3_:=Aside0.mk (below_step (by repeat (first|(with_reducible first|exact HB.out|apply below_alloc|apply pw_below_drewN|apply below_drew1|refine below_set ?_ (IsS78.ge HI0.out)|refine below_set ?_ GE109.out)|exact HB.out)) hb);have n4_:=Aside0.mk (hbox);have n5_:=Aside0.mk ((by rw [hg];exact (keep_size (w:=w) (g:=g) (row:=none) (by repeat (first|(with_reducible first|exact HK.out|apply KeepBut.set_|apply keep_drewN|apply keep_drew|apply keep_alloc|refine keep_far ?_ GW109.out _)|exact HK.out))):w.heap.size≤gb117));have n6_:=Aside0.mk ((Nat.le_trans HW0.out (by rw [hg];exact (keep_size (w:=w) (g:=g) (row:=none) (by repeat (first|(with_reducible first|exact HK.out|apply KeepBut.set_|apply keep_drewN|apply keep_drew|apply keep_alloc|refine keep_far ?_ GW109.out _)|exact HK.out))):w.heap.size≤gb117):w0.heap.size≤gb117));have n7_:=Aside0.mk ((by rw [hg];exact Nat.ne_of_lt (blk_lt (g:=gb109) (o:=.cells #[.int .i64 0,.string (⟨#[]⟩:ByteArray),.int .i64 0,.int .i64 0,.int .i64 0] 41 (0,0)) bk_):gb109 ≠ gb117));have n8_:=Aside0.mk ((by rw [hg];exact Nat.ne_of_gt (blk_lt (g:=gb109) (o:=.cells #[.int .i64 0,.string (⟨#[]⟩:ByteArray),.int .i64 0,.int .i64 0,.int .i64 0] 41 (0,0)) bk_):gb117 ≠ gb109));have n9_:=Aside0.mk ((by rw [hg];exact Nat.ne_of_lt (IsS78.lt (show IsS78 w0 _ g x1000_11 x1001_11 from by repeat (first|(with_reducible first|exact HI0.out|apply IsS78.alloc|apply IsS78.drewN|apply IsS78.drew|apply IsS78.set_0|apply IsS78.set_1|apply IsS78.far (hne:=NB0_109.out))|exact HI0.out|apply IsS78.set_0|apply IsS78.set_1))):g ≠ gb117));have n10_:=Aside0.mk ((by rw [hg];exact Nat.ne_of_gt (IsS78.lt (show IsS78 w0 _ g x1000_11 x1001_11 from by repeat (first|(with_reducible first|exact HI0.out|apply IsS78.alloc|apply IsS78.drewN|apply IsS78.drew|apply IsS78.set_0|apply IsS78.set_1|apply IsS78.far (hne:=NB0_109.out))|exact HI0.out|apply IsS78.set_0|apply IsS78.set_1))):gb117 ≠ g));clear BK109;clear HI0;clear HK;clear HB;have BK109:=n0_;have HI0:=n1_;have HK:=n2_;have HB:=n3_;have BK117:=n4_;have GW117:=n5_;have GE117:=n6_;have NB109_117:=n7_;have NB117_109:=n8_;have NB0_117:=n9_;have NB117_0:=n10_;clear n0_ n1_ n2_ n3_ n4_ n5_ n6_ n7_ n8_ n9_ n10_;clear hb hbox hg;have hnb59:=NB117_109.out;have hnc59:=NB109_117.out;have hnb60:=NB117_0.out;have hnc60:=NB0_117.out;obtain ⟨hcz61_0,hcz61_1,hcz61_2,hcz61_3,hcz61_4,hfz61_0,hfz61_1,hfz61_2,hfz61_3,hfz61_4⟩:=blk5_ BK117.out)|((with_reducible refine gate_store (t:=41) (p:=5) rfl ?_);refine store_event (t:=41) (p:=5) (v:=?vo_w62) (w1:=(((((w58.setCell ⟨gb117,0,none⟩ (.int .i64 0)).setCell ⟨gb117,1,none⟩ (.string (⟨#[]⟩:ByteArray))).setCell ⟨gb117,2,none⟩ (.int .i64 0)).setCell ⟨gb117,3,none⟩ (.int .i64 0)).setCell ⟨gb117,4,none⟩ (.int .i64 0))) ?hg ?ho ?hn ?hr ?_;(case ho => rfl);(case hg => rfl);(case hn => rfl);(case hr => first|(go_simp;done)|(go_simp;rfl));intro w62 hw;have n0_:Aside0 (w62.heap[gb109]?=some (.cells #[.int .i64 0,.string (⟨#[]⟩:ByteArray),.int .i64 0,.int .i64 0,.int .i64 0] 41 (0,0))):=⟨(by rw [hw];exact bk_)⟩;have n1_:Aside0 (w62.heap[gb117]?=some (.cells #[.int .i64 0,.string (⟨#[]⟩:ByteArray),.int .i64 0,.int .i64 0,.int .i64 0] 41 (0,0))):=⟨(by rw [hw];exact (st5_ BK117.out))⟩;have n2_:Aside0 (IsS78 w0 w62 g x1000_11 x1001_11):=⟨(by rw [hw];exact (by repeat (first|(with_reducible first|exact HI0.out|apply IsS78.alloc|apply IsS78.drewN|apply IsS78.drew|apply IsS78.set_0|apply IsS78.set_1|apply IsS78.far (hne:=NB0_109.out)|apply IsS78.far (hne:=NB0_117.out))|exact HI0.out|apply IsS78.set_0|apply IsS78.set_1)))⟩;have n3_:Aside0 (KeepBut w w62 g none):=⟨(by rw [hw];exact (by repeat (first|(with_reducible first|exact HK.out|apply KeepBut.set_|apply keep_drewN|apply keep_drew|apply keep_alloc|refine keep_far ?_ GW109.out _|refine keep_far ?_ GW117.out _)|exact HK.out)))⟩;have n4_:Aside0 (Below w0.heap.size w0 w62):=⟨(by rw [hw];exact (by repeat (first|(with_reducible first|exact HB.out|apply below_alloc|apply pw_below_drewN|apply below_drew1|refine below_set ?_ (IsS78.ge HI0.out)|refine below_set ?_ GE109.out|refine below_set ?_ GE117.out)|exact HB.out)))⟩;clear hw;clear BK109;clear BK117;clear HI0;clear HK;clear HB;have BK109:=n0_;have BK117:=n1_;have HI0:=n2_;have HK:=n3_;have HB:=n4_;clear n0_ n1_ n2_ n3_ n4_)|(refine callA_ (f:=33) (some 41) Try.func33 #[.pointer (some ⟨g,0,none⟩)] ?_;(with_reducible refine (kind_scan_left.calls g x1000_11 x1001_11 t118 t119 t120 w0 _ ?side1 ?side2 A21.out).mono ?_);(case side1 => repeat (first|(with_reducible first|exact HI0.out|apply IsS78.alloc|apply IsS78.drewN|apply IsS78.drew|apply IsS78.set_0|apply IsS78.set_1|apply IsS78.far (hne:=NB0_109.out)|apply IsS78.far (hne:=NB0_117.out))|exact HI0.out|apply IsS78.set_0|apply IsS78.set_1));(case side2 => repeat (first|(with_reducible first|exact HB.out|apply below_alloc|apply pw_below_drewN|apply below_drew1|refine below_set ?_ (IsS78.ge HI0.out)|refine below_set ?_ GE109.out|refine below_set ?_ GE117.out)|exact HB.out));rintro e w63 ⟨rfl,hi,hb,hk⟩;refine ⟨_,rfl,?_⟩;have n0_:=Aside0.mk (KeepBut.blk hk (g':=gb109) (o:=.cells #[.int .i64 0,.string (⟨#[]⟩:ByteArray),.int .i64 0,.int .i64 0,.int .i64 0] 41 (0,0)) bk_ NB109_0.out (by simp));have n1_:=Aside0.mk (KeepBut.blk hk (g':=gb117) (o:=.cells #[.int .i64 0,.string (⟨#[]⟩:ByteArray),.int .i64 0,.int .i64 0,.int .i64 0] 41 (0,0)) bk_ NB117_0.out (by simp));have n2_:=Aside0.mk (KeepBut.trans (by repeat (first|(with_reducible first|exact HK.out|apply KeepBut.set_|apply keep_drewN|apply keep_drew|apply keep_alloc|refine keep_far ?_ GW109.out _|refine keep_far ?_ GW117.out _)|exact HK.out)) hk (.inl rfl));have n3_:=Aside0.mk (hb);have n4_:=Aside0.mk (hi);clear BK109;clear BK117;clear HK;clear HB;clear HI0;have BK109:=n0_;have BK117:=n1_;have HK:=n2_;have HB:=n3_;have HI0:=n4_;clear n0_ n1_ n2_ n3_ n4_;(try clear hb);(try clear hb2);(try clear hk);(try clear hi);have p23:0≤(0:Int):=(by omega);have q23:0 < t118.size:=(by have:(0:Int) < (t118.size:Int):=od_;omega);have hx23:∀ h:0 < t118.size,((t118[0]'h).toNat:Int)=bt t118 0:=bt_at t118 0;clear p23;have qi23:(0 < (t118.size:Int))=True:=eq_true (od_);replace q23:=eq_true q23;obtain ⟨hcz64_0,hcz64_1,hcz64_2,hcz64_3,hcz64_4,hfz64_0,hfz64_1,hfz64_2,hfz64_3,hfz64_4⟩:=blk5_ BK117.out;obtain ⟨HGz65,hgz65⟩:=HI0.out;have hcz65_0:=cellS78_0 HGz65;have hcz65_1:=cellS78_1 HGz65;have hfz65_0:=blk_frozen HGz65 0;have hfz65_1:=blk_frozen HGz65 1;clear HGz65 hgz65;have hnb66:=NB109_0.out;have hnc66:=NB0_109.out;obtain ⟨hcz67_0,hcz67_1,hcz67_2,hcz67_3,hcz67_4,hfz67_0,hfz67_1,hfz67_2,hfz67_3,hfz67_4⟩:=blk5_ BK109.out))
          refine bodyPost_ret (results_ct rfl _ _ gb109 41 #[.int .i64 2,.string (⟨#[]⟩:ByteArray),.int .i64 0,.int .i64 0,.int .i64 0] (0,0) _ rfl (by (with_reducible repeat (first|refine blk_drewN ?_ _|refine blk_drew ?_|refine blk_alloc ?_ _));refine blk_put (cs:=#[.int .i64 2,.string (⟨#[]⟩:ByteArray),.int .i64 0,.int .i64 0,.int .i64 0]) ?_ 4 _ rfl;(with_reducible repeat (first|refine blk_drewN ?_ _|refine blk_drew ?_|refine blk_alloc ?_ _));refine blk_put (cs:=#[.int .i64 2,.string (⟨#[]⟩:ByteArray),.int .i64 0,.int .i64 0,.int .i64 0]) ?_ 3 _ rfl;(with_reducible repeat (first|refine blk_drewN ?_ _|refine blk_drew ?_|refine blk_alloc ?_ _));refine blk_put (cs:=#[.int .i64 2,.string (⟨#[]⟩:ByteArray),.int .i64 0,.int .i64 0,.int .i64 0]) ?_ 2 _ rfl;(with_reducible repeat (first|refine blk_drewN ?_ _|refine blk_drew ?_|refine blk_alloc ?_ _));refine blk_put (cs:=#[.int .i64 2,.string (⟨#[]⟩:ByteArray),.int .i64 0,.int .i64 0,.int .i64 0]) ?_ 1 _ rfl;(with_reducible repeat (first|refine blk_drewN ?_ _|refine blk_drew ?_|refine blk_alloc ?_ _));refine blk_put (cs:=#[.int .i64 0,.string (⟨#[]⟩:ByteArray),.int .i64 0,.int .i64 0,.int .i64 0]) ?_ 0 _ rfl;(with_reducible repeat (first|refine blk_drewN ?_ _|refine blk_drew ?_|refine blk_alloc ?_ _));refine blk_far ?_ NB109_0.out _;(with_reducible repeat (first|refine blk_drewN ?_ _|refine blk_drew ?_|refine blk_alloc ?_ _));refine blk_far ?_ NB109_117.out _;(with_reducible repeat (first|refine blk_drewN ?_ _|refine blk_drew ?_|refine blk_alloc ?_ _));exact BK109.out) Try.underlying41 rfl (by kernel_rfl)) rfl ?_
          exact ⟨ew_,by repeat (first|(with_reducible first|exact HI0.out|apply IsS78.alloc|apply IsS78.drewN|apply IsS78.drew|apply IsS78.set_0|apply IsS78.set_1|apply IsS78.far (hne:=NB0_109.out)|apply IsS78.far (hne:=NB0_117.out))|exact HI0.out|apply IsS78.set_0|apply IsS78.set_1),by repeat (first|(with_reducible first|exact HB.out|apply below_alloc|apply pw_below_drewN|apply below_drew1|refine below_set ?_ (IsS78.ge HI0.out)|refine below_set ?_ GE109.out|refine below_set ?_ GE117.out)|exact HB.out),by repeat (first|(with_reducible first|exact HK.out|apply KeepBut.set_|apply keep_drewN|apply keep_drew|apply keep_alloc|refine keep_far ?_ GW109.out _|refine keep_far ?_ GW117.out _)|exact HK.out)⟩
        ·rw [if_neg c46] at H
         have c46b0:((bt t118 0)==74)=false:=beq_eq_false_iff_ne.mpr c46
         have c46b1:((bt t118 0) != 74)=true:=bne_iff_ne.mpr c46
         by_cases c68:(bt t118 0)=76
         ·rw [if_pos c68] at H
          have c68b0:((bt t118 0)==76)=true:=beq_iff_eq.mpr c68
          have c68b1:((bt t118 0) != 76)=false:=bne_eq_false_iff_eq.mpr c68
          clear c68
          replace H:=Option.bind_eq_some_iff.mp H
          obtain ⟨⟨t121,t122,t123⟩,A690,H⟩:=H
          try dsimp only at H
          have A69:=Aside0.mk A690
          clear A690
          by_cases c70:1≤(t121.size:Int)
          ·rw [if_pos c70] at H
           have c70b0:=eq_true c70
           have c70b1:decide (1≤(t121.size:Int))=true:=decide_eq_true c70
           clear c70
           replace H:=Option.bind_eq_some_iff.mp H
           obtain ⟨⟨t124,t125,t126⟩,A710,H⟩:=H
           try dsimp only at H
           have A71:=Aside0.mk A710
           clear A710
           have HC72:=Aside0.mk H
           clear H
           go_upto_region 20 with (first|((with_reducible refine gate_dst (N:=5) rfl ?_);refine box_event ?hg (N:=5) ?hd (cs:=#[.int .i64 0,.string (⟨#[]⟩:ByteArray),.int .i64 0,.int .i64 0,.int .i64 0]) (t:=41) ?hr ?_;(case hd => rfl);(case hg => rfl);(case hr => first|(go_simp;done)|(go_simp;rfl));intro gb117 hg w73 hbox hb;have n0_:=Aside0.mk (blk_below (g:=gb109) (o:=.cells #[.int .i64 0,.string (⟨#[]⟩:ByteArray),.int .i64 0,.int .i64 0,.int .i64 0] 41 (0,0)) bk_ hb);have n1_:=Aside0.mk (IsS78.below (by repeat (first|(with_reducible first|exact HI0.out|apply IsS78.alloc|apply IsS78.drewN|apply IsS78.drew|apply IsS78.set_0|apply IsS78.set_1|apply IsS78.far (hne:=NB0_109.out))|exact HI0.out|apply IsS78.set_0|apply IsS78.set_1)) hb);have n2_:=Aside0.mk (KeepBut.trans (by repeat (first|(with_reducible first|exact HK.out|apply KeepBut.set_|apply keep_drewN|apply keep_drew|apply keep_alloc|refine keep_far ?_ GW109.out _)|exact HK.out)) (KeepBut.of_below hb g none) (.inl rfl));have n3_:=Aside0.mk (below_step (by repeat (first|(with_reducible first|exact HB.out|apply below_alloc|apply pw_below_drewN|apply below_drew1|refine below_set ?_ (IsS78.ge HI0.out)|refine below_set ?_ GE109.out)|exact HB.out)) hb);have n4_:=Aside0.mk (hbox);have n5_:=Aside0.mk ((by rw [hg];exact (keep_size (w:=w) (g:=g) (row:=none) (by repeat (first|(with_reducible first|exact HK.out|apply KeepBut.set_|apply keep_drewN|apply keep_drew|apply keep_alloc|refine keep_far ?_ GW109.out _)|exact HK.out))):w.heap.size≤gb117));have n6_:=Aside0.mk ((Nat.le_trans HW0.out (by rw [hg];exact (keep_size (w:=w) (g:=g) (row:=none) (by repeat (first|(with_reducible first|exact HK.out|apply KeepBut.set_|apply keep_drewN|apply keep_drew|apply keep_alloc|refine keep_far ?_ GW109.out _)|exact HK.out))):w.heap.size≤gb117):w0.heap.size≤gb117));have n7_:=Aside0.mk ((by rw [hg];exact Nat.ne_of_lt (blk_lt (g:=gb109) (o:=.cells #[.int .i64 0,.string (⟨#[]⟩:ByteArray),.int .i64 0,.int .i64 0,.int .i64 0] 41 (0,0)) bk_):gb109 ≠ gb117));have n8_:=Aside0.mk ((by rw [hg];exact Nat.ne_of_gt (blk_lt (g:=gb109) (o:=.cells #[.int .i64 0,.string (⟨#[]⟩:ByteArray),.int .i64 0,.int .i64 0,.int .i64 0] 41 (0,0)) bk_):gb117 ≠ gb109));have n9_:=Aside0.mk ((by rw [hg];exact Nat.ne_of_lt (IsS78.lt (show IsS78 w0 _ g x1000_11 x1001_11 from by repeat (first|(with_reducible first|exact HI0.out|apply IsS78.alloc|apply IsS78.drewN|apply IsS78.drew|apply IsS78.set_0|apply IsS78.set_1|apply IsS78.far (hne:=NB0_109.out))|exact HI0.out|apply IsS78.set_0|apply IsS78.set_1))):g ≠ gb117));have n10_:=Aside0.mk ((by rw [hg];exact Nat.ne_of_gt (IsS78.lt (show IsS78 w0 _ g x1000_11 x1001_11 from by repeat (first|(with_reducible first|exact HI0.out|apply IsS78.alloc|apply IsS78.drewN|apply IsS78.drew|apply IsS78.set_0|apply IsS78.set_1|apply IsS78.far (hne:=NB0_109.out))|exact HI0.out|apply IsS78.set_0|apply IsS78.set_1))):gb117 ≠ g));clear BK109;clear HI0;clear HK;clear HB;have BK109:=n0_;have HI0:=n1_;have HK:=n2_;have HB:=n3_;have BK117:=n4_;have GW117:=n5_;have GE117:=n6_;have NB109_117:=n7_;have NB117_109:=n8_;have NB0_117:=n9_;have NB117_0:=n10_;clear n0_ n1_ n2_ n3_ n4_ n5_ n6_ n7_ n8_ n9_ n10_;clear hb hbox hg;have hnb74:=NB117_109.out;have hnc74:=NB109_117.out;have hnb75:=NB117_0.out;have hnc75:=NB0_117.out;obtain ⟨hcz76_0,hcz76_1,hcz76_2,hcz76_3,hcz76_4,hfz76_0,hfz76_1,hfz76_2,hfz76_3,hfz76_4⟩:=blk5_ BK117.out)|((with_reducible refine gate_store (t:=41) (p:=5) rfl ?_);refine store_event (t:=41) (p:=5) (v:=?vo_w77) (w1:=(((((w73.setCell ⟨gb117,0,none⟩ (.int .i64 0)).setCell ⟨gb117,1,none⟩ (.string (⟨#[]⟩:ByteArray))).setCell ⟨gb117,2,none⟩ (.int .i64 0)).setCell ⟨gb117,3,none⟩ (.int .i64 0)).setCell ⟨gb117,4,none⟩ (.int .i64 0))) ?hg ?ho ?hn ?hr ?_;(case ho => rfl);(case hg => rfl);(case hn => rfl);(case hr => first|(go_simp;done)|(go_simp;rfl));intro w77 hw;have n0_:Aside0 (w77.heap[gb109]?=some (.cells #[.int .i64 0,.string (⟨#[]⟩:ByteArray),.int .i64 0,.int .i64 0,.int .i64 0] 41 (0,0))):=⟨(by rw [hw];exact bk_)⟩;have n1_:Aside0 (w77.heap[gb117]?=some (.cells #[.int .i64 0,.string (⟨#[]⟩:ByteArray),.int .i64 0,.int .i64 0,.int .i64 0] 41 (0,0))):=⟨(by rw [hw];exact (st5_ BK117.out))⟩;have n2_:Aside0 (IsS78 w0 w77 g x1000_11 x1001_11):=⟨(by rw [hw];exact (by repeat (first|(with_reducible first|exact HI0.out|apply IsS78.alloc|apply IsS78.drewN|apply IsS78.drew|apply IsS78.set_0|apply IsS78.set_1|apply IsS78.far (hne:=NB0_109.out)|apply IsS78.far (hne:=NB0_117.out))|exact HI0.out|apply IsS78.set_0|apply IsS78.set_1)))⟩;have n3_:Aside0 (KeepBut w w77 g none):=⟨(by rw [hw];exact (by repeat (first|(with_reducible first|exact HK.out|apply KeepBut.set_|apply keep_drewN|apply keep_drew|apply keep_alloc|refine keep_far ?_ GW109.out _|refine keep_far ?_ GW117.out _)|exact HK.out)))⟩;have n4_:Aside0 (Below w0.heap.size w0 w77):=⟨(by rw [hw];exact (by repeat (first|(with_reducible first|exact HB.out|apply below_alloc|apply pw_below_drewN|apply below_drew1|refine below_set ?_ (IsS78.ge HI0.out)|refine below_set ?_ GE109.out|refine below_set ?_ GE117.out)|exact HB.out)))⟩;clear hw;clear BK109;clear BK117;clear HI0;clear HK;clear HB;have BK109:=n0_;have BK117:=n1_;have HI0:=n2_;have HK:=n3_;have HB:=n4_;clear n0_ n1_ n2_ n3_ n4_)|(refine callA_ (f:=33) (some 41) Try.func33 #[.pointer (some ⟨g,0,none⟩)] ?_;(with_reducible refine (kind_scan_left.calls g x1000_11 x1001_11 t118 t119 t120 w0 _ ?side1 ?side2 A21.out).mono ?_);(case side1 => repeat (first|(with_reducible first|exact HI0.out|apply IsS78.alloc|apply IsS78.drewN|apply IsS78.drew|apply IsS78.set_0|apply IsS78.set_1|apply IsS78.far (hne:=NB0_109.out)|apply IsS78.far (hne:=NB0_117.out))|exact HI0.out|apply IsS78.set_0|apply IsS78.set_1));(case side2 => repeat (first|(with_reducible first|exact HB.out|apply below_alloc|apply pw_below_drewN|apply below_drew1|refine below_set ?_ (IsS78.ge HI0.out)|refine below_set ?_ GE109.out|refine below_set ?_ GE117.out)|exact HB.out));rintro e w78 ⟨rfl,hi,hb,hk⟩;refine ⟨_,rfl,?_⟩;have n0_:=Aside0.mk (KeepBut.blk hk (g':=gb109) (o:=.cells #[.int .i64 0,.string (⟨#[]⟩:ByteArray),.int .i64 0,.int .i64 0,.int .i64 0] 41 (0,0)) bk_ NB109_0.out (by simp));have n1_:=Aside0.mk (KeepBut.blk hk (g':=gb117) (o:=.cells #[.int .i64 0,.string (⟨#[]⟩:ByteArray),.int .i64 0,.int .i64 0,.int .i64 0] 41 (0,0)) bk_ NB117_0.out (by simp));have n2_:=Aside0.mk (KeepBut.trans (by repeat (first|(with_reducible first|exact HK.out|apply KeepBut.set_|apply keep_drewN|apply keep_drew|apply keep_alloc|refine keep_far ?_ GW109.out _|refine keep_far ?_ GW117.out _)|exact HK.out)) hk (.inl rfl));have n3_:=Aside0.mk (hb);have n4_:=Aside0.mk (hi);clear BK109;clear BK117;clear HK;clear HB;clear HI0;have BK109:=n0_;have BK117:=n1_;have HK:=n2_;have HB:=n3_;have HI0:=n4_;clear n0_ n1_ n2_ n3_ n4_;(try clear hb);(try clear hb2);(try clear hk);(try clear hi);have p23:0≤(0:Int):=(by omega);have q23:0 < t118.size:=(by have:(0:Int) < (t118.size:Int):=od_;omega);have hx23:∀ h:0 < t118.size,((t118[0]'h).toNat:Int)=bt t118 0:=bt_at t118 0;clear p23;have qi23:(0 < (t118.size:Int))=True:=eq_true (od_);replace q23:=eq_true q23)|(refine callA_ (f:=33) (some 55) Try.func33 #[.pointer (some ⟨g,0,none⟩)] ?_;(with_reducible refine (kind_scan_left.calls g t119 t120 t121 t122 t123 w0 _ ?side1 ?side2 A69.out).mono ?_);(case side1 => repeat (first|(with_reducible first|exact HI0.out|apply IsS78.alloc|apply IsS78.drewN|apply IsS78.drew|apply IsS78.set_0|apply IsS78.set_1|apply IsS78.far (hne:=NB0_109.out)|apply IsS78.far (hne:=NB0_117.out))|exact HI0.out|apply IsS78.set_0|apply IsS78.set_1));(case side2 => repeat (first|(with_reducible first|exact HB.out|apply below_alloc|apply pw_below_drewN|apply below_drew1|refine below_set ?_ (IsS78.ge HI0.out)|refine below_set ?_ GE109.out|refine below_set ?_ GE117.out)|exact HB.out));rintro e w79 ⟨rfl,hi,hb,hk⟩;refine ⟨_,rfl,?_⟩;have n0_:=Aside0.mk (KeepBut.blk hk (g':=gb109) (o:=.cells #[.int .i64 0,.string (⟨#[]⟩:ByteArray),.int .i64 0,.int .i64 0,.int .i64 0] 41 (0,0)) bk_ NB109_0.out (by simp));have n1_:=Aside0.mk (KeepBut.blk hk (g':=gb117) (o:=.cells #[.int .i64 0,.string (⟨#[]⟩:ByteArray),.int .i64 0,.int .i64 0,.int .i64 0] 41 (0,0)) bk_ NB117_0.out (by simp));have n2_:=Aside0.mk (KeepBut.trans (by repeat (first|(with_reducible first|exact HK.out|apply KeepBut.set_|apply keep_drewN|apply keep_drew|apply keep_alloc|refine keep_far ?_ GW109.out _|refine keep_far ?_ GW117.out _)|exact HK.out)) hk (.inl rfl));have n3_:=Aside0.mk (hb);have n4_:=Aside0.mk (hi);clear BK109;clear BK117;clear HK;clear HB;clear HI0;have BK109:=n0_;have BK117:=n1_;have HK:=n2_;have HB:=n3_;have HI0:=n4_;clear n0_ n1_ n2_ n3_ n4_;(try clear hb);(try clear hb2);(try clear hk);(try clear hi))|(refine callA_ (f:=37) (some 57) Try.func37 #[.string (t121.extract 1 t121.size),.string (⟨#[59]⟩:ByteArray)] ?_;(with_reducible refine (strings_Cut.calls (t121.extract 1 t121.size) (⟨#[59]⟩:ByteArray) t124 t125 t126 _ ?side1 A71.out).mono ?_);(case side1 => exact ⟨GG.below hG.out (by repeat (first|(with_reducible first|exact HB.out|apply below_alloc|apply pw_below_drewN|apply below_drew1|refine below_set ?_ (IsS78.ge HI0.out)|refine below_set ?_ GE109.out|refine below_set ?_ GE117.out)|exact HB.out))⟩);rintro e w' ⟨rfl,⟨nd,rfl⟩⟩;refine ⟨_,rfl,?_⟩))
           (try simp only [Act.put,List.setIfInBounds_toArray,List.set_cons_zero,List.set_cons_succ])
           go_cut [67] (fun v67 wc => ∃ (kq:Nat) (x67_71:Bool),v67=.bool x67_71∧Aside0 (kind_scan_field.j3 kq x4_1 t124 x67_71 t122 t123 0 (⟨#[]⟩:ByteArray) 0 0 0=some (r1,r2,r3,r4,r5,r6,r7,r8))∧Aside0 (kq≤kj11)∧Aside0 (wc.heap[gb109]?=some (.cells #[.int .i64 0,.string (⟨#[]⟩:ByteArray),.int .i64 0,.int .i64 0,.int .i64 0] 41 (0,0)))∧Aside0 (wc.heap[gb117]?=some (.cells #[.int .i64 0,.string (⟨#[]⟩:ByteArray),.int .i64 0,.int .i64 0,.int .i64 0] 41 (0,0)))∧Aside0 (IsS78 w0 wc g t122 t123)∧Aside0 (KeepBut w wc g none)∧Aside0 (Below w0.heap.size w0 wc))
           case first =>
            have H:=HC72.out
            clear HC72
            by_cases c80:t126=true
            ·subst c80
             rw [if_pos rfl] at H
             replace H:=Option.bind_eq_some_iff.mp H
             obtain ⟨t127,A810,H⟩:=H
             try dsimp only at H
             have A81:=Aside0.mk A810
             clear A810
             have H':=Aside0.mk H
             clear H
             go_wp2_with (first|(go_at_call 38;(with_reducible refine (kind_plain.calls kj11 t124 t127 _ A81.out).mono ?_);rintro e w' ⟨rfl,⟨nd,rfl⟩⟩))
             go_meet
             case rel => exact ⟨_,(!t127),r3_,H',⟨by have:=HJ1.out;have:=HJ11.out;first|omega|exact Nat.le_refl _⟩,⟨bk_⟩,⟨bk_⟩,⟨by repeat (first|(with_reducible first|exact HI0.out|apply IsS78.alloc|apply IsS78.drewN|apply IsS78.drew|apply IsS78.set_0|apply IsS78.set_1|apply IsS78.far (hne:=NB0_109.out)|apply IsS78.far (hne:=NB0_117.out))|exact HI0.out|apply IsS78.set_0|apply IsS78.set_1)⟩,⟨by repeat (first|(with_reducible first|exact HK.out|apply KeepBut.set_|apply keep_drewN|apply keep_drew|apply keep_alloc|refine keep_far ?_ GW109.out _|refine keep_far ?_ GW117.out _)|exact HK.out)⟩,⟨by repeat (first|(with_reducible first|exact HB.out|apply below_alloc|apply pw_below_drewN|apply below_drew1|refine below_set ?_ (IsS78.ge HI0.out)|refine below_set ?_ GE109.out|refine below_set ?_ GE117.out)|exact HB.out)⟩⟩
            ·replace c80:=Bool.eq_false_iff.mpr c80
             subst c80
             rw [if_neg (show ¬ (false=true) by decide)] at H
             have H':=Aside0.mk H
             clear H
             go_wp2
             go_meet
             case rel => exact ⟨_,(true),r3_,H',⟨by have:=HJ1.out;have:=HJ11.out;first|omega|exact Nat.le_refl _⟩,⟨bk_⟩,⟨bk_⟩,⟨by repeat (first|(with_reducible first|exact HI0.out|apply IsS78.alloc|apply IsS78.drewN|apply IsS78.drew|apply IsS78.set_0|apply IsS78.set_1|apply IsS78.far (hne:=NB0_109.out)|apply IsS78.far (hne:=NB0_117.out))|exact HI0.out|apply IsS78.set_0|apply IsS78.set_1)⟩,⟨by repeat (first|(with_reducible first|exact HK.out|apply KeepBut.set_|apply keep_drewN|apply keep_drew|apply keep_alloc|refine keep_far ?_ GW109.out _|refine keep_far ?_ GW117.out _)|exact HK.out)⟩,⟨by repeat (first|(with_reducible first|exact HB.out|apply below_alloc|apply pw_below_drewN|apply below_drew1|refine below_set ?_ (IsS78.ge HI0.out)|refine below_set ?_ GE109.out|refine below_set ?_ GE117.out)|exact HB.out)⟩⟩
           case rest =>
            clear HC72
            try clear c17;try clear c22;try clear c22b0;try clear c22b1;try clear p23;try clear q23;try clear hx23;try clear qi23;try clear c24;try clear c24b0;try clear c24b1;try clear c46;try clear c46b0;try clear c46b1;try clear c68;try clear c68b0;try clear c68b1;try clear c70;try clear c70b0;try clear c70b1;try clear hcz76_0;try clear hcz76_1;try clear hcz76_2;try clear hcz76_3;try clear hcz76_4;try clear hfz76_0;try clear hfz76_1;try clear hfz76_2;try clear hfz76_3;try clear hfz76_4
            obtain ⟨kq,x67_71,rfl,HA,HJ71,BK109,BK117,HI0,HK,HB⟩:=hcut
            cases kq with
            | zero => exact absurd HA.out (by simp [kind_scan_field.j3])
            | succ kj71 =>
             have H:=HA.out
             clear HA
             simp only [kind_scan_field.j3] at H
             by_cases c82:x67_71=true
             ·subst c82
              rw [if_pos rfl] at H
              simp only [Option.some.injEq,Prod.mk.injEq] at H
              obtain ⟨rfl,rfl,rfl,rfl,rfl,rfl,rfl,rfl⟩:=H
              have hnb83:=NB109_117.out
              have hnc83:=NB117_109.out
              have hnb84:=NB109_0.out
              have hnc84:=NB0_109.out
              obtain ⟨hcz85_0,hcz85_1,hcz85_2,hcz85_3,hcz85_4,hfz85_0,hfz85_1,hfz85_2,hfz85_3,hfz85_4⟩:=blk5_ BK109.out
              go_wp2_with (first|((with_reducible refine gate_store (t:=41) (p:=2) rfl ?_);refine store_event (t:=41) (p:=2) (v:=?vo_w86) (w1:=(((((wc.setCell ⟨gb109,0,none⟩ (.int .i64 0)).setCell ⟨gb109,1,none⟩ (.string (⟨#[]⟩:ByteArray))).setCell ⟨gb109,2,none⟩ (.int .i64 0)).setCell ⟨gb109,3,none⟩ (.int .i64 0)).setCell ⟨gb109,4,none⟩ (.int .i64 0))) ?hg ?ho ?hn ?hr ?_;(case ho => rfl);(case hg => rfl);(case hn => rfl);(case hr => first|(go_simp;done)|(go_simp;rfl));intro w86 hw;have n0_:Aside0 (w86.heap[gb109]?=some (.cells #[.int .i64 0,.string (⟨#[]⟩:ByteArray),.int .i64 0,.int .i64 0,.int .i64 0] 41 (0,0))):=⟨(by rw [hw];exact (st5_ BK109.out))⟩;have n1_:Aside0 (w86.heap[gb117]?=some (.cells #[.int .i64 0,.string (⟨#[]⟩:ByteArray),.int .i64 0,.int .i64 0,.int .i64 0] 41 (0,0))):=⟨(by rw [hw];exact bk_)⟩;have n2_:Aside0 (IsS78 w0 w86 g t122 t123):=⟨(by rw [hw];exact (by repeat (first|(with_reducible first|exact HI0.out|apply IsS78.alloc|apply IsS78.drewN|apply IsS78.drew|apply IsS78.set_0|apply IsS78.set_1|apply IsS78.far (hne:=NB0_109.out)|apply IsS78.far (hne:=NB0_117.out))|exact HI0.out|apply IsS78.set_0|apply IsS78.set_1)))⟩;have n3_:Aside0 (KeepBut w w86 g none):=⟨(by rw [hw];exact (by repeat (first|(with_reducible first|exact HK.out|apply KeepBut.set_|apply keep_drewN|apply keep_drew|apply keep_alloc|refine keep_far ?_ GW109.out _|refine keep_far ?_ GW117.out _)|exact HK.out)))⟩;have n4_:Aside0 (Below w0.heap.size w0 w86):=⟨(by rw [hw];exact (by repeat (first|(with_reducible first|exact HB.out|apply below_alloc|apply pw_below_drewN|apply below_drew1|refine below_set ?_ (IsS78.ge HI0.out)|refine below_set ?_ GE109.out|refine below_set ?_ GE117.out)|exact HB.out)))⟩;clear hw;clear BK109;clear BK117;clear HI0;clear HK;clear HB;have BK109:=n0_;have BK117:=n1_;have HI0:=n2_;have HK:=n3_;have HB:=n4_;clear n0_ n1_ n2_ n3_ n4_))
              refine bodyPost_ret (results_ct rfl _ _ gb109 41 #[.int .i64 0,.string (⟨#[]⟩:ByteArray),.int .i64 0,.int .i64 0,.int .i64 0] (0,0) _ rfl bk_ Try.underlying41 rfl (by kernel_rfl)) rfl ?_
              exact ⟨ew_,by repeat (first|(with_reducible first|exact HI0.out|apply IsS78.alloc|apply IsS78.drewN|apply IsS78.drew|apply IsS78.set_0|apply IsS78.set_1|apply IsS78.far (hne:=NB0_109.out)|apply IsS78.far (hne:=NB0_117.out))|exact HI0.out|apply IsS78.set_0|apply IsS78.set_1),by repeat (first|(with_reducible first|exact HB.out|apply below_alloc|apply pw_below_drewN|apply below_drew1|refine below_set ?_ (IsS78.ge HI0.out)|refine below_set ?_ GE109.out|refine below_set ?_ GE117.out)|exact HB.out),by repeat (first|(with_reducible first|exact HK.out|apply KeepBut.set_|apply keep_drewN|apply keep_drew|apply keep_alloc|refine keep_far ?_ GW109.out _|refine keep_far ?_ GW117.out _)|exact HK.out)⟩
             ·replace c82:=Bool.eq_false_iff.mpr c82
              subst c82
              rw [if_neg (show ¬ (false=true) by decide)] at H
              by_cases c87:x4_1 > 0
              ·rw [if_pos c87] at H
               have c87b0:decide (0 < x4_1)=true:=decide_eq_true c87
               clear c87
               simp only [Option.some.injEq,Prod.mk.injEq] at H
               obtain ⟨rfl,rfl,rfl,rfl,rfl,rfl,rfl,rfl⟩:=H
               have hnb88:=NB117_109.out
               have hnc88:=NB109_117.out
               have hnb89:=NB117_0.out
               have hnc89:=NB0_117.out
               obtain ⟨hcz90_0,hcz90_1,hcz90_2,hcz90_3,hcz90_4,hfz90_0,hfz90_1,hfz90_2,hfz90_3,hfz90_4⟩:=blk5_ BK117.out
               obtain ⟨HGz91,hgz91⟩:=HI0.out
               have hcz91_0:=cellS78_0 HGz91
               have hcz91_1:=cellS78_1 HGz91
               have hfz91_0:=blk_frozen HGz91 0
               have hfz91_1:=blk_frozen HGz91 1
               clear HGz91 hgz91
               have hnb92:=NB109_0.out
               have hnc92:=NB0_109.out
               obtain ⟨hcz93_0,hcz93_1,hcz93_2,hcz93_3,hcz93_4,hfz93_0,hfz93_1,hfz93_2,hfz93_3,hfz93_4⟩:=blk5_ BK109.out
               go_wp2
               refine bodyPost_ret (results_ct rfl _ _ gb109 41 #[.int .i64 5,.string t124,.int .i64 x4_1,.int .i64 4,.int .i64 0] (0,0) _ rfl (by (with_reducible repeat (first|refine blk_drewN ?_ _|refine blk_drew ?_|refine blk_alloc ?_ _));refine blk_put (cs:=#[.int .i64 5,.string t124,.int .i64 x4_1,.int .i64 4,.int .i64 0]) ?_ 4 _ rfl;(with_reducible repeat (first|refine blk_drewN ?_ _|refine blk_drew ?_|refine blk_alloc ?_ _));refine blk_put (cs:=#[.int .i64 5,.string t124,.int .i64 x4_1,.int .i64 0,.int .i64 0]) ?_ 3 _ rfl;(with_reducible repeat (first|refine blk_drewN ?_ _|refine blk_drew ?_|refine blk_alloc ?_ _));refine blk_put (cs:=#[.int .i64 5,.string t124,.int .i64 0,.int .i64 0,.int .i64 0]) ?_ 2 _ rfl;(with_reducible repeat (first|refine blk_drewN ?_ _|refine blk_drew ?_|refine blk_alloc ?_ _));refine blk_put (cs:=#[.int .i64 5,.string (⟨#[]⟩:ByteArray),.int .i64 0,.int .i64 0,.int .i64 0]) ?_ 1 _ rfl;(with_reducible repeat (first|refine blk_drewN ?_ _|refine blk_drew ?_|refine blk_alloc ?_ _));refine blk_put (cs:=#[.int .i64 0,.string (⟨#[]⟩:ByteArray),.int .i64 0,.int .i64 0,.int .i64 0]) ?_ 0 _ rfl;(with_reducible repeat (first|refine blk_drewN ?_ _|refine blk_drew ?_|refine blk_alloc ?_ _));refine blk_far ?_ NB109_117.out _;(with_reducible repeat (first|refine blk_drewN ?_ _|refine blk_drew ?_|refine blk_alloc ?_ _));refine blk_far ?_ NB109_117.out _;(with_reducible repeat (first|refine blk_drewN ?_ _|refine blk_drew ?_|refine blk_alloc ?_ _));refine blk_far ?_ NB109_117.out _;(with_reducible repeat (first|refine blk_drewN ?_ _|refine blk_drew ?_|refine blk_alloc ?_ _));refine blk_far ?_ NB109_0.out _;(with_reducible repeat (first|refine blk_drewN ?_ _|refine blk_drew ?_|refine blk_alloc ?_ _));refine blk_far ?_ NB109_0.out _;(with_reducible repeat (first|refine blk_drewN ?_ _|refine blk_drew ?_|refine blk_alloc ?_ _));refine blk_far ?_ NB109_117.out _;(with_reducible repeat (first|refine blk_drewN ?_ _|refine blk_drew ?_|refine blk_alloc ?_ _));refine blk_far ?_ NB109_117.out _;(with_reducible repeat (first|refine blk_drewN ?_ _|refine blk_drew ?_|refine blk_alloc ?_ _));exact BK109.out) Try.underlying41 rfl (by kernel_rfl)) rfl ?_
               exact ⟨ew_,by repeat (first|(with_reducible first|exact HI0.out|apply IsS78.alloc|apply IsS78.drewN|apply IsS78.drew|apply IsS78.set_0|apply IsS78.set_1|apply IsS78.far (hne:=NB0_109.out)|apply IsS78.far (hne:=NB0_117.out))|exact HI0.out|apply IsS78.set_0|apply IsS78.set_1),by repeat (first|(with_reducible first|exact HB.out|apply below_alloc|apply pw_below_drewN|apply below_drew1|refine below_set ?_ (IsS78.ge HI0.out)|refine below_set ?_ GE109.out|refine below_set ?_ GE117.out)|exact HB.out),by repeat (first|(with_reducible first|exact HK.out|apply KeepBut.set_|apply keep_drewN|apply keep_drew|apply keep_alloc|refine keep_far ?_ GW109.out _|refine keep_far ?_ GW117.out _)|exact HK.out)⟩
              ·rw [if_neg c87] at H
               have c87b0:decide (0 < x4_1)=false:=decide_eq_false c87
               clear c87
               simp only [Option.some.injEq,Prod.mk.injEq] at H
               obtain ⟨rfl,rfl,rfl,rfl,rfl,rfl,rfl,rfl⟩:=H
               have hnb94:=NB117_109.out
               have hnc94:=NB109_117.out
               have hnb95:=NB117_0.out
               have hnc95:=NB0_117.out
               obtain ⟨hcz96_0,hcz96_1,hcz96_2,hcz96_3,hcz96_4,hfz96_0,hfz96_1,hfz96_2,hfz96_3,hfz96_4⟩:=blk5_ BK117.out
               obtain ⟨HGz97,hgz97⟩:=HI0.out
               have hcz97_0:=cellS78_0 HGz97
               have hcz97_1:=cellS78_1 HGz97
               have hfz97_0:=blk_frozen HGz97 0
               have hfz97_1:=blk_frozen HGz97 1
               clear HGz97 hgz97
               have hnb98:=NB109_0.out
               have hnc98:=NB0_109.out
               obtain ⟨hcz99_0,hcz99_1,hcz99_2,hcz99_3,hcz99_4,hfz99_0,hfz99_1,hfz99_2,hfz99_3,hfz99_4⟩:=blk5_ BK109.out
               go_wp2
               refine bodyPost_ret (results_ct rfl _ _ gb109 41 #[.int .i64 4,.string t124,.int .i64 0,.int .i64 0,.int .i64 0] (0,0) _ rfl (by (with_reducible repeat (first|refine blk_drewN ?_ _|refine blk_drew ?_|refine blk_alloc ?_ _));refine blk_put (cs:=#[.int .i64 4,.string t124,.int .i64 0,.int .i64 0,.int .i64 0]) ?_ 4 _ rfl;(with_reducible repeat (first|refine blk_drewN ?_ _|refine blk_drew ?_|refine blk_alloc ?_ _));refine blk_put (cs:=#[.int .i64 4,.string t124,.int .i64 0,.int .i64 0,.int .i64 0]) ?_ 3 _ rfl;(with_reducible repeat (first|refine blk_drewN ?_ _|refine blk_drew ?_|refine blk_alloc ?_ _));refine blk_put (cs:=#[.int .i64 4,.string t124,.int .i64 0,.int .i64 0,.int .i64 0]) ?_ 2 _ rfl;(with_reducible repeat (first|refine blk_drewN ?_ _|refine blk_drew ?_|refine blk_alloc ?_ _));refine blk_put (cs:=#[.int .i64 4,.string (⟨#[]⟩:ByteArray),.int .i64 0,.int .i64 0,.int .i64 0]) ?_ 1 _ rfl;(with_reducible repeat (first|refine blk_drewN ?_ _|refine blk_drew ?_|refine blk_alloc ?_ _));refine blk_put (cs:=#[.int .i64 0,.string (⟨#[]⟩:ByteArray),.int .i64 0,.int .i64 0,.int .i64 0]) ?_ 0 _ rfl;(with_reducible repeat (first|refine blk_drewN ?_ _|refine blk_drew ?_|refine blk_alloc ?_ _));refine blk_far ?_ NB109_0.out _;(with_reducible repeat (first|refine blk_drewN ?_ _|refine blk_drew ?_|refine blk_alloc ?_ _));refine blk_far ?_ NB109_0.out _;(with_reducible repeat (first|refine blk_drewN ?_ _|refine blk_drew ?_|refine blk_alloc ?_ _));refine blk_far ?_ NB109_117.out _;(with_reducible repeat (first|refine blk_drewN ?_ _|refine blk_drew ?_|refine blk_alloc ?_ _));refine blk_far ?_ NB109_117.out _;(with_reducible repeat (first|refine blk_drewN ?_ _|refine blk_drew ?_|refine blk_alloc ?_ _));exact BK109.out) Try.underlying41 rfl (by kernel_rfl)) rfl ?_
               exact ⟨ew_,by repeat (first|(with_reducible first|exact HI0.out|apply IsS78.alloc|apply IsS78.drewN|apply IsS78.drew|apply IsS78.set_0|apply IsS78.set_1|apply IsS78.far (hne:=NB0_109.out)|apply IsS78.far (hne:=NB0_117.out))|exact HI0.out|apply IsS78.set_0|apply IsS78.set_1),by repeat (first|(with_reducible first|exact HB.out|apply below_alloc|apply pw_below_drewN|apply below_drew1|refine below_set ?_ (IsS78.ge HI0.out)|refine below_set ?_ GE109.out|refine below_set ?_ GE117.out)|exact HB.out),by repeat (first|(with_reducible first|exact HK.out|apply KeepBut.set_|apply keep_drewN|apply keep_drew|apply keep_alloc|refine keep_far ?_ GW109.out _|refine keep_far ?_ GW117.out _)|exact HK.out)⟩
          ·rw [if_neg c70] at H
           exact absurd H (by simp)
         ·rw [if_neg c68] at H
          have c68b0:((bt t118 0)==76)=false:=beq_eq_false_iff_ne.mpr c68
          have c68b1:((bt t118 0) != 76)=true:=bne_iff_ne.mpr c68
          simp only [Option.some.injEq,Prod.mk.injEq] at H
          obtain ⟨rfl,rfl,rfl,rfl,rfl,rfl,rfl,rfl⟩:=H
          go_wp2_with (first|((with_reducible refine gate_dst (N:=5) rfl ?_);refine box_event ?hg (N:=5) ?hd (cs:=#[.int .i64 0,.string (⟨#[]⟩:ByteArray),.int .i64 0,.int .i64 0,.int .i64 0]) (t:=41) ?hr ?_;(case hd => rfl);(case hg => rfl);(case hr => first|(go_simp;done)|(go_simp;rfl));intro gb117 hg w100 hbox hb;have n0_:=Aside0.mk (blk_below (g:=gb109) (o:=.cells #[.int .i64 0,.string (⟨#[]⟩:ByteArray),.int .i64 0,.int .i64 0,.int .i64 0] 41 (0,0)) bk_ hb);have n1_:=Aside0.mk (IsS78.below (by repeat (first|(with_reducible first|exact HI0.out|apply IsS78.alloc|apply IsS78.drewN|apply IsS78.drew|apply IsS78.set_0|apply IsS78.set_1|apply IsS78.far (hne:=NB0_109.out))|exact HI0.out|apply IsS78.set_0|apply IsS78.set_1)) hb);have n2_:=Aside0.mk (KeepBut.trans (by repeat (first|(with_reducible first|exact HK.out|apply KeepBut.set_|apply keep_drewN|apply keep_drew|apply keep_alloc|refine keep_far ?_ GW109.out _)|exact HK.out)) (KeepBut.of_below hb g none) (.inl rfl));have n3_:=Aside0.mk (below_step (by repeat (first|(with_reducible first|exact HB.out|apply below_alloc|apply pw_below_drewN|apply below_drew1|refine below_set ?_ (IsS78.ge HI0.out)|refine below_set ?_ GE109.out)|exact HB.out)) hb);have n4_:=Aside0.mk (hbox);have n5_:=Aside0.mk ((by rw [hg];exact (keep_size (w:=w) (g:=g) (row:=none) (by repeat (first|(with_reducible first|exact HK.out|apply KeepBut.set_|apply keep_drewN|apply keep_drew|apply keep_alloc|refine keep_far ?_ GW109.out _)|exact HK.out))):w.heap.size≤gb117));have n6_:=Aside0.mk ((Nat.le_trans HW0.out (by rw [hg];exact (keep_size (w:=w) (g:=g) (row:=none) (by repeat (first|(with_reducible first|exact HK.out|apply KeepBut.set_|apply keep_drewN|apply keep_drew|apply keep_alloc|refine keep_far ?_ GW109.out _)|exact HK.out))):w.heap.size≤gb117):w0.heap.size≤gb117));have n7_:=Aside0.mk ((by rw [hg];exact Nat.ne_of_lt (blk_lt (g:=gb109) (o:=.cells #[.int .i64 0,.string (⟨#[]⟩:ByteArray),.int .i64 0,.int .i64 0,.int .i64 0] 41 (0,0)) bk_):gb109 ≠ gb117));have n8_:=Aside0.mk ((by rw [hg];exact Nat.ne_of_gt (blk_lt (g:=gb109) (o:=.cells #[.int .i64 0,.string (⟨#[]⟩:ByteArray),.int .i64 0,.int .i64 0,.int .i64 0] 41 (0,0)) bk_):gb117 ≠ gb109));have n9_:=Aside0.mk ((by rw [hg];exact Nat.ne_of_lt (IsS78.lt (show IsS78 w0 _ g x1000_11 x1001_11 from by repeat (first|(with_reducible first|exact HI0.out|apply IsS78.alloc|apply IsS78.drewN|apply IsS78.drew|apply IsS78.set_0|apply IsS78.set_1|apply IsS78.far (hne:=NB0_109.out))|exact HI0.out|apply IsS78.set_0|apply IsS78.set_1))):g ≠ gb117));have n10_:=Aside0.mk ((by rw [hg];exact Nat.ne_of_gt (IsS78.lt (show IsS78 w0 _ g x1000_11 x1001_11 from by repeat (first|(with_reducible first|exact HI0.out|apply IsS78.alloc|apply IsS78.drewN|apply IsS78.drew|apply IsS78.set_0|apply IsS78.set_1|apply IsS78.far (hne:=NB0_109.out))|exact HI0.out|apply IsS78.set_0|apply IsS78.set_1))):gb117 ≠ g));clear BK109;clear HI0;clear HK;clear HB;have BK109:=n0_;have HI0:=n1_;have HK:=n2_;have HB:=n3_;have BK117:=n4_;have GW117:=n5_;have GE117:=n6_;have NB109_117:=n7_;have NB117_109:=n8_;have NB0_117:=n9_;have NB117_0:=n10_;clear n0_ n1_ n2_ n3_ n4_ n5_ n6_ n7_ n8_ n9_ n10_;clear hb hbox hg;have hnb101:=NB117_109.out;have hnc101:=NB109_117.out;have hnb102:=NB117_0.out;have hnc102:=NB0_117.out;obtain ⟨hcz103_0,hcz103_1,hcz103_2,hcz103_3,hcz103_4,hfz103_0,hfz103_1,hfz103_2,hfz103_3,hfz103_4⟩:=blk5_ BK117.out)|((with_reducible refine gate_store (t:=41) (p:=5) rfl ?_);refine store_event (t:=41) (p:=5) (v:=?vo_w104) (w1:=(((((w100.setCell ⟨gb117,0,none⟩ (.int .i64 0)).setCell ⟨gb117,1,none⟩ (.string (⟨#[]⟩:ByteArray))).setCell ⟨gb117,2,none⟩ (.int .i64 0)).setCell ⟨gb117,3,none⟩ (.int .i64 0)).setCell ⟨gb117,4,none⟩ (.int .i64 0))) ?hg ?ho ?hn ?hr ?_;(case ho => rfl);(case hg => rfl);(case hn => rfl);(case hr => first|(go_simp;done)|(go_simp;rfl));intro w104 hw;have n0_:Aside0 (w104.heap[gb109]?=some (.cells #[.int .i64 0,.string (⟨#[]⟩:ByteArray),.int .i64 0,.int .i64 0,.int .i64 0] 41 (0,0))):=⟨(by rw [hw];exact bk_)⟩;have n1_:Aside0 (w104.heap[gb117]?=some (.cells #[.int .i64 0,.string (⟨#[]⟩:ByteArray),.int .i64 0,.int .i64 0,.int .i64 0] 41 (0,0))):=⟨(by rw [hw];exact (st5_ BK117.out))⟩;have n2_:Aside0 (IsS78 w0 w104 g x1000_11 x1001_11):=⟨(by rw [hw];exact (by repeat (first|(with_reducible first|exact HI0.out|apply IsS78.alloc|apply IsS78.drewN|apply IsS78.drew|apply IsS78.set_0|apply IsS78.set_1|apply IsS78.far (hne:=NB0_109.out)|apply IsS78.far (hne:=NB0_117.out))|exact HI0.out|apply IsS78.set_0|apply IsS78.set_1)))⟩;have n3_:Aside0 (KeepBut w w104 g none):=⟨(by rw [hw];exact (by repeat (first|(with_reducible first|exact HK.out|apply KeepBut.set_|apply keep_drewN|apply keep_drew|apply keep_alloc|refine keep_far ?_ GW109.out _|refine keep_far ?_ GW117.out _)|exact HK.out)))⟩;have n4_:Aside0 (Below w0.heap.size w0 w104):=⟨(by rw [hw];exact (by repeat (first|(with_reducible first|exact HB.out|apply below_alloc|apply pw_below_drewN|apply below_drew1|refine below_set ?_ (IsS78.ge HI0.out)|refine below_set ?_ GE109.out|refine below_set ?_ GE117.out)|exact HB.out)))⟩;clear hw;clear BK109;clear BK117;clear HI0;clear HK;clear HB;have BK109:=n0_;have BK117:=n1_;have HI0:=n2_;have HK:=n3_;have HB:=n4_;clear n0_ n1_ n2_ n3_ n4_)|(refine callA_ (f:=33) (some 41) Try.func33 #[.pointer (some ⟨g,0,none⟩)] ?_;(with_reducible refine (kind_scan_left.calls g x1000_11 x1001_11 t118 t119 t120 w0 _ ?side1 ?side2 A21.out).mono ?_);(case side1 => repeat (first|(with_reducible first|exact HI0.out|apply IsS78.alloc|apply IsS78.drewN|apply IsS78.drew|apply IsS78.set_0|apply IsS78.set_1|apply IsS78.far (hne:=NB0_109.out)|apply IsS78.far (hne:=NB0_117.out))|exact HI0.out|apply IsS78.set_0|apply IsS78.set_1));(case side2 => repeat (first|(with_reducible first|exact HB.out|apply below_alloc|apply pw_below_drewN|apply below_drew1|refine below_set ?_ (IsS78.ge HI0.out)|refine below_set ?_ GE109.out|refine below_set ?_ GE117.out)|exact HB.out));rintro e w105 ⟨rfl,hi,hb,hk⟩;refine ⟨_,rfl,?_⟩;have n0_:=Aside0.mk (KeepBut.blk hk (g':=gb109) (o:=.cells #[.int .i64 0,.string (⟨#[]⟩:ByteArray),.int .i64 0,.int .i64 0,.int .i64 0] 41 (0,0)) bk_ NB109_0.out (by simp));have n1_:=Aside0.mk (KeepBut.blk hk (g':=gb117) (o:=.cells #[.int .i64 0,.string (⟨#[]⟩:ByteArray),.int .i64 0,.int .i64 0,.int .i64 0] 41 (0,0)) bk_ NB117_0.out (by simp));have n2_:=Aside0.mk (KeepBut.trans (by repeat (first|(with_reducible first|exact HK.out|apply KeepBut.set_|apply keep_drewN|apply keep_drew|apply keep_alloc|refine keep_far ?_ GW109.out _|refine keep_far ?_ GW117.out _)|exact HK.out)) hk (.inl rfl));have n3_:=Aside0.mk (hb);have n4_:=Aside0.mk (hi);clear BK109;clear BK117;clear HK;clear HB;clear HI0;have BK109:=n0_;have BK117:=n1_;have HK:=n2_;have HB:=n3_;have HI0:=n4_;clear n0_ n1_ n2_ n3_ n4_;(try clear hb);(try clear hb2);(try clear hk);(try clear hi);have p23:0≤(0:Int):=(by omega);have q23:0 < t118.size:=(by have:(0:Int) < (t118.size:Int):=od_;omega);have hx23:∀ h:0 < t118.size,((t118[0]'h).toNat:Int)=bt t118 0:=bt_at t118 0;clear p23;have qi23:(0 < (t118.size:Int))=True:=eq_true (od_);replace q23:=eq_true q23;have hnb106:=NB109_0.out;have hnc106:=NB0_109.out;obtain ⟨hcz107_0,hcz107_1,hcz107_2,hcz107_3,hcz107_4,hfz107_0,hfz107_1,hfz107_2,hfz107_3,hfz107_4⟩:=blk5_ BK109.out)|((with_reducible refine gate_store (t:=41) (p:=2) rfl ?_);refine store_event (t:=41) (p:=2) (v:=?vo_w108) (w1:=(((((w105.setCell ⟨gb109,0,none⟩ (.int .i64 0)).setCell ⟨gb109,1,none⟩ (.string (⟨#[]⟩:ByteArray))).setCell ⟨gb109,2,none⟩ (.int .i64 0)).setCell ⟨gb109,3,none⟩ (.int .i64 0)).setCell ⟨gb109,4,none⟩ (.int .i64 0))) ?hg ?ho ?hn ?hr ?_;(case ho => rfl);(case hg => rfl);(case hn => rfl);(case hr => first|(go_simp;done)|(go_simp;rfl));intro w108 hw;have n0_:Aside0 (w108.heap[gb109]?=some (.cells #[.int .i64 0,.string (⟨#[]⟩:ByteArray),.int .i64 0,.int .i64 0,.int .i64 0] 41 (0,0))):=⟨(by rw [hw];exact (st5_ BK109.out))⟩;have n1_:Aside0 (w108.heap[gb117]?=some (.cells #[.int .i64 0,.string (⟨#[]⟩:ByteArray),.int .i64 0,.int .i64 0,.int .i64 0] 41 (0,0))):=⟨(by rw [hw];exact bk_)⟩;have n2_:Aside0 (IsS78 w0 w108 g t119 t120):=⟨(by rw [hw];exact (by repeat (first|(with_reducible first|exact HI0.out|apply IsS78.alloc|apply IsS78.drewN|apply IsS78.drew|apply IsS78.set_0|apply IsS78.set_1|apply IsS78.far (hne:=NB0_109.out)|apply IsS78.far (hne:=NB0_117.out))|exact HI0.out|apply IsS78.set_0|apply IsS78.set_1)))⟩;have n3_:Aside0 (KeepBut w w108 g none):=⟨(by rw [hw];exact (by repeat (first|(with_reducible first|exact HK.out|apply KeepBut.set_|apply keep_drewN|apply keep_drew|apply keep_alloc|refine keep_far ?_ GW109.out _|refine keep_far ?_ GW117.out _)|exact HK.out)))⟩;have n4_:Aside0 (Below w0.heap.size w0 w108):=⟨(by rw [hw];exact (by repeat (first|(with_reducible first|exact HB.out|apply below_alloc|apply pw_below_drewN|apply below_drew1|refine below_set ?_ (IsS78.ge HI0.out)|refine below_set ?_ GE109.out|refine below_set ?_ GE117.out)|exact HB.out)))⟩;clear hw;clear BK109;clear BK117;clear HI0;clear HK;clear HB;have BK109:=n0_;have BK117:=n1_;have HI0:=n2_;have HK:=n3_;have HB:=n4_;clear n0_ n1_ n2_ n3_ n4_))
          refine bodyPost_ret (results_ct rfl _ _ gb109 41 #[.int .i64 0,.string (⟨#[]⟩:ByteArray),.int .i64 0,.int .i64 0,.int .i64 0] (0,0) _ rfl bk_ Try.underlying41 rfl (by kernel_rfl)) rfl ?_
          exact ⟨ew_,by repeat (first|(with_reducible first|exact HI0.out|apply IsS78.alloc|apply IsS78.drewN|apply IsS78.drew|apply IsS78.set_0|apply IsS78.set_1|apply IsS78.far (hne:=NB0_109.out)|apply IsS78.far (hne:=NB0_117.out))|exact HI0.out|apply IsS78.set_0|apply IsS78.set_1),by repeat (first|(with_reducible first|exact HB.out|apply below_alloc|apply pw_below_drewN|apply below_drew1|refine below_set ?_ (IsS78.ge HI0.out)|refine below_set ?_ GE109.out|refine below_set ?_ GE117.out)|exact HB.out),by repeat (first|(with_reducible first|exact HK.out|apply KeepBut.set_|apply keep_drewN|apply keep_drew|apply keep_alloc|refine keep_far ?_ GW109.out _|refine keep_far ?_ GW117.out _)|exact HK.out)⟩
      ·rw [if_neg c22] at H
       exact absurd H (by simp)
def kind_Field.f (k:Nat) (a0:ByteArray):Option (Int × ByteArray × Int × Int × Int × Int):=(kind_scan_field.f k a0 0).bind fun bt130 => (if bt130.2.2.2.2.2.1=true then ((kind_scan_left.f bt130.2.2.2.2.2.2.1 bt130.2.2.2.2.2.2.2).bind fun bt139 => (if bt139.1.toList=([]:List UInt8) then (some (bt130.1,bt130.2.1,bt130.2.2.1,bt130.2.2.2.1,bt130.2.2.2.2.1,0)) else (some (0,(⟨#[]⟩:ByteArray),0,0,0,80)))) else (some (0,(⟨#[]⟩:ByteArray),0,0,0,80)))
set_option maxHeartbeats 80000000 in
set_option maxRecDepth 100000 in
theorem kind_Field.calls (k:Nat) (a0:ByteArray) (r1:Int) (r2:ByteArray) (r3:Int) (r4:Int) (r5:Int) (r6:Int) (w:World) (hG:Aside0 (GG w)) (h:kind_Field.f k a0=some (r1,r2,r3,r4,r5,r6)) :
  Calls Try.prog 28 #[.string a0] w fun e w' => e=.returned (.tuple #[.agg #[.int .i64 r1,.string r2,.int .i64 r3,.int .i64 r4,.int .i64 r5],.int .i64 r6])∧Below w.heap.size w w':=by
 have hu41:=Try.underlying41
 have hu78:=Try.underlying78
 have HB:=Aside0.mk (Below.refl w.heap.size w)
 have H:((kind_scan_field.f k a0 0).bind fun bt130 => (if bt130.2.2.2.2.2.1=true then ((kind_scan_left.f bt130.2.2.2.2.2.2.1 bt130.2.2.2.2.2.2.2).bind fun bt139 => (if bt139.1.toList=([]:List UInt8) then (some (bt130.1,bt130.2.1,bt130.2.2.1,bt130.2.2.2.1,bt130.2.2.2.2.1,0)) else (some (0,(⟨#[]⟩:ByteArray),0,0,0,80)))) else (some (0,(⟨#[]⟩:ByteArray),0,0,0,80))))=some (r1,r2,r3,r4,r5,r6):=h
 clear h
 replace H:=Option.bind_eq_some_iff.mp H
 obtain ⟨⟨t130,t131,t132,t133,t134,t135,t136,t137⟩,A20,H⟩:=H
 try dsimp only at H
 have A2:=Aside0.mk A20
 clear A20
 by_cases c3:t135=true
 ·subst c3
  rw [if_pos rfl] at H
  replace H:=Option.bind_eq_some_iff.mp H
  obtain ⟨⟨t139,t140,t141⟩,A40,H⟩:=H
  try dsimp only at H
  have A4:=Aside0.mk A40
  clear A40
  by_cases c5:t139.toList=([]:List UInt8)
  ·rw [if_pos c5] at H
   have c5b0:(t139.toList==([]:List UInt8))=true:=beq_iff_eq.mpr c5
   have c5b1:(t139.toList != ([]:List UInt8))=false:=bne_eq_false_iff_eq.mpr c5
   clear c5
   simp only [Option.some.injEq,Prod.mk.injEq] at H
   obtain ⟨rfl,rfl,rfl,rfl,rfl,rfl⟩:=H
   go_enter Try.func28,Try.ntmps28
   go_wp2_with (first|((with_reducible refine gate_dst (N:=2) rfl ?_);refine box_event ?hg (N:=2) ?hd (cs:=#[.int .i64 0,.string (⟨#[]⟩:ByteArray),.int .i64 0,.int .i64 0,.int .i64 0]) (t:=41) ?hr ?_;(case hd => rfl);(case hg => rfl);(case hr => first|(go_simp;done)|(go_simp;rfl));intro gb128 hg w6 hbox hb;have n0_:=Aside0.mk (below_step bl_ hb);have n1_:=Aside0.mk (hbox);have n2_:=Aside0.mk ((by rw [hg];exact (below_size bl_):w.heap.size≤gb128));have n3_:=Aside0.mk ((by rw [hg];exact (below_size bl_):w.heap.size≤gb128));clear HB;have HB:=n0_;have BK128:=n1_;have GW128:=n2_;have GE128:=n3_;clear n0_ n1_ n2_ n3_;clear hb hbox hg)|((with_reducible refine gate_dst (N:=9) rfl ?_);refine box_event ?hg (N:=9) ?hd (cs:=#[.string a0,.int .i64 0]) (t:=78) ?hr ?_;(case hd => rfl);(case hg => rfl);(case hr => first|(go_simp;done)|(go_simp;rfl));intro gb129 hg w7 hbox hb;have n0_:=Aside0.mk (blk_below (g:=gb128) (o:=.cells #[.int .i64 0,.string (⟨#[]⟩:ByteArray),.int .i64 0,.int .i64 0,.int .i64 0] 41 (0,0)) bk_ hb);have n1_:=Aside0.mk (below_step bl_ hb);have n2_:=Aside0.mk (hbox);have n3_:=Aside0.mk ((by rw [hg];exact (below_size bl_):w.heap.size≤gb129));have n4_:=Aside0.mk ((by rw [hg];exact (below_size bl_):w.heap.size≤gb129));have n5_:=Aside0.mk ((by rw [hg];exact Nat.ne_of_lt (blk_lt (g:=gb128) (o:=.cells #[.int .i64 0,.string (⟨#[]⟩:ByteArray),.int .i64 0,.int .i64 0,.int .i64 0] 41 (0,0)) bk_):gb128 ≠ gb129));have n6_:=Aside0.mk ((by rw [hg];exact Nat.ne_of_gt (blk_lt (g:=gb128) (o:=.cells #[.int .i64 0,.string (⟨#[]⟩:ByteArray),.int .i64 0,.int .i64 0,.int .i64 0] 41 (0,0)) bk_):gb129 ≠ gb128));clear BK128;clear HB;have BK128:=n0_;have HB:=n1_;have BK129:=n2_;have GW129:=n3_;have GE129:=n4_;have NB128_129:=n5_;have NB129_128:=n6_;clear n0_ n1_ n2_ n3_ n4_ n5_ n6_;clear hb hbox hg;have HI129:=Aside0.mk (show IsS78 w w7 gb129 a0 0 from ⟨BK129.out,GE129.out⟩);clear BK129)|(refine callA_ (f:=32) (some 12) Try.func32 #[.pointer (some ⟨gb129,0,none⟩)] ?_;(with_reducible refine (kind_scan_field.calls k gb129 a0 0 t130 t131 t132 t133 t134 true t136 t137 w _ hG ?side1 ?side2 A2.out).mono ?_);(case side1 => repeat (first|(with_reducible first|exact HI129.out|apply IsS78.alloc|apply IsS78.drewN|apply IsS78.drew|apply IsS78.set_0|apply IsS78.set_1|apply IsS78.far (hne:=NB129_128.out))|exact HI129.out|apply IsS78.set_0|apply IsS78.set_1));(case side2 => repeat (first|(with_reducible first|exact HB.out|apply below_alloc|apply pw_below_drewN|apply below_drew1|refine below_set ?_ (IsS78.ge HI129.out)|refine below_set ?_ GE128.out)|exact HB.out));rintro e w8 ⟨rfl,hi,hb,hk⟩;refine ⟨_,rfl,?_⟩;have n0_:=Aside0.mk (KeepBut.blk hk (g':=gb128) (o:=.cells #[.int .i64 0,.string (⟨#[]⟩:ByteArray),.int .i64 0,.int .i64 0,.int .i64 0] 41 (0,0)) bk_ NB128_129.out (by simp));have n1_:=Aside0.mk (hb);have n2_:=Aside0.mk (hi);clear BK128;clear HB;clear HI129;have BK128:=n0_;have HB:=n1_;have HI129:=n2_;clear n0_ n1_ n2_;(try clear hb);(try clear hb2);(try clear hk);(try clear hi))|((with_reducible refine gate_dst (N:=5) rfl ?_);refine box_event ?hg (N:=5) ?hd (cs:=#[.int .i64 0,.string (⟨#[]⟩:ByteArray),.int .i64 0,.int .i64 0,.int .i64 0]) (t:=41) ?hr ?_;(case hd => rfl);(case hg => rfl);(case hr => first|(go_simp;done)|(go_simp;rfl));intro gb138 hg w9 hbox hb;have n0_:=Aside0.mk (blk_below (g:=gb128) (o:=.cells #[.int .i64 0,.string (⟨#[]⟩:ByteArray),.int .i64 0,.int .i64 0,.int .i64 0] 41 (0,0)) bk_ hb);have n1_:=Aside0.mk (IsS78.below (by repeat (first|(with_reducible first|exact HI129.out|apply IsS78.alloc|apply IsS78.drewN|apply IsS78.drew|apply IsS78.set_0|apply IsS78.set_1|apply IsS78.far (hne:=NB129_128.out))|exact HI129.out|apply IsS78.set_0|apply IsS78.set_1)) hb);have n2_:=Aside0.mk (below_step (by repeat (first|(with_reducible first|exact HB.out|apply below_alloc|apply pw_below_drewN|apply below_drew1|refine below_set ?_ (IsS78.ge HI129.out)|refine below_set ?_ GE128.out)|exact HB.out)) hb);have n3_:=Aside0.mk (hbox);have n4_:=Aside0.mk ((by rw [hg];exact (below_size (by repeat (first|(with_reducible first|exact HB.out|apply below_alloc|apply pw_below_drewN|apply below_drew1|refine below_set ?_ (IsS78.ge HI129.out)|refine below_set ?_ GE128.out)|exact HB.out))):w.heap.size≤gb138));have n5_:=Aside0.mk ((by rw [hg];exact (below_size (by repeat (first|(with_reducible first|exact HB.out|apply below_alloc|apply pw_below_drewN|apply below_drew1|refine below_set ?_ (IsS78.ge HI129.out)|refine below_set ?_ GE128.out)|exact HB.out))):w.heap.size≤gb138));have n6_:=Aside0.mk ((by rw [hg];exact Nat.ne_of_lt (blk_lt (g:=gb128) (o:=.cells #[.int .i64 0,.string (⟨#[]⟩:ByteArray),.int .i64 0,.int .i64 0,.int .i64 0] 41 (0,0)) bk_):gb128 ≠ gb138));have n7_:=Aside0.mk ((by rw [hg];exact Nat.ne_of_gt (blk_lt (g:=gb128) (o:=.cells #[.int .i64 0,.string (⟨#[]⟩:ByteArray),.int .i64 0,.int .i64 0,.int .i64 0] 41 (0,0)) bk_):gb138 ≠ gb128));have n8_:=Aside0.mk ((by rw [hg];exact Nat.ne_of_lt (IsS78.lt (show IsS78 w _ gb129 t136 t137 from by repeat (first|(with_reducible first|exact HI129.out|apply IsS78.alloc|apply IsS78.drewN|apply IsS78.drew|apply IsS78.set_0|apply IsS78.set_1|apply IsS78.far (hne:=NB129_128.out))|exact HI129.out|apply IsS78.set_0|apply IsS78.set_1))):gb129 ≠ gb138));have n9_:=Aside0.mk ((by rw [hg];exact Nat.ne_of_gt (IsS78.lt (show IsS78 w _ gb129 t136 t137 from by repeat (first|(with_reducible first|exact HI129.out|apply IsS78.alloc|apply IsS78.drewN|apply IsS78.drew|apply IsS78.set_0|apply IsS78.set_1|apply IsS78.far (hne:=NB129_128.out))|exact HI129.out|apply IsS78.set_0|apply IsS78.set_1))):gb138 ≠ gb129));clear BK128;clear HI129;clear HB;have BK128:=n0_;have HI129:=n1_;have HB:=n2_;have BK138:=n3_;have GW138:=n4_;have GE138:=n5_;have NB128_138:=n6_;have NB138_128:=n7_;have NB129_138:=n8_;have NB138_129:=n9_;clear n0_ n1_ n2_ n3_ n4_ n5_ n6_ n7_ n8_ n9_;clear hb hbox hg;have hnb10:=NB138_128.out;have hnc10:=NB128_138.out;have hnb11:=NB138_129.out;have hnc11:=NB129_138.out;obtain ⟨hcz12_0,hcz12_1,hcz12_2,hcz12_3,hcz12_4,hfz12_0,hfz12_1,hfz12_2,hfz12_3,hfz12_4⟩:=blk5_ BK138.out)|((with_reducible refine gate_store (t:=41) (p:=5) rfl ?_);refine store_event (t:=41) (p:=5) (v:=?vo_w13) (w1:=(((((w9.setCell ⟨gb138,0,none⟩ (.int .i64 t130)).setCell ⟨gb138,1,none⟩ (.string t131)).setCell ⟨gb138,2,none⟩ (.int .i64 t132)).setCell ⟨gb138,3,none⟩ (.int .i64 t133)).setCell ⟨gb138,4,none⟩ (.int .i64 t134))) ?hg ?ho ?hn ?hr ?_;(case ho => rfl);(case hg => rfl);(case hn => rfl);(case hr => first|(go_simp;done)|(go_simp;rfl));intro w13 hw;have n0_:Aside0 (w13.heap[gb128]?=some (.cells #[.int .i64 0,.string (⟨#[]⟩:ByteArray),.int .i64 0,.int .i64 0,.int .i64 0] 41 (0,0))):=⟨(by rw [hw];exact bk_)⟩;have n1_:Aside0 (w13.heap[gb138]?=some (.cells #[.int .i64 t130,.string t131,.int .i64 t132,.int .i64 t133,.int .i64 t134] 41 (0,0))):=⟨(by rw [hw];exact (st5_ BK138.out))⟩;have n2_:Aside0 (IsS78 w w13 gb129 t136 t137):=⟨(by rw [hw];exact (by repeat (first|(with_reducible first|exact HI129.out|apply IsS78.alloc|apply IsS78.drewN|apply IsS78.drew|apply IsS78.set_0|apply IsS78.set_1|apply IsS78.far (hne:=NB129_128.out)|apply IsS78.far (hne:=NB129_138.out))|exact HI129.out|apply IsS78.set_0|apply IsS78.set_1)))⟩;have n3_:Aside0 (Below w.heap.size w w13):=⟨(by rw [hw];exact (by repeat (first|(with_reducible first|exact HB.out|apply below_alloc|apply pw_below_drewN|apply below_drew1|refine below_set ?_ (IsS78.ge HI129.out)|refine below_set ?_ GE128.out|refine below_set ?_ GE138.out)|exact HB.out)))⟩;clear hw;clear BK128;clear BK138;clear HI129;clear HB;have BK128:=n0_;have BK138:=n1_;have HI129:=n2_;have HB:=n3_;clear n0_ n1_ n2_ n3_)|(go_at_call 33;(with_reducible refine (kind_scan_left.calls gb129 t136 t137 t139 t140 t141 w _ ?side1 ?side2 A4.out).mono ?_);(case side1 => repeat (first|(with_reducible first|exact HI129.out|apply IsS78.alloc|apply IsS78.drewN|apply IsS78.drew|apply IsS78.set_0|apply IsS78.set_1|apply IsS78.far (hne:=NB129_128.out)|apply IsS78.far (hne:=NB129_138.out))|exact HI129.out|apply IsS78.set_0|apply IsS78.set_1));(case side2 => repeat (first|(with_reducible first|exact HB.out|apply below_alloc|apply pw_below_drewN|apply below_drew1|refine below_set ?_ (IsS78.ge HI129.out)|refine below_set ?_ GE128.out|refine below_set ?_ GE138.out)|exact HB.out));rintro e w14 ⟨rfl,hi,hb,hk⟩;have n0_:=Aside0.mk (KeepBut.blk hk (g':=gb128) (o:=.cells #[.int .i64 0,.string (⟨#[]⟩:ByteArray),.int .i64 0,.int .i64 0,.int .i64 0] 41 (0,0)) bk_ NB128_129.out (by simp));have n1_:=Aside0.mk (KeepBut.blk hk (g':=gb138) (o:=.cells #[.int .i64 t130,.string t131,.int .i64 t132,.int .i64 t133,.int .i64 t134] 41 (0,0)) bk_ NB138_129.out (by simp));have n2_:=Aside0.mk (hb);have n3_:=Aside0.mk (hi);clear BK128;clear BK138;clear HB;clear HI129;have BK128:=n0_;have BK138:=n1_;have HB:=n2_;have HI129:=n3_;clear n0_ n1_ n2_ n3_;(try clear hb);(try clear hb2);(try clear hk);(try clear hi);obtain ⟨hcz15_0,hcz15_1,hcz15_2,hcz15_3,hcz15_4,hfz15_0,hfz15_1,hfz15_2,hfz15_3,hfz15_4⟩:=blk5_ BK138.out;have hnb16:=NB128_129.out;have hnc16:=NB129_128.out;obtain ⟨hcz17_0,hcz17_1,hcz17_2,hcz17_3,hcz17_4,hfz17_0,hfz17_1,hfz17_2,hfz17_3,hfz17_4⟩:=blk5_ BK128.out)|((with_reducible refine gate_store (t:=41) (p:=2) rfl ?_);refine store_event (t:=41) (p:=2) (v:=?vo_w18) (w1:=(((((w14.setCell ⟨gb128,0,none⟩ (.int .i64 t130)).setCell ⟨gb128,1,none⟩ (.string t131)).setCell ⟨gb128,2,none⟩ (.int .i64 t132)).setCell ⟨gb128,3,none⟩ (.int .i64 t133)).setCell ⟨gb128,4,none⟩ (.int .i64 t134))) ?hg ?ho ?hn ?hr ?_;(case ho => rfl);(case hg => rfl);(case hn => rfl);(case hr => first|(go_simp;done)|(go_simp;rfl));intro w18 hw;have n0_:Aside0 (w18.heap[gb128]?=some (.cells #[.int .i64 t130,.string t131,.int .i64 t132,.int .i64 t133,.int .i64 t134] 41 (0,0))):=⟨(by rw [hw];exact (st5_ BK128.out))⟩;have n1_:Aside0 (w18.heap[gb138]?=some (.cells #[.int .i64 t130,.string t131,.int .i64 t132,.int .i64 t133,.int .i64 t134] 41 (0,0))):=⟨(by rw [hw];exact bk_)⟩;have n2_:Aside0 (IsS78 w w18 gb129 t140 t141):=⟨(by rw [hw];exact (by repeat (first|(with_reducible first|exact HI129.out|apply IsS78.alloc|apply IsS78.drewN|apply IsS78.drew|apply IsS78.set_0|apply IsS78.set_1|apply IsS78.far (hne:=NB129_128.out)|apply IsS78.far (hne:=NB129_138.out))|exact HI129.out|apply IsS78.set_0|apply IsS78.set_1)))⟩;have n3_:Aside0 (Below w.heap.size w w18):=⟨(by rw [hw];exact (by repeat (first|(with_reducible first|exact HB.out|apply below_alloc|apply pw_below_drewN|apply below_drew1|refine below_set ?_ (IsS78.ge HI129.out)|refine below_set ?_ GE128.out|refine below_set ?_ GE138.out)|exact HB.out)))⟩;clear hw;clear BK128;clear BK138;clear HI129;clear HB;have BK128:=n0_;have BK138:=n1_;have HI129:=n2_;have HB:=n3_;clear n0_ n1_ n2_ n3_))
   refine bodyPost_ret (results_ct rfl _ _ gb128 41 #[.int .i64 t130,.string t131,.int .i64 t132,.int .i64 t133,.int .i64 t134] (0,0) _ rfl bk_ Try.underlying41 rfl (by kernel_rfl)) rfl ?_
   exact ⟨ew_,by repeat (first|(with_reducible first|exact HB.out|apply below_alloc|apply pw_below_drewN|apply below_drew1|refine below_set ?_ (IsS78.ge HI129.out)|refine below_set ?_ GE128.out|refine below_set ?_ GE138.out)|exact HB.out)⟩
  ·rw [if_neg c5] at H
   have c5b0:(t139.toList==([]:List UInt8))=false:=beq_eq_false_iff_ne.mpr c5
   have c5b1:(t139.toList != ([]:List UInt8))=true:=bne_iff_ne.mpr c5
   simp only [Option.some.injEq,Prod.mk.injEq] at H
   obtain ⟨rfl,rfl,rfl,rfl,rfl,rfl⟩:=H
   go_enter Try.func28,Try.ntmps28
   go_wp2_with (first|((with_reducible refine gate_dst (N:=2) rfl ?_);refine box_event ?hg (N:=2) ?hd (cs:=#[.int .i64 0,.string (⟨#[]⟩:ByteArray),.int .i64 0,.int .i64 0,.int .i64 0]) (t:=41) ?hr ?_;(case hd => rfl);(case hg => rfl);(case hr => first|(go_simp;done)|(go_simp;rfl));intro gb128 hg w19 hbox hb;have n0_:=Aside0.mk (below_step bl_ hb);have n1_:=Aside0.mk (hbox);have n2_:=Aside0.mk ((by rw [hg];exact (below_size bl_):w.heap.size≤gb128));have n3_:=Aside0.mk ((by rw [hg];exact (below_size bl_):w.heap.size≤gb128));clear HB;have HB:=n0_;have BK128:=n1_;have GW128:=n2_;have GE128:=n3_;clear n0_ n1_ n2_ n3_;clear hb hbox hg)|((with_reducible refine gate_dst (N:=9) rfl ?_);refine box_event ?hg (N:=9) ?hd (cs:=#[.string a0,.int .i64 0]) (t:=78) ?hr ?_;(case hd => rfl);(case hg => rfl);(case hr => first|(go_simp;done)|(go_simp;rfl));intro gb129 hg w20 hbox hb;have n0_:=Aside0.mk (blk_below (g:=gb128) (o:=.cells #[.int .i64 0,.string (⟨#[]⟩:ByteArray),.int .i64 0,.int .i64 0,.int .i64 0] 41 (0,0)) bk_ hb);have n1_:=Aside0.mk (below_step bl_ hb);have n2_:=Aside0.mk (hbox);have n3_:=Aside0.mk ((by rw [hg];exact (below_size bl_):w.heap.size≤gb129));have n4_:=Aside0.mk ((by rw [hg];exact (below_size bl_):w.heap.size≤gb129));have n5_:=Aside0.mk ((by rw [hg];exact Nat.ne_of_lt (blk_lt (g:=gb128) (o:=.cells #[.int .i64 0,.string (⟨#[]⟩:ByteArray),.int .i64 0,.int .i64 0,.int .i64 0] 41 (0,0)) bk_):gb128 ≠ gb129));have n6_:=Aside0.mk ((by rw [hg];exact Nat.ne_of_gt (blk_lt (g:=gb128) (o:=.cells #[.int .i64 0,.string (⟨#[]⟩:ByteArray),.int .i64 0,.int .i64 0,.int .i64 0] 41 (0,0)) bk_):gb129 ≠ gb128));clear BK128;clear HB;have BK128:=n0_;have HB:=n1_;have BK129:=n2_;have GW129:=n3_;have GE129:=n4_;have NB128_129:=n5_;have NB129_128:=n6_;clear n0_ n1_ n2_ n3_ n4_ n5_ n6_;clear hb hbox hg;have HI129:=Aside0.mk (show IsS78 w w20 gb129 a0 0 from ⟨BK129.out,GE129.out⟩);clear BK129)|(refine callA_ (f:=32) (some 12) Try.func32 #[.pointer (some ⟨gb129,0,none⟩)] ?_;(with_reducible refine (kind_scan_field.calls k gb129 a0 0 t130 t131 t132 t133 t134 true t136 t137 w _ hG ?side1 ?side2 A2.out).mono ?_);(case side1 => repeat (first|(with_reducible first|exact HI129.out|apply IsS78.alloc|apply IsS78.drewN|apply IsS78.drew|apply IsS78.set_0|apply IsS78.set_1|apply IsS78.far (hne:=NB129_128.out))|exact HI129.out|apply IsS78.set_0|apply IsS78.set_1));(case side2 => repeat (first|(with_reducible first|exact HB.out|apply below_alloc|apply pw_below_drewN|apply below_drew1|refine below_set ?_ (IsS78.ge HI129.out)|refine below_set ?_ GE128.out)|exact HB.out));rintro e w21 ⟨rfl,hi,hb,hk⟩;refine ⟨_,rfl,?_⟩;have n0_:=Aside0.mk (KeepBut.blk hk (g':=gb128) (o:=.cells #[.int .i64 0,.string (⟨#[]⟩:ByteArray),.int .i64 0,.int .i64 0,.int .i64 0] 41 (0,0)) bk_ NB128_129.out (by simp));have n1_:=Aside0.mk (hb);have n2_:=Aside0.mk (hi);clear BK128;clear HB;clear HI129;have BK128:=n0_;have HB:=n1_;have HI129:=n2_;clear n0_ n1_ n2_;(try clear hb);(try clear hb2);(try clear hk);(try clear hi))|((with_reducible refine gate_dst (N:=5) rfl ?_);refine box_event ?hg (N:=5) ?hd (cs:=#[.int .i64 0,.string (⟨#[]⟩:ByteArray),.int .i64 0,.int .i64 0,.int .i64 0]) (t:=41) ?hr ?_;(case hd => rfl);(case hg => rfl);(case hr => first|(go_simp;done)|(go_simp;rfl));intro gb138 hg w22 hbox hb;have n0_:=Aside0.mk (blk_below (g:=gb128) (o:=.cells #[.int .i64 0,.string (⟨#[]⟩:ByteArray),.int .i64 0,.int .i64 0,.int .i64 0] 41 (0,0)) bk_ hb);have n1_:=Aside0.mk (IsS78.below (by repeat (first|(with_reducible first|exact HI129.out|apply IsS78.alloc|apply IsS78.drewN|apply IsS78.drew|apply IsS78.set_0|apply IsS78.set_1|apply IsS78.far (hne:=NB129_128.out))|exact HI129.out|apply IsS78.set_0|apply IsS78.set_1)) hb);have n2_:=Aside0.mk (below_step (by repeat (first|(with_reducible first|exact HB.out|apply below_alloc|apply pw_below_drewN|apply below_drew1|refine below_set ?_ (IsS78.ge HI129.out)|refine below_set ?_ GE128.out)|exact HB.out)) hb);have n3_:=Aside0.mk (hbox);have n4_:=Aside0.mk ((by rw [hg];exact (below_size (by repeat (first|(with_reducible first|exact HB.out|apply below_alloc|apply pw_below_drewN|apply below_drew1|refine below_set ?_ (IsS78.ge HI129.out)|refine below_set ?_ GE128.out)|exact HB.out))):w.heap.size≤gb138));have n5_:=Aside0.mk ((by rw [hg];exact (below_size (by repeat (first|(with_reducible first|exact HB.out|apply below_alloc|apply pw_below_drewN|apply below_drew1|refine below_set ?_ (IsS78.ge HI129.out)|refine below_set ?_ GE128.out)|exact HB.out))):w.heap.size≤gb138));have n6_:=Aside0.mk ((by rw [hg];exact Nat.ne_of_lt (blk_lt (g:=gb128) (o:=.cells #[.int .i64 0,.string (⟨#[]⟩:ByteArray),.int .i64 0,.int .i64 0,.int .i64 0] 41 (0,0)) bk_):gb128 ≠ gb138));have n7_:=Aside0.mk ((by rw [hg];exact Nat.ne_of_gt (blk_lt (g:=gb128) (o:=.cells #[.int .i64 0,.string (⟨#[]⟩:ByteArray),.int .i64 0,.int .i64 0,.int .i64 0] 41 (0,0)) bk_):gb138 ≠ gb128));have n8_:=Aside0.mk ((by rw [hg];exact Nat.ne_of_lt (IsS78.lt (show IsS78 w _ gb129 t136 t137 from by repeat (first|(with_reducible first|exact HI129.out|apply IsS78.alloc|apply IsS78.drewN|apply IsS78.drew|apply IsS78.set_0|apply IsS78.set_1|apply IsS78.far (hne:=NB129_128.out))|exact HI129.out|apply IsS78.set_0|apply IsS78.set_1))):gb129 ≠ gb138));have n9_:=Aside0.mk ((by rw [hg];exact Nat.ne_of_gt (IsS78.lt (show IsS78 w _ gb129 t136 t137 from by repeat (first|(with_reducible first|exact HI129.out|apply IsS78.alloc|apply IsS78.drewN|apply IsS78.drew|apply IsS78.set_0|apply IsS78.set_1|apply IsS78.far (hne:=NB129_128.out))|exact HI129.out|apply IsS78.set_0|apply IsS78.set_1))):gb138 ≠ gb129));clear BK128;clear HI129;clear HB;have BK128:=n0_;have HI129:=n1_;have HB:=n2_;have BK138:=n3_;have GW138:=n4_;have GE138:=n5_;have NB128_138:=n6_;have NB138_128:=n7_;have NB129_138:=n8_;have NB138_129:=n9_;clear n0_ n1_ n2_ n3_ n4_ n5_ n6_ n7_ n8_ n9_;clear hb hbox hg;have hnb23:=NB138_128.out;have hnc23:=NB128_138.out;have hnb24:=NB138_129.out;have hnc24:=NB129_138.out;obtain ⟨hcz25_0,hcz25_1,hcz25_2,hcz25_3,hcz25_4,hfz25_0,hfz25_1,hfz25_2,hfz25_3,hfz25_4⟩:=blk5_ BK138.out)|((with_reducible refine gate_store (t:=41) (p:=5) rfl ?_);refine store_event (t:=41) (p:=5) (v:=?vo_w26) (w1:=(((((w22.setCell ⟨gb138,0,none⟩ (.int .i64 t130)).setCell ⟨gb138,1,none⟩ (.string t131)).setCell ⟨gb138,2,none⟩ (.int .i64 t132)).setCell ⟨gb138,3,none⟩ (.int .i64 t133)).setCell ⟨gb138,4,none⟩ (.int .i64 t134))) ?hg ?ho ?hn ?hr ?_;(case ho => rfl);(case hg => rfl);(case hn => rfl);(case hr => first|(go_simp;done)|(go_simp;rfl));intro w26 hw;have n0_:Aside0 (w26.heap[gb128]?=some (.cells #[.int .i64 0,.string (⟨#[]⟩:ByteArray),.int .i64 0,.int .i64 0,.int .i64 0] 41 (0,0))):=⟨(by rw [hw];exact bk_)⟩;have n1_:Aside0 (w26.heap[gb138]?=some (.cells #[.int .i64 t130,.string t131,.int .i64 t132,.int .i64 t133,.int .i64 t134] 41 (0,0))):=⟨(by rw [hw];exact (st5_ BK138.out))⟩;have n2_:Aside0 (IsS78 w w26 gb129 t136 t137):=⟨(by rw [hw];exact (by repeat (first|(with_reducible first|exact HI129.out|apply IsS78.alloc|apply IsS78.drewN|apply IsS78.drew|apply IsS78.set_0|apply IsS78.set_1|apply IsS78.far (hne:=NB129_128.out)|apply IsS78.far (hne:=NB129_138.out))|exact HI129.out|apply IsS78.set_0|apply IsS78.set_1)))⟩;have n3_:Aside0 (Below w.heap.size w w26):=⟨(by rw [hw];exact (by repeat (first|(with_reducible first|exact HB.out|apply below_alloc|apply pw_below_drewN|apply below_drew1|refine below_set ?_ (IsS78.ge HI129.out)|refine below_set ?_ GE128.out|refine below_set ?_ GE138.out)|exact HB.out)))⟩;clear hw;clear BK128;clear BK138;clear HI129;clear HB;have BK128:=n0_;have BK138:=n1_;have HI129:=n2_;have HB:=n3_;clear n0_ n1_ n2_ n3_)|(go_at_call 33;(with_reducible refine (kind_scan_left.calls gb129 t136 t137 t139 t140 t141 w _ ?side1 ?side2 A4.out).mono ?_);(case side1 => repeat (first|(with_reducible first|exact HI129.out|apply IsS78.alloc|apply IsS78.drewN|apply IsS78.drew|apply IsS78.set_0|apply IsS78.set_1|apply IsS78.far (hne:=NB129_128.out)|apply IsS78.far (hne:=NB129_138.out))|exact HI129.out|apply IsS78.set_0|apply IsS78.set_1));(case side2 => repeat (first|(with_reducible first|exact HB.out|apply below_alloc|apply pw_below_drewN|apply below_drew1|refine below_set ?_ (IsS78.ge HI129.out)|refine below_set ?_ GE128.out|refine below_set ?_ GE138.out)|exact HB.out));rintro e w27 ⟨rfl,hi,hb,hk⟩;have n0_:=Aside0.mk (KeepBut.blk hk (g':=gb128) (o:=.cells #[.int .i64 0,.string (⟨#[]⟩:ByteArray),.int .i64 0,.int .i64 0,.int .i64 0] 41 (0,0)) bk_ NB128_129.out (by simp));have n1_:=Aside0.mk (KeepBut.blk hk (g':=gb138) (o:=.cells #[.int .i64 t130,.string t131,.int .i64 t132,.int .i64 t133,.int .i64 t134] 41 (0,0)) bk_ NB138_129.out (by simp));have n2_:=Aside0.mk (hb);have n3_:=Aside0.mk (hi);clear BK128;clear BK138;clear HB;clear HI129;have BK128:=n0_;have BK138:=n1_;have HB:=n2_;have HI129:=n3_;clear n0_ n1_ n2_ n3_;(try clear hb);(try clear hb2);(try clear hk);(try clear hi);have hnb28:=NB128_129.out;have hnc28:=NB129_128.out;obtain ⟨hcz29_0,hcz29_1,hcz29_2,hcz29_3,hcz29_4,hfz29_0,hfz29_1,hfz29_2,hfz29_3,hfz29_4⟩:=blk5_ BK128.out)|((with_reducible refine gate_store (t:=41) (p:=2) rfl ?_);refine store_event (t:=41) (p:=2) (v:=?vo_w30) (w1:=(((((w27.setCell ⟨gb128,0,none⟩ (.int .i64 0)).setCell ⟨gb128,1,none⟩ (.string (⟨#[]⟩:ByteArray))).setCell ⟨gb128,2,none⟩ (.int .i64 0)).setCell ⟨gb128,3,none⟩ (.int .i64 0)).setCell ⟨gb128,4,none⟩ (.int .i64 0))) ?hg ?ho ?hn ?hr ?_;(case ho => rfl);(case hg => rfl);(case hn => rfl);(case hr => first|(go_simp;done)|(go_simp;rfl));intro w30 hw;have n0_:Aside0 (w30.heap[gb128]?=some (.cells #[.int .i64 0,.string (⟨#[]⟩:ByteArray),.int .i64 0,.int .i64 0,.int .i64 0] 41 (0,0))):=⟨(by rw [hw];exact (st5_ BK128.out))⟩;have n1_:Aside0 (w30.heap[gb138]?=some (.cells #[.int .i64 t130,.string t131,.int .i64 t132,.int .i64 t133,.int .i64 t134] 41 (0,0))):=⟨(by rw [hw];exact bk_)⟩;have n2_:Aside0 (IsS78 w w30 gb129 t140 t141):=⟨(by rw [hw];exact (by repeat (first|(with_reducible first|exact HI129.out|apply IsS78.alloc|apply IsS78.drewN|apply IsS78.drew|apply IsS78.set_0|apply IsS78.set_1|apply IsS78.far (hne:=NB129_128.out)|apply IsS78.far (hne:=NB129_138.out))|exact HI129.out|apply IsS78.set_0|apply IsS78.set_1)))⟩;have n3_:Aside0 (Below w.heap.size w w30):=⟨(by rw [hw];exact (by repeat (first|(with_reducible first|exact HB.out|apply below_alloc|apply pw_below_drewN|apply below_drew1|refine below_set ?_ (IsS78.ge HI129.out)|refine below_set ?_ GE128.out|refine below_set ?_ GE138.out)|exact HB.out)))⟩;clear hw;clear BK128;clear BK138;clear HI129;clear HB;have BK128:=n0_;have BK138:=n1_;have HI129:=n2_;have HB:=n3_;clear n0_ n1_ n2_ n3_))
   refine bodyPost_ret (results_ct rfl _ _ gb128 41 #[.int .i64 0,.string (⟨#[]⟩:ByteArray),.int .i64 0,.int .i64 0,.int .i64 0] (0,0) _ rfl bk_ Try.underlying41 rfl (by kernel_rfl)) rfl ?_
   exact ⟨ew_,by repeat (first|(with_reducible first|exact HB.out|apply below_alloc|apply pw_below_drewN|apply below_drew1|refine below_set ?_ (IsS78.ge HI129.out)|refine below_set ?_ GE128.out|refine below_set ?_ GE138.out)|exact HB.out)⟩
 ·replace c3:=Bool.eq_false_iff.mpr c3
  subst c3
  rw [if_neg (show ¬ (false=true) by decide)] at H
  simp only [Option.some.injEq,Prod.mk.injEq] at H
  obtain ⟨rfl,rfl,rfl,rfl,rfl,rfl⟩:=H
  go_enter Try.func28,Try.ntmps28
  go_wp2_with (first|((with_reducible refine gate_dst (N:=2) rfl ?_);refine box_event ?hg (N:=2) ?hd (cs:=#[.int .i64 0,.string (⟨#[]⟩:ByteArray),.int .i64 0,.int .i64 0,.int .i64 0]) (t:=41) ?hr ?_;(case hd => rfl);(case hg => rfl);(case hr => first|(go_simp;done)|(go_simp;rfl));intro gb128 hg w31 hbox hb;have n0_:=Aside0.mk (below_step bl_ hb);have n1_:=Aside0.mk (hbox);have n2_:=Aside0.mk ((by rw [hg];exact (below_size bl_):w.heap.size≤gb128));have n3_:=Aside0.mk ((by rw [hg];exact (below_size bl_):w.heap.size≤gb128));clear HB;have HB:=n0_;have BK128:=n1_;have GW128:=n2_;have GE128:=n3_;clear n0_ n1_ n2_ n3_;clear hb hbox hg)|((with_reducible refine gate_dst (N:=9) rfl ?_);refine box_event ?hg (N:=9) ?hd (cs:=#[.string a0,.int .i64 0]) (t:=78) ?hr ?_;(case hd => rfl);(case hg => rfl);(case hr => first|(go_simp;done)|(go_simp;rfl));intro gb129 hg w32 hbox hb;have n0_:=Aside0.mk (blk_below (g:=gb128) (o:=.cells #[.int .i64 0,.string (⟨#[]⟩:ByteArray),.int .i64 0,.int .i64 0,.int .i64 0] 41 (0,0)) bk_ hb);have n1_:=Aside0.mk (below_step bl_ hb);have n2_:=Aside0.mk (hbox);have n3_:=Aside0.mk ((by rw [hg];exact (below_size bl_):w.heap.size≤gb129));have n4_:=Aside0.mk ((by rw [hg];exact (below_size bl_):w.heap.size≤gb129));have n5_:=Aside0.mk ((by rw [hg];exact Nat.ne_of_lt (blk_lt (g:=gb128) (o:=.cells #[.int .i64 0,.string (⟨#[]⟩:ByteArray),.int .i64 0,.int .i64 0,.int .i64 0] 41 (0,0)) bk_):gb128 ≠ gb129));have n6_:=Aside0.mk ((by rw [hg];exact Nat.ne_of_gt (blk_lt (g:=gb128) (o:=.cells #[.int .i64 0,.string (⟨#[]⟩:ByteArray),.int .i64 0,.int .i64 0,.int .i64 0] 41 (0,0)) bk_):gb129 ≠ gb128));clear BK128;clear HB;have BK128:=n0_;have HB:=n1_;have BK129:=n2_;have GW129:=n3_;have GE129:=n4_;have NB128_129:=n5_;have NB129_128:=n6_;clear n0_ n1_ n2_ n3_ n4_ n5_ n6_;clear hb hbox hg;have HI129:=Aside0.mk (show IsS78 w w32 gb129 a0 0 from ⟨BK129.out,GE129.out⟩);clear BK129)|(refine callA_ (f:=32) (some 12) Try.func32 #[.pointer (some ⟨gb129,0,none⟩)] ?_;(with_reducible refine (kind_scan_field.calls k gb129 a0 0 t130 t131 t132 t133 t134 false t136 t137 w _ hG ?side1 ?side2 A2.out).mono ?_);(case side1 => repeat (first|(with_reducible first|exact HI129.out|apply IsS78.alloc|apply IsS78.drewN|apply IsS78.drew|apply IsS78.set_0|apply IsS78.set_1|apply IsS78.far (hne:=NB129_128.out))|exact HI129.out|apply IsS78.set_0|apply IsS78.set_1));(case side2 => repeat (first|(with_reducible first|exact HB.out|apply below_alloc|apply pw_below_drewN|apply below_drew1|refine below_set ?_ (IsS78.ge HI129.out)|refine below_set ?_ GE128.out)|exact HB.out));rintro e w33 ⟨rfl,hi,hb,hk⟩;refine ⟨_,rfl,?_⟩;have n0_:=Aside0.mk (KeepBut.blk hk (g':=gb128) (o:=.cells #[.int .i64 0,.string (⟨#[]⟩:ByteArray),.int .i64 0,.int .i64 0,.int .i64 0] 41 (0,0)) bk_ NB128_129.out (by simp));have n1_:=Aside0.mk (hb);have n2_:=Aside0.mk (hi);clear BK128;clear HB;clear HI129;have BK128:=n0_;have HB:=n1_;have HI129:=n2_;clear n0_ n1_ n2_;(try clear hb);(try clear hb2);(try clear hk);(try clear hi))|((with_reducible refine gate_dst (N:=5) rfl ?_);refine box_event ?hg (N:=5) ?hd (cs:=#[.int .i64 0,.string (⟨#[]⟩:ByteArray),.int .i64 0,.int .i64 0,.int .i64 0]) (t:=41) ?hr ?_;(case hd => rfl);(case hg => rfl);(case hr => first|(go_simp;done)|(go_simp;rfl));intro gb138 hg w34 hbox hb;have n0_:=Aside0.mk (blk_below (g:=gb128) (o:=.cells #[.int .i64 0,.string (⟨#[]⟩:ByteArray),.int .i64 0,.int .i64 0,.int .i64 0] 41 (0,0)) bk_ hb);have n1_:=Aside0.mk (IsS78.below (by repeat (first|(with_reducible first|exact HI129.out|apply IsS78.alloc|apply IsS78.drewN|apply IsS78.drew|apply IsS78.set_0|apply IsS78.set_1|apply IsS78.far (hne:=NB129_128.out))|exact HI129.out|apply IsS78.set_0|apply IsS78.set_1)) hb);have n2_:=Aside0.mk (below_step (by repeat (first|(with_reducible first|exact HB.out|apply below_alloc|apply pw_below_drewN|apply below_drew1|refine below_set ?_ (IsS78.ge HI129.out)|refine below_set ?_ GE128.out)|exact HB.out)) hb);have n3_:=Aside0.mk (hbox);have n4_:=Aside0.mk ((by rw [hg];exact (below_size (by repeat (first|(with_reducible first|exact HB.out|apply below_alloc|apply pw_below_drewN|apply below_drew1|refine below_set ?_ (IsS78.ge HI129.out)|refine below_set ?_ GE128.out)|exact HB.out))):w.heap.size≤gb138));have n5_:=Aside0.mk ((by rw [hg];exact (below_size (by repeat (first|(with_reducible first|exact HB.out|apply below_alloc|apply pw_below_drewN|apply below_drew1|refine below_set ?_ (IsS78.ge HI129.out)|refine below_set ?_ GE128.out)|exact HB.out))):w.heap.size≤gb138));have n6_:=Aside0.mk ((by rw [hg];exact Nat.ne_of_lt (blk_lt (g:=gb128) (o:=.cells #[.int .i64 0,.string (⟨#[]⟩:ByteArray),.int .i64 0,.int .i64 0,.int .i64 0] 41 (0,0)) bk_):gb128 ≠ gb138));have n7_:=Aside0.mk ((by rw [hg];exact Nat.ne_of_gt (blk_lt (g:=gb128) (o:=.cells #[.int .i64 0,.string (⟨#[]⟩:ByteArray),.int .i64 0,.int .i64 0,.int .i64 0] 41 (0,0)) bk_):gb138 ≠ gb128));have n8_:=Aside0.mk ((by rw [hg];exact Nat.ne_of_lt (IsS78.lt (show IsS78 w _ gb129 t136 t137 from by repeat (first|(with_reducible first|exact HI129.out|apply IsS78.alloc|apply IsS78.drewN|apply IsS78.drew|apply IsS78.set_0|apply IsS78.set_1|apply IsS78.far (hne:=NB129_128.out))|exact HI129.out|apply IsS78.set_0|apply IsS78.set_1))):gb129 ≠ gb138));have n9_:=Aside0.mk ((by rw [hg];exact Nat.ne_of_gt (IsS78.lt (show IsS78 w _ gb129 t136 t137 from by repeat (first|(with_reducible first|exact HI129.out|apply IsS78.alloc|apply IsS78.drewN|apply IsS78.drew|apply IsS78.set_0|apply IsS78.set_1|apply IsS78.far (hne:=NB129_128.out))|exact HI129.out|apply IsS78.set_0|apply IsS78.set_1))):gb138 ≠ gb129));clear BK128;clear HI129;clear HB;have BK128:=n0_;have HI129:=n1_;have HB:=n2_;have BK138:=n3_;have GW138:=n4_;have GE138:=n5_;have NB128_138:=n6_;have NB138_128:=n7_;have NB129_138:=n8_;have NB138_129:=n9_;clear n0_ n1_ n2_ n3_ n4_ n5_ n6_ n7_ n8_ n9_;clear hb hbox hg;have hnb35:=NB138_128.out;have hnc35:=NB128_138.out;have hnb36:=NB138_129.out;have hnc36:=NB129_138.out;obtain ⟨hcz37_0,hcz37_1,hcz37_2,hcz37_3,hcz37_4,hfz37_0,hfz37_1,hfz37_2,hfz37_3,hfz37_4⟩:=blk5_ BK138.out)|((with_reducible refine gate_store (t:=41) (p:=5) rfl ?_);refine store_event (t:=41) (p:=5) (v:=?vo_w38) (w1:=(((((w34.setCell ⟨gb138,0,none⟩ (.int .i64 t130)).setCell ⟨gb138,1,none⟩ (.string t131)).setCell ⟨gb138,2,none⟩ (.int .i64 t132)).setCell ⟨gb138,3,none⟩ (.int .i64 t133)).setCell ⟨gb138,4,none⟩ (.int .i64 t134))) ?hg ?ho ?hn ?hr ?_;(case ho => rfl);(case hg => rfl);(case hn => rfl);(case hr => first|(go_simp;done)|(go_simp;rfl));intro w38 hw;have n0_:Aside0 (w38.heap[gb128]?=some (.cells #[.int .i64 0,.string (⟨#[]⟩:ByteArray),.int .i64 0,.int .i64 0,.int .i64 0] 41 (0,0))):=⟨(by rw [hw];exact bk_)⟩;have n1_:Aside0 (w38.heap[gb138]?=some (.cells #[.int .i64 t130,.string t131,.int .i64 t132,.int .i64 t133,.int .i64 t134] 41 (0,0))):=⟨(by rw [hw];exact (st5_ BK138.out))⟩;have n2_:Aside0 (IsS78 w w38 gb129 t136 t137):=⟨(by rw [hw];exact (by repeat (first|(with_reducible first|exact HI129.out|apply IsS78.alloc|apply IsS78.drewN|apply IsS78.drew|apply IsS78.set_0|apply IsS78.set_1|apply IsS78.far (hne:=NB129_128.out)|apply IsS78.far (hne:=NB129_138.out))|exact HI129.out|apply IsS78.set_0|apply IsS78.set_1)))⟩;have n3_:Aside0 (Below w.heap.size w w38):=⟨(by rw [hw];exact (by repeat (first|(with_reducible first|exact HB.out|apply below_alloc|apply pw_below_drewN|apply below_drew1|refine below_set ?_ (IsS78.ge HI129.out)|refine below_set ?_ GE128.out|refine below_set ?_ GE138.out)|exact HB.out)))⟩;clear hw;clear BK128;clear BK138;clear HI129;clear HB;have BK128:=n0_;have BK138:=n1_;have HI129:=n2_;have HB:=n3_;clear n0_ n1_ n2_ n3_;have hnb39:=NB128_129.out;have hnc39:=NB129_128.out;obtain ⟨hcz40_0,hcz40_1,hcz40_2,hcz40_3,hcz40_4,hfz40_0,hfz40_1,hfz40_2,hfz40_3,hfz40_4⟩:=blk5_ BK128.out)|((with_reducible refine gate_store (t:=41) (p:=2) rfl ?_);refine store_event (t:=41) (p:=2) (v:=?vo_w41) (w1:=(((((w38.setCell ⟨gb128,0,none⟩ (.int .i64 0)).setCell ⟨gb128,1,none⟩ (.string (⟨#[]⟩:ByteArray))).setCell ⟨gb128,2,none⟩ (.int .i64 0)).setCell ⟨gb128,3,none⟩ (.int .i64 0)).setCell ⟨gb128,4,none⟩ (.int .i64 0))) ?hg ?ho ?hn ?hr ?_;(case ho => rfl);(case hg => rfl);(case hn => rfl);(case hr => first|(go_simp;done)|(go_simp;rfl));intro w41 hw;have n0_:Aside0 (w41.heap[gb128]?=some (.cells #[.int .i64 0,.string (⟨#[]⟩:ByteArray),.int .i64 0,.int .i64 0,.int .i64 0] 41 (0,0))):=⟨(by rw [hw];exact (st5_ BK128.out))⟩;have n1_:Aside0 (w41.heap[gb138]?=some (.cells #[.int .i64 t130,.string t131,.int .i64 t132,.int .i64 t133,.int .i64 t134] 41 (0,0))):=⟨(by rw [hw];exact bk_)⟩;have n2_:Aside0 (IsS78 w w41 gb129 t136 t137):=⟨(by rw [hw];exact (by repeat (first|(with_reducible first|exact HI129.out|apply IsS78.alloc|apply IsS78.drewN|apply IsS78.drew|apply IsS78.set_0|apply IsS78.set_1|apply IsS78.far (hne:=NB129_128.out)|apply IsS78.far (hne:=NB129_138.out))|exact HI129.out|apply IsS78.set_0|apply IsS78.set_1)))⟩;have n3_:Aside0 (Below w.heap.size w w41):=⟨(by rw [hw];exact (by repeat (first|(with_reducible first|exact HB.out|apply below_alloc|apply pw_below_drewN|apply below_drew1|refine below_set ?_ (IsS78.ge HI129.out)|refine below_set ?_ GE128.out|refine below_set ?_ GE138.out)|exact HB.out)))⟩;clear hw;clear BK128;clear BK138;clear HI129;clear HB;have BK128:=n0_;have BK138:=n1_;have HI129:=n2_;have HB:=n3_;clear n0_ n1_ n2_ n3_))
  refine bodyPost_ret (results_ct rfl _ _ gb128 41 #[.int .i64 0,.string (⟨#[]⟩:ByteArray),.int .i64 0,.int .i64 0,.int .i64 0] (0,0) _ rfl bk_ Try.underlying41 rfl (by kernel_rfl)) rfl ?_
  exact ⟨ew_,by repeat (first|(with_reducible first|exact HB.out|apply below_alloc|apply pw_below_drewN|apply below_drew1|refine below_set ?_ (IsS78.ge HI129.out)|refine below_set ?_ GE128.out|refine below_set ?_ GE138.out)|exact HB.out)⟩
end Go.Proofs.Ytnihihcopcoabaa.Px
namespace Go.Proofs.Ytnihihcopcoabaa.Px
open Go.RowKit Go.Proofs.YtnihihcopcoabaaW.PrintWords Go.Proofs.YtnihihcopcoabaaW.PrintLast Go.Proofs.YtnihihcopcoabaaW.PrintMore
attribute [local go_sem] max2_int min2_int max_two min_two max_three min_three max_four min_four
set_option linter.unusedVariables false
set_option linter.unusedSimpArgs false
def maps_Type.f (k:Nat) (a0:ByteArray):Option (Int × ByteArray × Int × Int × Int × Bool):=if a0.toList=([]:List UInt8) then (if 1 + a0.size≤9223372036854775807 then (if ((⟨#[76]⟩:ByteArray)++a0).size + 1≤9223372036854775807 then ((kind_Field.f k (((⟨#[76]⟩:ByteArray)++a0)++(⟨#[59]⟩:ByteArray))).bind fun bt143 => (some (bt143.1,bt143.2.1,bt143.2.2.1,bt143.2.2.2.1,bt143.2.2.2.2.1,(bt143.2.2.2.2.2==0)))) else (none)) else (none)) else (if 0 < (a0.size:Int) then (if (bt a0 0)=91 then ((kind_Field.f k a0).bind fun bt150 => (some (bt150.1,bt150.2.1,bt150.2.2.1,bt150.2.2.2.1,bt150.2.2.2.2.1,(bt150.2.2.2.2.2==0)))) else (if 1 + a0.size≤9223372036854775807 then (if ((⟨#[76]⟩:ByteArray)++a0).size + 1≤9223372036854775807 then ((kind_Field.f k (((⟨#[76]⟩:ByteArray)++a0)++(⟨#[59]⟩:ByteArray))).bind fun bt157 => (some (bt157.1,bt157.2.1,bt157.2.2.1,bt157.2.2.2.1,bt157.2.2.2.2.1,(bt157.2.2.2.2.2==0)))) else (none)) else (none))) else (none))
set_option maxHeartbeats 80000000 in
set_option maxRecDepth 100000 in
theorem maps_Type.calls (k:Nat) (a0:ByteArray) (r1:Int) (r2:ByteArray) (r3:Int) (r4:Int) (r5:Int) (r6:Bool) (w:World) (hG:Aside0 (GG w)) (h:maps_Type.f k a0=some (r1,r2,r3,r4,r5,r6)) :
  Calls Try.prog 15 #[.string a0] w fun e w' => e=.returned (.tuple #[.agg #[.int .i64 r1,.string r2,.int .i64 r3,.int .i64 r4,.int .i64 r5],.bool r6])∧Below w.heap.size w w':=by
 have hu41:=Try.underlying41
 have HB:=Aside0.mk (Below.refl w.heap.size w)
 have H:(if a0.toList=([]:List UInt8) then (if 1 + a0.size≤9223372036854775807 then (if ((⟨#[76]⟩:ByteArray)++a0).size + 1≤9223372036854775807 then ((kind_Field.f k (((⟨#[76]⟩:ByteArray)++a0)++(⟨#[59]⟩:ByteArray))).bind fun bt143 => (some (bt143.1,bt143.2.1,bt143.2.2.1,bt143.2.2.2.1,bt143.2.2.2.2.1,(bt143.2.2.2.2.2==0)))) else (none)) else (none)) else (if 0 < (a0.size:Int) then (if (bt a0 0)=91 then ((kind_Field.f k a0).bind fun bt150 => (some (bt150.1,bt150.2.1,bt150.2.2.1,bt150.2.2.2.1,bt150.2.2.2.2.1,(bt150.2.2.2.2.2==0)))) else (if 1 + a0.size≤9223372036854775807 then (if ((⟨#[76]⟩:ByteArray)++a0).size + 1≤9223372036854775807 then ((kind_Field.f k (((⟨#[76]⟩:ByteArray)++a0)++(⟨#[59]⟩:ByteArray))).bind fun bt157 => (some (bt157.1,bt157.2.1,bt157.2.2.1,bt157.2.2.2.1,bt157.2.2.2.2.1,(bt157.2.2.2.2.2==0)))) else (none)) else (none))) else (none)))=some (r1,r2,r3,r4,r5,r6):=h
 clear h
 by_cases c2:a0.toList=([]:List UInt8)
 ·rw [if_pos c2] at H
  have c2b0:(a0.toList==([]:List UInt8))=true:=beq_iff_eq.mpr c2
  have c2b1:(a0.toList != ([]:List UInt8))=false:=bne_eq_false_iff_eq.mpr c2
  clear c2
  by_cases c3:1 + a0.size≤9223372036854775807
  ·rw [if_pos c3] at H
   have c3b0:=eq_true c3
   have c3b1:decide (1 + a0.size≤9223372036854775807)=true:=decide_eq_true c3
   try have c3b2:(9223372036854775807 < 1 + a0.size)=False:=eq_false (Nat.not_lt.2 c3)
   by_cases c4:((⟨#[76]⟩:ByteArray)++a0).size + 1≤9223372036854775807
   ·rw [if_pos c4] at H
    have c4b0:=eq_true c4
    have c4b1:decide (((⟨#[76]⟩:ByteArray)++a0).size + 1≤9223372036854775807)=true:=decide_eq_true c4
    have c4n:1 + a0.size + 1≤9223372036854775807:=by have h_:=c4;rw [ByteArray.size_append] at h_;exact h_
    have c4n0:=eq_true c4n
    have c4n1:decide (1 + a0.size + 1≤9223372036854775807)=true:=decide_eq_true c4n
    try have c4n2:(9223372036854775807 < 1 + a0.size + 1)=False:=eq_false (Nat.not_lt.2 c4n)
    try have c4b2:(9223372036854775807 < ((⟨#[76]⟩:ByteArray)++a0).size + 1)=False:=eq_false (Nat.not_lt.2 c4)
    replace H:=Option.bind_eq_some_iff.mp H
    obtain ⟨⟨t143,t144,t145,t146,t147,t148⟩,A50,H⟩:=H
    try dsimp only at H
    have A5:=Aside0.mk A50
    clear A50
    simp only [Option.some.injEq,Prod.mk.injEq] at H
    obtain ⟨rfl,rfl,rfl,rfl,rfl,rfl⟩:=H
    go_enter Try.func15,Try.ntmps15
    go_wp2_with (first|((with_reducible refine gate_dst (N:=2) rfl ?_);refine box_event ?hg (N:=2) ?hd (cs:=#[.int .i64 0,.string (⟨#[]⟩:ByteArray),.int .i64 0,.int .i64 0,.int .i64 0]) (t:=41) ?hr ?_;(case hd => rfl);(case hg => rfl);(case hr => first|(go_simp;done)|(go_simp;rfl));intro gb142 hg w6 hbox hb;have n0_:=Aside0.mk (below_step bl_ hb);have n1_:=Aside0.mk (hbox);have n2_:=Aside0.mk ((by rw [hg];exact (below_size bl_):w.heap.size≤gb142));have n3_:=Aside0.mk ((by rw [hg];exact (below_size bl_):w.heap.size≤gb142));clear HB;have HB:=n0_;have BK142:=n1_;have GW142:=n2_;have GE142:=n3_;clear n0_ n1_ n2_ n3_;clear hb hbox hg)|(refine callA_ (f:=28) (some 20) Try.func28 #[.string (((⟨#[76]⟩:ByteArray)++a0)++(⟨#[59]⟩:ByteArray))] ?_;(with_reducible refine (kind_Field.calls k (((⟨#[76]⟩:ByteArray)++a0)++(⟨#[59]⟩:ByteArray)) t143 t144 t145 t146 t147 t148 _ ?side1 A5.out).mono ?_);(case side1 => exact ⟨GG.below hG.out bl_⟩);rintro e w7 ⟨rfl,hb⟩;refine ⟨_,rfl,?_⟩;have n0_:=Aside0.mk (blk_below (g:=gb142) (o:=.cells #[.int .i64 0,.string (⟨#[]⟩:ByteArray),.int .i64 0,.int .i64 0,.int .i64 0] 41 (0,0)) bk_ hb);have n1_:=Aside0.mk (below_step bl_ hb);clear BK142;clear HB;have BK142:=n0_;have HB:=n1_;clear n0_ n1_;(try clear hb);(try clear hb2);(try clear hk);(try clear hi))|((with_reducible refine gate_dst (N:=5) rfl ?_);refine box_event ?hg (N:=5) ?hd (cs:=#[.int .i64 0,.string (⟨#[]⟩:ByteArray),.int .i64 0,.int .i64 0,.int .i64 0]) (t:=41) ?hr ?_;(case hd => rfl);(case hg => rfl);(case hr => first|(go_simp;done)|(go_simp;rfl));intro gb149 hg w8 hbox hb;have n0_:=Aside0.mk (blk_below (g:=gb142) (o:=.cells #[.int .i64 0,.string (⟨#[]⟩:ByteArray),.int .i64 0,.int .i64 0,.int .i64 0] 41 (0,0)) bk_ hb);have n1_:=Aside0.mk (below_step bl_ hb);have n2_:=Aside0.mk (hbox);have n3_:=Aside0.mk ((by rw [hg];exact (below_size bl_):w.heap.size≤gb149));have n4_:=Aside0.mk ((by rw [hg];exact (below_size bl_):w.heap.size≤gb149));have n5_:=Aside0.mk ((by rw [hg];exact Nat.ne_of_lt (blk_lt (g:=gb142) (o:=.cells #[.int .i64 0,.string (⟨#[]⟩:ByteArray),.int .i64 0,.int .i64 0,.int .i64 0] 41 (0,0)) bk_):gb142 ≠ gb149));have n6_:=Aside0.mk ((by rw [hg];exact Nat.ne_of_gt (blk_lt (g:=gb142) (o:=.cells #[.int .i64 0,.string (⟨#[]⟩:ByteArray),.int .i64 0,.int .i64 0,.int .i64 0] 41 (0,0)) bk_):gb149 ≠ gb142));clear BK142;clear HB;have BK142:=n0_;have HB:=n1_;have BK149:=n2_;have GW149:=n3_;have GE149:=n4_;have NB142_149:=n5_;have NB149_142:=n6_;clear n0_ n1_ n2_ n3_ n4_ n5_ n6_;clear hb hbox hg;have hnb9:=NB149_142.out;have hnc9:=NB142_149.out;obtain ⟨hcz10_0,hcz10_1,hcz10_2,hcz10_3,hcz10_4,hfz10_0,hfz10_1,hfz10_2,hfz10_3,hfz10_4⟩:=blk5_ BK149.out)|((with_reducible refine gate_store (t:=41) (p:=5) rfl ?_);refine store_event (t:=41) (p:=5) (v:=?vo_w11) (w1:=(((((w8.setCell ⟨gb149,0,none⟩ (.int .i64 t143)).setCell ⟨gb149,1,none⟩ (.string t144)).setCell ⟨gb149,2,none⟩ (.int .i64 t145)).setCell ⟨gb149,3,none⟩ (.int .i64 t146)).setCell ⟨gb149,4,none⟩ (.int .i64 t147))) ?hg ?ho ?hn ?hr ?_;(case ho => rfl);(case hg => rfl);(case hn => rfl);(case hr => first|(go_simp;done)|(go_simp;rfl));intro w11 hw;have n0_:Aside0 (w11.heap[gb142]?=some (.cells #[.int .i64 0,.string (⟨#[]⟩:ByteArray),.int .i64 0,.int .i64 0,.int .i64 0] 41 (0,0))):=⟨(by rw [hw];exact bk_)⟩;have n1_:Aside0 (w11.heap[gb149]?=some (.cells #[.int .i64 t143,.string t144,.int .i64 t145,.int .i64 t146,.int .i64 t147] 41 (0,0))):=⟨(by rw [hw];exact (st5_ BK149.out))⟩;have n2_:Aside0 (Below w.heap.size w w11):=⟨(by rw [hw];exact bl_)⟩;clear hw;clear BK142;clear BK149;clear HB;have BK142:=n0_;have BK149:=n1_;have HB:=n2_;clear n0_ n1_ n2_;obtain ⟨hcz12_0,hcz12_1,hcz12_2,hcz12_3,hcz12_4,hfz12_0,hfz12_1,hfz12_2,hfz12_3,hfz12_4⟩:=blk5_ BK149.out;obtain ⟨hcz13_0,hcz13_1,hcz13_2,hcz13_3,hcz13_4,hfz13_0,hfz13_1,hfz13_2,hfz13_3,hfz13_4⟩:=blk5_ BK142.out)|((with_reducible refine gate_store (t:=41) (p:=2) rfl ?_);refine store_event (t:=41) (p:=2) (v:=?vo_w14) (w1:=(((((w11.setCell ⟨gb142,0,none⟩ (.int .i64 t143)).setCell ⟨gb142,1,none⟩ (.string t144)).setCell ⟨gb142,2,none⟩ (.int .i64 t145)).setCell ⟨gb142,3,none⟩ (.int .i64 t146)).setCell ⟨gb142,4,none⟩ (.int .i64 t147))) ?hg ?ho ?hn ?hr ?_;(case ho => rfl);(case hg => rfl);(case hn => rfl);(case hr => first|(go_simp;done)|(go_simp;rfl));intro w14 hw;have n0_:Aside0 (w14.heap[gb142]?=some (.cells #[.int .i64 t143,.string t144,.int .i64 t145,.int .i64 t146,.int .i64 t147] 41 (0,0))):=⟨(by rw [hw];exact (st5_ BK142.out))⟩;have n1_:Aside0 (w14.heap[gb149]?=some (.cells #[.int .i64 t143,.string t144,.int .i64 t145,.int .i64 t146,.int .i64 t147] 41 (0,0))):=⟨(by rw [hw];exact bk_)⟩;have n2_:Aside0 (Below w.heap.size w w14):=⟨(by rw [hw];exact bl_)⟩;clear hw;clear BK142;clear BK149;clear HB;have BK142:=n0_;have BK149:=n1_;have HB:=n2_;clear n0_ n1_ n2_))
    refine bodyPost_ret (results_ct rfl _ _ gb142 41 #[.int .i64 t143,.string t144,.int .i64 t145,.int .i64 t146,.int .i64 t147] (0,0) _ rfl bk_ Try.underlying41 rfl (by kernel_rfl)) rfl ?_
    exact ⟨ew_,bl_⟩
   ·rw [if_neg c4] at H
    exact absurd H (by simp)
  ·rw [if_neg c3] at H
   exact absurd H (by simp)
 ·rw [if_neg c2] at H
  have c2b0:(a0.toList==([]:List UInt8))=false:=beq_eq_false_iff_ne.mpr c2
  have c2b1:(a0.toList != ([]:List UInt8))=true:=bne_iff_ne.mpr c2
  by_cases c15:0 < (a0.size:Int)
  ·rw [if_pos c15] at H
   have c15b0:decide (0 < (a0.size:Int))=true:=decide_eq_true c15
   have c15b1:decide (0 < a0.size)=true:=decide_eq_true (by omega)
   clear c15
   by_cases c17:(bt a0 0)=91
   ·rw [if_pos c17] at H
    have c17b0:((bt a0 0)==91)=true:=beq_iff_eq.mpr c17
    have c17b1:((bt a0 0) != 91)=false:=bne_eq_false_iff_eq.mpr c17
    clear c17
    replace H:=Option.bind_eq_some_iff.mp H
    obtain ⟨⟨t150,t151,t152,t153,t154,t155⟩,A180,H⟩:=H
    try dsimp only at H
    have A18:=Aside0.mk A180
    clear A180
    simp only [Option.some.injEq,Prod.mk.injEq] at H
    obtain ⟨rfl,rfl,rfl,rfl,rfl,rfl⟩:=H
    go_enter Try.func15,Try.ntmps15
    go_wp2_with (first|((with_reducible refine gate_dst (N:=2) rfl ?_);refine box_event ?hg (N:=2) ?hd (cs:=#[.int .i64 0,.string (⟨#[]⟩:ByteArray),.int .i64 0,.int .i64 0,.int .i64 0]) (t:=41) ?hr ?_;(case hd => rfl);(case hg => rfl);(case hr => first|(go_simp;done)|(go_simp;rfl));intro gb142 hg w19 hbox hb;have n0_:=Aside0.mk (below_step bl_ hb);have n1_:=Aside0.mk (hbox);have n2_:=Aside0.mk ((by rw [hg];exact (below_size bl_):w.heap.size≤gb142));have n3_:=Aside0.mk ((by rw [hg];exact (below_size bl_):w.heap.size≤gb142));clear HB;have HB:=n0_;have BK142:=n1_;have GW142:=n2_;have GE142:=n3_;clear n0_ n1_ n2_ n3_;clear hb hbox hg;have p16:0≤(0:Int):=(by omega);have q16:0 < a0.size:=(by have:(0:Int) < (a0.size:Int):=od_;omega);have hx16:∀ h:0 < a0.size,((a0[0]'h).toNat:Int)=bt a0 0:=bt_at a0 0;clear p16;have qi16:(0 < (a0.size:Int))=True:=eq_true (od_);replace q16:=eq_true q16)|(refine callA_ (f:=28) (some 20) Try.func28 #[.string a0] ?_;(with_reducible refine (kind_Field.calls k a0 t150 t151 t152 t153 t154 t155 _ ?side1 A18.out).mono ?_);(case side1 => exact ⟨GG.below hG.out bl_⟩);rintro e w20 ⟨rfl,hb⟩;refine ⟨_,rfl,?_⟩;have n0_:=Aside0.mk (blk_below (g:=gb142) (o:=.cells #[.int .i64 0,.string (⟨#[]⟩:ByteArray),.int .i64 0,.int .i64 0,.int .i64 0] 41 (0,0)) bk_ hb);have n1_:=Aside0.mk (below_step bl_ hb);clear BK142;clear HB;have BK142:=n0_;have HB:=n1_;clear n0_ n1_;(try clear hb);(try clear hb2);(try clear hk);(try clear hi))|((with_reducible refine gate_dst (N:=5) rfl ?_);refine box_event ?hg (N:=5) ?hd (cs:=#[.int .i64 0,.string (⟨#[]⟩:ByteArray),.int .i64 0,.int .i64 0,.int .i64 0]) (t:=41) ?hr ?_;(case hd => rfl);(case hg => rfl);(case hr => first|(go_simp;done)|(go_simp;rfl));intro gb156 hg w21 hbox hb;have n0_:=Aside0.mk (blk_below (g:=gb142) (o:=.cells #[.int .i64 0,.string (⟨#[]⟩:ByteArray),.int .i64 0,.int .i64 0,.int .i64 0] 41 (0,0)) bk_ hb);have n1_:=Aside0.mk (below_step bl_ hb);have n2_:=Aside0.mk (hbox);have n3_:=Aside0.mk ((by rw [hg];exact (below_size bl_):w.heap.size≤gb156));have n4_:=Aside0.mk ((by rw [hg];exact (below_size bl_):w.heap.size≤gb156));have n5_:=Aside0.mk ((by rw [hg];exact Nat.ne_of_lt (blk_lt (g:=gb142) (o:=.cells #[.int .i64 0,.string (⟨#[]⟩:ByteArray),.int .i64 0,.int .i64 0,.int .i64 0] 41 (0,0)) bk_):gb142 ≠ gb156));have n6_:=Aside0.mk ((by rw [hg];exact Nat.ne_of_gt (blk_lt (g:=gb142) (o:=.cells #[.int .i64 0,.string (⟨#[]⟩:ByteArray),.int .i64 0,.int .i64 0,.int .i64 0] 41 (0,0)) bk_):gb156 ≠ gb142));clear BK142;clear HB;have BK142:=n0_;have HB:=n1_;have BK156:=n2_;have GW156:=n3_;have GE156:=n4_;have NB142_156:=n5_;have NB156_142:=n6_;clear n0_ n1_ n2_ n3_ n4_ n5_ n6_;clear hb hbox hg;have hnb22:=NB156_142.out;have hnc22:=NB142_156.out;obtain ⟨hcz23_0,hcz23_1,hcz23_2,hcz23_3,hcz23_4,hfz23_0,hfz23_1,hfz23_2,hfz23_3,hfz23_4⟩:=blk5_ BK156.out)|((with_reducible refine gate_store (t:=41) (p:=5) rfl ?_);refine store_event (t:=41) (p:=5) (v:=?vo_w24) (w1:=(((((w21.setCell ⟨gb156,0,none⟩ (.int .i64 t150)).setCell ⟨gb156,1,none⟩ (.string t151)).setCell ⟨gb156,2,none⟩ (.int .i64 t152)).setCell ⟨gb156,3,none⟩ (.int .i64 t153)).setCell ⟨gb156,4,none⟩ (.int .i64 t154))) ?hg ?ho ?hn ?hr ?_;(case ho => rfl);(case hg => rfl);(case hn => rfl);(case hr => first|(go_simp;done)|(go_simp;rfl));intro w24 hw;have n0_:Aside0 (w24.heap[gb142]?=some (.cells #[.int .i64 0,.string (⟨#[]⟩:ByteArray),.int .i64 0,.int .i64 0,.int .i64 0] 41 (0,0))):=⟨(by rw [hw];exact bk_)⟩;have n1_:Aside0 (w24.heap[gb156]?=some (.cells #[.int .i64 t150,.string t151,.int .i64 t152,.int .i64 t153,.int .i64 t154] 41 (0,0))):=⟨(by rw [hw];exact (st5_ BK156.out))⟩;have n2_:Aside0 (Below w.heap.size w w24):=⟨(by rw [hw];exact bl_)⟩;clear hw;clear BK142;clear BK156;clear HB;have BK142:=n0_;have BK156:=n1_;have HB:=n2_;clear n0_ n1_ n2_;obtain ⟨hcz25_0,hcz25_1,hcz25_2,hcz25_3,hcz25_4,hfz25_0,hfz25_1,hfz25_2,hfz25_3,hfz25_4⟩:=blk5_ BK156.out;obtain ⟨hcz26_0,hcz26_1,hcz26_2,hcz26_3,hcz26_4,hfz26_0,hfz26_1,hfz26_2,hfz26_3,hfz26_4⟩:=blk5_ BK142.out)|((with_reducible refine gate_store (t:=41) (p:=2) rfl ?_);refine store_event (t:=41) (p:=2) (v:=?vo_w27) (w1:=(((((w24.setCell ⟨gb142,0,none⟩ (.int .i64 t150)).setCell ⟨gb142,1,none⟩ (.string t151)).setCell ⟨gb142,2,none⟩ (.int .i64 t152)).setCell ⟨gb142,3,none⟩ (.int .i64 t153)).setCell ⟨gb142,4,none⟩ (.int .i64 t154))) ?hg ?ho ?hn ?hr ?_;(case ho => rfl);(case hg => rfl);(case hn => rfl);(case hr => first|(go_simp;done)|(go_simp;rfl));intro w27 hw;have n0_:Aside0 (w27.heap[gb142]?=some (.cells #[.int .i64 t150,.string t151,.int .i64 t152,.int .i64 t153,.int .i64 t154] 41 (0,0))):=⟨(by rw [hw];exact (st5_ BK142.out))⟩;have n1_:Aside0 (w27.heap[gb156]?=some (.cells #[.int .i64 t150,.string t151,.int .i64 t152,.int .i64 t153,.int .i64 t154] 41 (0,0))):=⟨(by rw [hw];exact bk_)⟩;have n2_:Aside0 (Below w.heap.size w w27):=⟨(by rw [hw];exact bl_)⟩;clear hw;clear BK142;clear BK156;clear HB;have BK142:=n0_;have BK156:=n1_;have HB:=n2_;clear n0_ n1_ n2_))
    refine bodyPost_ret (results_ct rfl _ _ gb142 41 #[.int .i64 t150,.string t151,.int .i64 t152,.int .i64 t153,.int .i64 t154] (0,0) _ rfl bk_ Try.underlying41 rfl (by kernel_rfl)) rfl ?_
    exact ⟨ew_,bl_⟩
   ·rw [if_neg c17] at H
    have c17b0:((bt a0 0)==91)=false:=beq_eq_false_iff_ne.mpr c17
    have c17b1:((bt a0 0) != 91)=true:=bne_iff_ne.mpr c17
    by_cases c28:1 + a0.size≤9223372036854775807
    ·rw [if_pos c28] at H
     have c28b0:=eq_true c28
     have c28b1:decide (1 + a0.size≤9223372036854775807)=true:=decide_eq_true c28
     try have c28b2:(9223372036854775807 < 1 + a0.size)=False:=eq_false (Nat.not_lt.2 c28)
     by_cases c29:((⟨#[76]⟩:ByteArray)++a0).size + 1≤9223372036854775807
     ·rw [if_pos c29] at H
      have c29b0:=eq_true c29
      have c29b1:decide (((⟨#[76]⟩:ByteArray)++a0).size + 1≤9223372036854775807)=true:=decide_eq_true c29
      have c29n:1 + a0.size + 1≤9223372036854775807:=by have h_:=c29;rw [ByteArray.size_append] at h_;exact h_
      have c29n0:=eq_true c29n
      have c29n1:decide (1 + a0.size + 1≤9223372036854775807)=true:=decide_eq_true c29n
      try have c29n2:(9223372036854775807 < 1 + a0.size + 1)=False:=eq_false (Nat.not_lt.2 c29n)
      try have c29b2:(9223372036854775807 < ((⟨#[76]⟩:ByteArray)++a0).size + 1)=False:=eq_false (Nat.not_lt.2 c29)
      replace H:=Option.bind_eq_some_iff.mp H
      obtain ⟨⟨t157,t158,t159,t160,t161,t162⟩,A300,H⟩:=H
      try dsimp only at H
      have A30:=Aside0.mk A300
      clear A300
      simp only [Option.some.injEq,Prod.mk.injEq] at H
      obtain ⟨rfl,rfl,rfl,rfl,rfl,rfl⟩:=H
      go_enter Try.func15,Try.ntmps15
      go_wp2_with (first|((with_reducible refine gate_dst (N:=2) rfl ?_);refine box_event ?hg (N:=2) ?hd (cs:=#[.int .i64 0,.string (⟨#[]⟩:ByteArray),.int .i64 0,.int .i64 0,.int .i64 0]) (t:=41) ?hr ?_;(case hd => rfl);(case hg => rfl);(case hr => first|(go_simp;done)|(go_simp;rfl));intro gb142 hg w31 hbox hb;have n0_:=Aside0.mk (below_step bl_ hb);have n1_:=Aside0.mk (hbox);have n2_:=Aside0.mk ((by rw [hg];exact (below_size bl_):w.heap.size≤gb142));have n3_:=Aside0.mk ((by rw [hg];exact (below_size bl_):w.heap.size≤gb142));clear HB;have HB:=n0_;have BK142:=n1_;have GW142:=n2_;have GE142:=n3_;clear n0_ n1_ n2_ n3_;clear hb hbox hg;have p16:0≤(0:Int):=(by omega);have q16:0 < a0.size:=(by have:(0:Int) < (a0.size:Int):=od_;omega);have hx16:∀ h:0 < a0.size,((a0[0]'h).toNat:Int)=bt a0 0:=bt_at a0 0;clear p16;have qi16:(0 < (a0.size:Int))=True:=eq_true (od_);replace q16:=eq_true q16)|(refine callA_ (f:=28) (some 20) Try.func28 #[.string (((⟨#[76]⟩:ByteArray)++a0)++(⟨#[59]⟩:ByteArray))] ?_;(with_reducible refine (kind_Field.calls k (((⟨#[76]⟩:ByteArray)++a0)++(⟨#[59]⟩:ByteArray)) t157 t158 t159 t160 t161 t162 _ ?side1 A30.out).mono ?_);(case side1 => exact ⟨GG.below hG.out bl_⟩);rintro e w32 ⟨rfl,hb⟩;refine ⟨_,rfl,?_⟩;have n0_:=Aside0.mk (blk_below (g:=gb142) (o:=.cells #[.int .i64 0,.string (⟨#[]⟩:ByteArray),.int .i64 0,.int .i64 0,.int .i64 0] 41 (0,0)) bk_ hb);have n1_:=Aside0.mk (below_step bl_ hb);clear BK142;clear HB;have BK142:=n0_;have HB:=n1_;clear n0_ n1_;(try clear hb);(try clear hb2);(try clear hk);(try clear hi))|((with_reducible refine gate_dst (N:=5) rfl ?_);refine box_event ?hg (N:=5) ?hd (cs:=#[.int .i64 0,.string (⟨#[]⟩:ByteArray),.int .i64 0,.int .i64 0,.int .i64 0]) (t:=41) ?hr ?_;(case hd => rfl);(case hg => rfl);(case hr => first|(go_simp;done)|(go_simp;rfl));intro gb163 hg w33 hbox hb;have n0_:=Aside0.mk (blk_below (g:=gb142) (o:=.cells #[.int .i64 0,.string (⟨#[]⟩:ByteArray),.int .i64 0,.int .i64 0,.int .i64 0] 41 (0,0)) bk_ hb);have n1_:=Aside0.mk (below_step bl_ hb);have n2_:=Aside0.mk (hbox);have n3_:=Aside0.mk ((by rw [hg];exact (below_size bl_):w.heap.size≤gb163));have n4_:=Aside0.mk ((by rw [hg];exact (below_size bl_):w.heap.size≤gb163));have n5_:=Aside0.mk ((by rw [hg];exact Nat.ne_of_lt (blk_lt (g:=gb142) (o:=.cells #[.int .i64 0,.string (⟨#[]⟩:ByteArray),.int .i64 0,.int .i64 0,.int .i64 0] 41 (0,0)) bk_):gb142 ≠ gb163));have n6_:=Aside0.mk ((by rw [hg];exact Nat.ne_of_gt (blk_lt (g:=gb142) (o:=.cells #[.int .i64 0,.string (⟨#[]⟩:ByteArray),.int .i64 0,.int .i64 0,.int .i64 0] 41 (0,0)) bk_):gb163 ≠ gb142));clear BK142;clear HB;have BK142:=n0_;have HB:=n1_;have BK163:=n2_;have GW163:=n3_;have GE163:=n4_;have NB142_163:=n5_;have NB163_142:=n6_;clear n0_ n1_ n2_ n3_ n4_ n5_ n6_;clear hb hbox hg;have hnb34:=NB163_142.out;have hnc34:=NB142_163.out;obtain ⟨hcz35_0,hcz35_1,hcz35_2,hcz35_3,hcz35_4,hfz35_0,hfz35_1,hfz35_2,hfz35_3,hfz35_4⟩:=blk5_ BK163.out)|((with_reducible refine gate_store (t:=41) (p:=5) rfl ?_);refine store_event (t:=41) (p:=5) (v:=?vo_w36) (w1:=(((((w33.setCell ⟨gb163,0,none⟩ (.int .i64 t157)).setCell ⟨gb163,1,none⟩ (.string t158)).setCell ⟨gb163,2,none⟩ (.int .i64 t159)).setCell ⟨gb163,3,none⟩ (.int .i64 t160)).setCell ⟨gb163,4,none⟩ (.int .i64 t161))) ?hg ?ho ?hn ?hr ?_;(case ho => rfl);(case hg => rfl);(case hn => rfl);(case hr => first|(go_simp;done)|(go_simp;rfl));intro w36 hw;have n0_:Aside0 (w36.heap[gb142]?=some (.cells #[.int .i64 0,.string (⟨#[]⟩:ByteArray),.int .i64 0,.int .i64 0,.int .i64 0] 41 (0,0))):=⟨(by rw [hw];exact bk_)⟩;have n1_:Aside0 (w36.heap[gb163]?=some (.cells #[.int .i64 t157,.string t158,.int .i64 t159,.int .i64 t160,.int .i64 t161] 41 (0,0))):=⟨(by rw [hw];exact (st5_ BK163.out))⟩;have n2_:Aside0 (Below w.heap.size w w36):=⟨(by rw [hw];exact bl_)⟩;clear hw;clear BK142;clear BK163;clear HB;have BK142:=n0_;have BK163:=n1_;have HB:=n2_;clear n0_ n1_ n2_;obtain ⟨hcz37_0,hcz37_1,hcz37_2,hcz37_3,hcz37_4,hfz37_0,hfz37_1,hfz37_2,hfz37_3,hfz37_4⟩:=blk5_ BK163.out;obtain ⟨hcz38_0,hcz38_1,hcz38_2,hcz38_3,hcz38_4,hfz38_0,hfz38_1,hfz38_2,hfz38_3,hfz38_4⟩:=blk5_ BK142.out)|((with_reducible refine gate_store (t:=41) (p:=2) rfl ?_);refine store_event (t:=41) (p:=2) (v:=?vo_w39) (w1:=(((((w36.setCell ⟨gb142,0,none⟩ (.int .i64 t157)).setCell ⟨gb142,1,none⟩ (.string t158)).setCell ⟨gb142,2,none⟩ (.int .i64 t159)).setCell ⟨gb142,3,none⟩ (.int .i64 t160)).setCell ⟨gb142,4,none⟩ (.int .i64 t161))) ?hg ?ho ?hn ?hr ?_;(case ho => rfl);(case hg => rfl);(case hn => rfl);(case hr => first|(go_simp;done)|(go_simp;rfl));intro w39 hw;have n0_:Aside0 (w39.heap[gb142]?=some (.cells #[.int .i64 t157,.string t158,.int .i64 t159,.int .i64 t160,.int .i64 t161] 41 (0,0))):=⟨(by rw [hw];exact (st5_ BK142.out))⟩;have n1_:Aside0 (w39.heap[gb163]?=some (.cells #[.int .i64 t157,.string t158,.int .i64 t159,.int .i64 t160,.int .i64 t161] 41 (0,0))):=⟨(by rw [hw];exact bk_)⟩;have n2_:Aside0 (Below w.heap.size w w39):=⟨(by rw [hw];exact bl_)⟩;clear hw;clear BK142;clear BK163;clear HB;have BK142:=n0_;have BK163:=n1_;have HB:=n2_;clear n0_ n1_ n2_))
      refine bodyPost_ret (results_ct rfl _ _ gb142 41 #[.int .i64 t157,.string t158,.int .i64 t159,.int .i64 t160,.int .i64 t161] (0,0) _ rfl bk_ Try.underlying41 rfl (by kernel_rfl)) rfl ?_
      exact ⟨ew_,bl_⟩
     ·rw [if_neg c29] at H
      exact absurd H (by simp)
    ·rw [if_neg c28] at H
     exact absurd H (by simp)
  ·rw [if_neg c15] at H
   exact absurd H (by simp)
end Go.Proofs.Ytnihihcopcoabaa.Px
namespace Go.Proofs.Ytnihihcopcoabaa.Px
open Go.RowKit Go.Proofs.YtnihihcopcoabaaW.PrintWords Go.Proofs.YtnihihcopcoabaaW.PrintLast Go.Proofs.YtnihihcopcoabaaW.PrintMore
set_option linter.unusedVariables false
set_option linter.unusedSimpArgs false
abbrev Cst:=S70
abbrev Typ:=S41
section
variable {P:Program} {ops:Array Oper} {Q:Exit→Act→World→Prop}
theorem goesV_ {oi : Oper} {N : Option Tmp} {a : Act} {w : World} {K : Act → World → Prop} {f : FuncId} {fn : Func} {o : Operand} {ars : Array Operand} {ts : Array TypeId} {caps : Array Value} (hf : P.funcs[f]? = some fn) (hname : (fn.name == "runtime.NumGoroutine") = false) (hb : fn.body.isSome = true) (args : Array Value)
  (hw:Region.wanted oi (yielded ops a.tmps)=true) (hN:oi.dst=N) (hop:oi.op=.call { callee:=.value o,args:=ars,argTypes:=ts }) (hv:a.eval o=.func (.func f) #[] caps) (hargs:ars.map a.eval++caps=args)
  (h:Calls P f args w fun e w' => ∃ v,e=.returned v∧K (a.put N v) w'):if Region.wanted oi (yielded ops a.tmps)=true then Oper.wp P oi a w K Q else K (a.put N undef) w:=by
 refine call_ f args hw hN ?_ h
 have he:=enters_ hf hname hb args w
 unfold execOp
 simp [hop,resolve,Deferred.ofValue,invoke,hv,hargs,he]
theorem diesV_ {oi : Oper} {N : Option Tmp} {a : Act} {w : World} {K : Act → World → Prop} {f : FuncId} {fn : Func} {o : Operand} {ars : Array Operand} {ts : Array TypeId} {caps : Array Value} (hf : P.funcs[f]? = some fn) (hname : (fn.name == "runtime.NumGoroutine") = false) (hb : fn.body.isSome = true) (args : Array Value)
  (hw:Region.wanted oi (yielded ops a.tmps)=true) (hN:oi.dst=N) (hop:oi.op=.call { callee:=.value o,args:=ars,argTypes:=ts }) (hv:a.eval o=.func (.func f) #[] caps) (hargs:ars.map a.eval++caps=args)
  (h:Calls P f args w fun e w' => ∃ c,e=.panicked c∧Q (.panic c) a w'):if Region.wanted oi (yielded ops a.tmps)=true then Oper.wp P oi a w K Q else K (a.put N undef) w:=by
 rw [if_pos hw]
 have he:=enters_ hf hname hb args w
 have hrun:(execOp a.eval oi).run P w=.ok (.enter f args) w:=by
  unfold execOp
  simp [hop,resolve,Deferred.ofValue,invoke,hv,hargs,he]
 unfold Oper.wp
 rw [hrun,Oper.upon_enter]
 refine h.mono fun e w'' hh => ?_
 obtain ⟨v,rfl,hk⟩:=hh
 exact hk
end
abbrev fNum (br:Nat):Value:=.func (.func 10) #[] #[.pointer (some ⟨br,0,none⟩)]
abbrev fMust:Value:=.func (.func 12) #[] #[]
structure MeAt (w:World) (br bn bm bp:Nat) (vp:Value):Prop where
 kn:w.heap[bn]?=some (.cells #[fNum br] 38 (0,0))
 km:w.heap[bm]?=some (.cells #[fMust] 39 (0,0))
 kp:w.heap[bp]?=some (.cells #[vp] 22 (0,0))
structure IsMe (B:Nat) (w:World) (br g:Nat) (bs:List Int) (p bn bm bp:Nat) (vp:Value):Prop where
 M:IsMs B w br g bs p
 E:MeAt w br bn bm bp vp
section
variable {B:Nat} {w w':World} {br g:Nat} {bs:List Int} {p p' bn bm bp:Nat} {vp:Value}
theorem MeAt.below (h:MeAt w br bn bm bp vp) (hb:Below w.heap.size w w'):MeAt w' br bn bm bp vp:=⟨(hb.block _ (blk_lt h.kn)).trans h.kn,(hb.block _ (blk_lt h.km)).trans h.km,(hb.block _ (blk_lt h.kp)).trans h.kp⟩
theorem IsMe.below (h:IsMe B w br g bs p bn bm bp vp) (hb:Below w.heap.size w w'):IsMe B w' br g bs p bn bm bp vp:=⟨h.M.below hb,h.E.below hb⟩
theorem IsMe.step (h:IsMe B w br g bs p bn bm bp vp) (hR:MsPost B w br g bs p' w'):IsMe B w' br g bs p' bn bm bp vp:=by
 obtain ⟨v,hb,_⟩:=id h.M.R.blk
 exact ⟨hR.1,⟨hR.2.blk (blk_ne h.E.kn hb (by decide)) h.E.kn,hR.2.blk (blk_ne h.E.km hb (by decide)) h.E.km,hR.2.blk (blk_ne h.E.kp hb (by decide)) h.E.kp⟩⟩
theorem IsMe.cn (h:IsMe B w br g bs p bn bm bp vp):w.cell? ⟨bn,0,none⟩=some (fNum br):=(blk_cell h.E.kn 0).trans rfl
theorem IsMe.cm (h:IsMe B w br g bs p bn bm bp vp):w.cell? ⟨bm,0,none⟩=some fMust:=(blk_cell h.E.km 0).trans rfl
theorem IsMe.cp (h:IsMe B w br g bs p bn bm bp vp):w.cell? ⟨bp,0,none⟩=some vp:=(blk_cell h.E.kp 0).trans rfl
end
def ms_kind.f (k:Nat) (pl:List Cst) (bs:List Int) (t:Int) (p:Nat):Option (Rdo Typ) :=
 if t=0 then some (.ok z41 p) else if t=1 then some (.ok ⟨1,⟨#[]⟩,0,0,0⟩ p) else if t=4 then some (.ok ⟨2,⟨#[]⟩,0,0,0⟩ p) else if t=5 then some (.ok ⟨3,⟨#[]⟩,0,0,0⟩ p) else if t=6 then some (.ok ⟨7,⟨#[]⟩,0,0,0⟩ p)
 else if t=7 then (ms_num.f k bs p 2).bind fun o => o.bind fun i p2 => (pool_Class.f pl i).bind fun c => (maps_Type.f k c.1).bind fun y => some (if c.2=true∧y.2.2.2.2.2=true then .ok ⟨y.1,y.2.1,y.2.2.1,y.2.2.2.1,y.2.2.2.2.1⟩ p2 else .er 100)
 else if t=8 then (ms_num.f k bs p 2).bind fun o => o.bind fun i p2 => some (if i≤4096 then .ok ⟨6,⟨#[]⟩,0,0,i⟩ p2 else .er 100)
 else some (.er 100)
def ms_one.f (k:Nat) (pl:List Cst) (bs:List Int) (p:Nat):Option (Rdo Typ):=(ms_num.f k bs p 1).bind fun o => o.bind fun t q => ms_kind.f k pl bs t q
abbrev typV (x:Typ):Value:=.agg #[.int .i64 x.f0,.string x.f1,.int .i64 x.f2,.int .i64 x.f3,.int .i64 x.f4]
def OnePost (B:Nat) (w:World) (br g:Nat) (bs:List Int) (o:Rdo Typ) (e:Ending) (w':World):Prop:=match o with
 | .ok x p => e=.returned (typV x)∧MsPost B w br g bs p w'
 | .er n => Dies B w n e w'
abbrev Z5t:Array Value:=#[.int .i64 0,.string (⟨#[]⟩:ByteArray),.int .i64 0,.int .i64 0,.int .i64 0]
structure OnSt (B:Nat) (w W:World) (br g:Nat) (bs:List Int) (p bn bm bp:Nat) (vp:Value) (gr:Nat):Prop where
 I:IsMe B W br g bs p bn bm bp vp
 C:RdStep B w W g
 k:W.heap[gr]?=some (.cells Z5t 41 (0,0))
 h:w.heap.size≤gr
 lt:g < w.heap.size
 hB:B≤w.heap.size
section
variable {B:Nat} {w W W':World} {br g:Nat} {bs:List Int} {p p' bn bm bp gr:Nat} {vp:Value}
theorem OnSt.step (h:OnSt B w W br g bs p bn bm bp vp gr) (hR:MsPost B W br g bs p' W'):OnSt B w W' br g bs p' bn bm bp vp gr :=
 ⟨h.I.step hR,h.C.trans hR.2,hR.2.blk (by have:=h.h;have:=h.lt;omega) h.k,h.h,h.lt,h.hB⟩
theorem RdStep.of_below (hb:Below W.heap.size W W') (hB:B≤W.heap.size):RdStep B W W' g:=⟨hb.mono hB,KeepBut.of_below hb _ _⟩
theorem OnSt.new (h:OnSt B w W br g bs p bn bm bp vp gr) (hb:Below W.heap.size W W'):OnSt B w W' br g bs p bn bm bp vp gr :=
 ⟨h.I.below hb,h.C.trans (RdStep.of_below hb h.I.M.R.base_le),(hb.block _ (blk_lt h.k)).trans h.k,h.h,h.lt,h.hB⟩
theorem OnSt.fin (h:OnSt B w W br g bs p bn bm bp vp gr) (u0 u1 u2 u3 u4:Value):MsPost B w br g bs p (((((W.setCell ⟨gr,0,none⟩ u0).setCell ⟨gr,1,none⟩ u1).setCell ⟨gr,2,none⟩ u2).setCell ⟨gr,3,none⟩ u3).setCell ⟨gr,4,none⟩ u4):=by
 have one:∀ (W:World) (cs:Array Value) (j:Nat) (u:Value),MsPost B w br g bs p W→W.heap[gr]?=some (.cells cs 41 (0,0))→MsPost B w br g bs p (W.setCell ⟨gr,j,none⟩ u):=fun W cs j u hM hk =>
  ⟨⟨hM.1.R.far hk (by decide) (by decide) j u,blk_far hM.1.blk (blk_ne hM.1.blk hk (by decide)) u⟩,⟨hM.2.below.setCell (p:=⟨gr,j,none⟩) (by have:=h.h;have:=h.hB;show B≤gr;omega) u,keep_far hM.2.keep h.h _⟩⟩
 exact one _ _ 4 _ (one _ _ 3 _ (one _ _ 2 _ (one _ _ 1 _ (one _ _ 0 u0 ⟨h.I.M,h.C⟩ h.k) (blk_set h.k 0 u0)) (blk_set (blk_set h.k 0 u0) 1 u1)) (blk_set (blk_set (blk_set h.k 0 u0) 1 u1) 2 u2)) (blk_set (blk_set (blk_set (blk_set h.k 0 u0) 1 u1) 2 u2) 3 u3)
end
set_option maxHeartbeats 16000000 in
set_option maxRecDepth 100000 in
theorem ms_one.calls {k B br g:Nat} {bs:List Int} {p bn bm bp:Nat} {Ap:Option Addr} {cp:Nat} {pl:List Cst} {o:Rdo Typ} {w:World} (hG:Aside0 (∀ w',Below B w w'→GG w')) (hI:IsMe B w br g bs p bn bm bp (.slice Ap pl.length cp)) (hl:bs.length≤140737488355328) (hP:∀ w',RdStep B w w' g→Kd.C k70 w' Ap pl.length pl) (hPC:pl.length≤cp) (h:ms_one.f k pl bs p=some o) :
  Calls Try.prog 13 #[.pointer (some ⟨bn,0,none⟩),.pointer (some ⟨bp,0,none⟩),.pointer (some ⟨bm,0,none⟩)] w fun e w' => OnePost B w br g bs o e w':=by
 have hu:=Try.underlying41
 have HI:=Aside0.mk hI
 have HL:=Aside0.mk hl
 have HP:=Aside0.mk hP
 have HPC:=Aside0.mk hPC
 obtain ⟨ot,ht,h⟩:=Option.bind_eq_some_iff.mp h
 have HT:=Aside0.mk ht
 have HH:=Aside0.mk h
 clear hI hl hP hPC ht h
 go_enter Try.func13,Try.ntmps13
 go_upto_region 1 with fail
 obtain ⟨W,hW⟩:∃ W,W=w.alloc (.cells Z5t 41 (0,0)):=⟨_,rfl⟩
 obtain ⟨gr,hgr⟩:∃ gr,gr=w.heap.size:=⟨_,rfl⟩
 rw [← hW,← hgr]
 have hb:Below w.heap.size w W:=by rw [hW];exact below_alloc (Below.refl _ _) _
 have HS:Aside0 (OnSt B w W br g bs p bn bm bp (.slice Ap pl.length cp) gr):=⟨HI.out.below hb,RdStep.of_below hb HI.out.M.R.base_le,by rw [hW,hgr];exact blk_new _ _,by rw [hgr];exact Nat.le_refl _,HI.out.M.R.lt,HI.out.M.R.base_le⟩
 clear hW hgr hb HI
 have cn:=HS.out.I.cn
 go_wp2_with fail
 refine (ms_num.calls (n:=1) HS.out.I.M (by decide) (by decide) HL.out HT.out).mono ?_
 clear HT
 cases ot with
 | er n =>
  obtain rfl:=Option.some.inj HH.out
  rintro _ W1 ⟨rfl,hb1⟩
  have HB1:=Aside0.mk (HS.out.C.below.trans hb1)
  clear hb1 HH HS cn
  go_wp2
  exact ⟨rfl,rfl,HB1.out⟩
 | ok t q =>
 rintro _ W1 ⟨rfl,hR⟩
 have HS1:=Aside0.mk (HS.out.step hR)
 have h:=HH.out
 clear hR HS HH cn
 change ms_kind.f k pl bs t q=some o at h
 unfold ms_kind.f at h
 by_cases q0:t=0
 ·rw [if_pos q0] at h
  obtain rfl:=Option.some.inj h
  have b0:(t==0)=true:=beq_iff_eq.mpr q0
  clear h q0 
  obtain ⟨g0,g1,g2,g3,g4,f0,f1,f2,f3,f4⟩:=blk5_ HS1.out.k
  go_wp2
  refine bodyPost_ret (results_cell_row rfl _ _ gr 41 _ (0,0) _ rfl (st5_ HS1.out.k) hu rfl (by kernel_rfl)) rfl ?_
  exact ⟨rfl,HS1.out.fin _ _ _ _ _⟩
 rw [if_neg q0] at h
 have b0:(t==0)=false:=beq_eq_false_iff_ne.mpr q0
 by_cases q1:t=1
 ·rw [if_pos q1] at h
  obtain rfl:=Option.some.inj h
  have b1:(t==1)=true:=beq_iff_eq.mpr q1
  clear h q1 q0
  obtain ⟨g0,g1,g2,g3,g4,f0,f1,f2,f3,f4⟩:=blk5_ HS1.out.k
  go_wp2
  refine bodyPost_ret (results_cell_row rfl _ _ gr 41 _ (0,0) _ rfl (st5_ HS1.out.k) hu rfl (by kernel_rfl)) rfl ?_
  exact ⟨rfl,HS1.out.fin _ _ _ _ _⟩
 rw [if_neg q1] at h
 have b1:(t==1)=false:=beq_eq_false_iff_ne.mpr q1
 by_cases q4:t=4
 ·rw [if_pos q4] at h
  obtain rfl:=Option.some.inj h
  have b4:(t==4)=true:=beq_iff_eq.mpr q4
  clear h q4 q0 q1
  obtain ⟨g0,g1,g2,g3,g4,f0,f1,f2,f3,f4⟩:=blk5_ HS1.out.k
  go_wp2
  refine bodyPost_ret (results_cell_row rfl _ _ gr 41 _ (0,0) _ rfl (st5_ HS1.out.k) hu rfl (by kernel_rfl)) rfl ?_
  exact ⟨rfl,HS1.out.fin _ _ _ _ _⟩
 rw [if_neg q4] at h
 have b4:(t==4)=false:=beq_eq_false_iff_ne.mpr q4
 by_cases q5:t=5
 ·rw [if_pos q5] at h
  obtain rfl:=Option.some.inj h
  have b5:(t==5)=true:=beq_iff_eq.mpr q5
  clear h q5 q0 q1 q4
  obtain ⟨g0,g1,g2,g3,g4,f0,f1,f2,f3,f4⟩:=blk5_ HS1.out.k
  go_wp2
  refine bodyPost_ret (results_cell_row rfl _ _ gr 41 _ (0,0) _ rfl (st5_ HS1.out.k) hu rfl (by kernel_rfl)) rfl ?_
  exact ⟨rfl,HS1.out.fin _ _ _ _ _⟩
 rw [if_neg q5] at h
 have b5:(t==5)=false:=beq_eq_false_iff_ne.mpr q5
 by_cases q6:t=6
 ·rw [if_pos q6] at h
  obtain rfl:=Option.some.inj h
  have b6:(t==6)=true:=beq_iff_eq.mpr q6
  clear h q6 q0 q1 q4 q5
  obtain ⟨g0,g1,g2,g3,g4,f0,f1,f2,f3,f4⟩:=blk5_ HS1.out.k
  go_wp2
  refine bodyPost_ret (results_cell_row rfl _ _ gr 41 _ (0,0) _ rfl (st5_ HS1.out.k) hu rfl (by kernel_rfl)) rfl ?_
  exact ⟨rfl,HS1.out.fin _ _ _ _ _⟩
 rw [if_neg q6] at h
 have b6:(t==6)=false:=beq_eq_false_iff_ne.mpr q6
 by_cases q7:t=7
 ·rw [if_pos q7] at h
  have b7:(t==7)=true:=beq_iff_eq.mpr q7
  clear q7 q0 q1 q4 q5 q6
  obtain ⟨oi,hi,h⟩:=Option.bind_eq_some_iff.mp h
  have HT:=Aside0.mk hi
  have HH:=Aside0.mk h
  clear hi h
  go_upto_region 13 with fail
  clear b0 b1 b4 b5 b6 b7
  have G0:=Aside0.mk (HS1.out.new (below_drew (Below.refl _ _)))
  have cn0:=G0.out.I.cn
  have cp0:=G0.out.I.cp
  cases oi with
  | er n =>
   obtain rfl:=Option.some.inj HH.out
   clear HH HS1
   refine start_ (n:=9) (S:=fun w' => w'.cell? ⟨bp,0,none⟩=some (.slice Ap pl.length cp)∧w'.cell? ⟨bn,0,none⟩=some (fNum br)) (ds:=[]) #[false,false,false,false,false,false,false,false,false] (by kernel_rfl) rfl rfl ⟨cp0,cn0⟩ (fun hHeld => ?_)
   refine take_ (i:=0) (N:=some 29) (v:=?_) (a':=?_) #[true,false,false,false,false,false,false,false,false] rfl rfl (by kernel_rfl) (fun _ _ _ h => h) (Or.inl ⟨by rfl,?_⟩) hHeld ?_ ?_
   rotate_left
   ·rintro w' ⟨s0,s1⟩
    go_simp
    with_reducible rfl
   rotate_left
   ·simp only [Act.put,List.setIfInBounds_toArray,List.set_cons_zero,List.set_cons_succ,i64_w,i32_w]
    rfl
   refine take_ (i:=1) (N:=some 30) (v:=?_) (a':=?_) #[true,true,false,false,false,false,false,false,false] rfl rfl (by kernel_rfl) (fun _ _ _ h => h) (Or.inl ⟨by rfl,?_⟩) hHeld ?_ ?_
   rotate_left
   ·rintro w' ⟨s0,s1⟩
    go_simp
    with_reducible rfl
   rotate_left
   ·simp only [Act.put,List.setIfInBounds_toArray,List.set_cons_zero,List.set_cons_succ,i64_w,i32_w]
    rfl
   refine one_ (i:=2) (N:=some 31) #[true,true,true,false,false,false,false,false,false] rfl rfl (by kernel_rfl) (by decide) (fun K hK => ?_)
   refine diesV_ Try.func10 (by kernel_rfl) rfl #[.int .i64 2,.pointer (some ⟨br,0,none⟩)] (by rfl) rfl rfl (by rfl) (by simp only [List.map_toArray,List.map_cons,List.map_nil];rfl) ?_
   refine (ms_num.calls (n:=2) G0.out.I.M (by decide) (by decide) HL.out HT.out).mono ?_
   rintro _ W2 ⟨rfl,hR⟩
   refine ⟨_,rfl,?_⟩
   exact ⟨rfl,rfl,G0.out.C.below.trans hR⟩
  | ok i p2 =>
  obtain ⟨⟨c1,c2⟩,hc,h⟩:=Option.bind_eq_some_iff.mp HH.out
  obtain ⟨⟨y1,y2,y3,y4,y5,y6⟩,hy,h⟩:=Option.bind_eq_some_iff.mp h
  have HC:=Aside0.mk hc
  have HY:=Aside0.mk hy
  have HO:=Aside0.mk (Option.some.inj h)
  clear hc hy h HH HS1
  refine start_ (n:=9) (S:=fun w' => w'.cell? ⟨bp,0,none⟩=some (.slice Ap pl.length cp)∧w'.cell? ⟨bn,0,none⟩=some (fNum br)) (ds:=[]) #[false,false,false,false,false,false,false,false,false] (by kernel_rfl) rfl rfl ⟨cp0,cn0⟩ (fun hHeld => ?_)
  refine take_ (i:=0) (N:=some 29) (v:=?_) (a':=?_) #[true,false,false,false,false,false,false,false,false] rfl rfl (by kernel_rfl) (fun _ _ _ h => h) (Or.inl ⟨by rfl,?_⟩) hHeld ?_ ?_
  rotate_left
  ·rintro w' ⟨s0,s1⟩
   go_simp
   with_reducible rfl
  rotate_left
  ·simp only [Act.put,List.setIfInBounds_toArray,List.set_cons_zero,List.set_cons_succ,i64_w,i32_w]
   rfl
  refine take_ (i:=1) (N:=some 30) (v:=?_) (a':=?_) #[true,true,false,false,false,false,false,false,false] rfl rfl (by kernel_rfl) (fun _ _ _ h => h) (Or.inl ⟨by rfl,?_⟩) hHeld ?_ ?_
  rotate_left
  ·rintro w' ⟨s0,s1⟩
   go_simp
   with_reducible rfl
  rotate_left
  ·simp only [Act.put,List.setIfInBounds_toArray,List.set_cons_zero,List.set_cons_succ,i64_w,i32_w]
   rfl
  refine one_ (i:=2) (N:=some 31) #[true,true,true,false,false,false,false,false,false] rfl rfl (by kernel_rfl) (by decide) (fun K hK => ?_)
  refine goesV_ Try.func10 (by kernel_rfl) rfl #[.int .i64 2,.pointer (some ⟨br,0,none⟩)] (by rfl) rfl rfl (by rfl) (by simp only [List.map_toArray,List.map_cons,List.map_nil];rfl) ?_
  refine (ms_num.calls (n:=2) G0.out.I.M (by decide) (by decide) HL.out HT.out).mono ?_
  rintro _ W2 ⟨rfl,hR⟩
  refine ⟨_,rfl,?_⟩
  have G1:=Aside0.mk (G0.out.step hR)
  have cn1:=G1.out.I.cn
  have cp1:=G1.out.I.cp
  clear hR
  refine hK.out _ _ ⟨cp1,cn1⟩ (fun hHeld => ?_)
  clear hK K
  refine norm_ (a':=?_) ?_ ?_
  rotate_left
  ·show Act.put _ (some 31) _=_
   simp only [Act.put,List.setIfInBounds_toArray,List.set_cons_zero,List.set_cons_succ,i64_w,i32_w]
   rfl
  refine one_ (i:=3) (N:=some 32) #[true,true,true,true,false,false,false,false,false] rfl rfl (by kernel_rfl) (by decide) (fun K hK => ?_)
  refine goes_ Try.func14 (by kernel_rfl) rfl #[.slice Ap pl.length cp,.int .i64 i] (by rfl) rfl rfl (by simp only [List.map_toArray,List.map_cons,List.map_nil];rfl) ?_
  refine (pool_Class.calls Ap cp pl i c1 c2 W2 (HP.out W2 G1.out.C) HPC.out HC.out).mono ?_
  rintro _ W3 ⟨rfl,⟨⟨n,rfl⟩⟩⟩
  refine ⟨_,rfl,?_⟩
  have G2:=Aside0.mk (G1.out.new (pw_below_drewN (Below.refl _ _) n))
  have cn2:=G2.out.I.cn
  have cp2:=G2.out.I.cp
  refine hK.out _ _ ⟨cp2,cn2⟩ (fun hHeld => ?_)
  clear hK K
  refine norm_ (a':=?_) ?_ ?_
  rotate_left
  ·show Act.put _ (some 32) _=_
   simp only [Act.put,List.setIfInBounds_toArray,List.set_cons_zero,List.set_cons_succ,i64_w,i32_w]
   rfl
  refine pure_ (i:=4) (N:=some 28) (v:=?_) (a':=?_) #[true,true,true,true,true,false,false,false,false] rfl rfl (by kernel_rfl) (fun _ _ _ h => h) (Or.inl ⟨by rfl,?_⟩) ?_ ?_
  rotate_left
  ·intro w'
   go_simp
   with_reducible rfl
  rotate_left
  ·simp only [Act.put,List.setIfInBounds_toArray,List.set_cons_zero,List.set_cons_succ,i64_w,i32_w]
   rfl
  refine pure_ (i:=5) (N:=some 33) (v:=?_) (a':=?_) #[true,true,true,true,true,true,false,false,false] rfl rfl (by kernel_rfl) (fun _ _ _ h => h) (Or.inl ⟨by rfl,?_⟩) ?_ ?_
  rotate_left
  ·intro w'
   go_simp
   with_reducible rfl
  rotate_left
  ·simp only [Act.put,List.setIfInBounds_toArray,List.set_cons_zero,List.set_cons_succ,i64_w,i32_w]
   rfl
  refine pure_ (i:=6) (N:=some 34) (v:=?_) (a':=?_) #[true,true,true,true,true,true,true,false,false] rfl rfl (by kernel_rfl) (fun _ _ _ h => h) (Or.inl ⟨by rfl,?_⟩) ?_ ?_
  rotate_left
  ·intro w'
   go_simp
   with_reducible rfl
  rotate_left
  ·simp only [Act.put,List.setIfInBounds_toArray,List.set_cons_zero,List.set_cons_succ,i64_w,i32_w]
   rfl
  refine pure_ (i:=7) (N:=some 4) (v:=?_) (a':=?_) #[true,true,true,true,true,true,true,true,false] rfl rfl (by kernel_rfl) (fun _ _ _ h => h) (Or.inl ⟨by rfl,?_⟩) ?_ ?_
  rotate_left
  ·intro w'
   go_simp
   with_reducible rfl
  rotate_left
  ·simp only [Act.put,List.setIfInBounds_toArray,List.set_cons_zero,List.set_cons_succ,i64_w,i32_w]
   rfl
  refine pure_ (i:=8) (N:=some 5) (v:=?_) (a':=?_) #[true,true,true,true,true,true,true,true,true] rfl rfl (by kernel_rfl) (fun _ _ _ h => h) (Or.inl ⟨by rfl,?_⟩) ?_ ?_
  rotate_left
  ·intro w'
   go_simp
   with_reducible rfl
  rotate_left
  ·simp only [Act.put,List.setIfInBounds_toArray,List.set_cons_zero,List.set_cons_succ,i64_w,i32_w]
   rfl
  refine done_ (by kernel_rfl) ?_
  clear hHeld cn0 cp0 cn1 cp1 cn2 cp2 G0 G1 HC HT
  go_wp2_with fail
  refine (maps_Type.calls k c1 y1 y2 y3 y4 y5 y6 _ ⟨hG.out _ G2.out.C.below⟩ HY.out).mono ?_
  rintro _ W4 ⟨rfl,hb4⟩
  have HS4:=Aside0.mk (G2.out.new hb4)
  clear hb4 G2 HY
  go_upto_region 15 with fail
  obtain ⟨W5,hW⟩:∃ W5,W5=W4.alloc (.cells #[.int .i64 y1,.string y2,.int .i64 y3,.int .i64 y4,.int .i64 y5] 41 (0,0)):=⟨_,rfl⟩
  obtain ⟨gt,hgt⟩:∃ gt,gt=W4.heap.size:=⟨_,rfl⟩
  rw [← hW,← hgt]
  have hb5:Below W4.heap.size W4 W5:=by rw [hW];exact below_alloc (Below.refl _ _) _
  have HS5:=Aside0.mk (HS4.out.new hb5)
  have HK5:=Aside0.mk (show W5.heap[gt]?=some (.cells #[.int .i64 y1,.string y2,.int .i64 y3,.int .i64 y4,.int .i64 y5] 41 (0,0)) from by rw [hW,hgt];exact blk_new _ _)
  clear hW hgt hb5 HS4
  have cm:=HS5.out.I.cm
  have ho:=HO.out
  clear HO
  try dsimp only at ho
  by_cases hw:c2=true∧y6=true
  ·rw [if_pos hw] at ho
   obtain ⟨rfl,rfl⟩:=hw
   subst ho
   go_wp2_with fail
   refine (must_ok _).mono ?_
   rintro _ W6 ⟨rfl,rfl⟩
   clear cm
   obtain ⟨t0,t1,t2,t3,t4,_⟩:=blk5_ HK5.out
   obtain ⟨g0,g1,g2,g3,g4,f0,f1,f2,f3,f4⟩:=blk5_ HS5.out.k
   go_wp2
   refine bodyPost_ret (results_cell_row rfl _ _ gr 41 _ (0,0) _ rfl (st5_ HS5.out.k) hu rfl (by kernel_rfl)) rfl ?_
   exact ⟨rfl,HS5.out.fin _ _ _ _ _⟩
  ·rw [if_neg hw] at ho
   subst ho
   cases c2 with
   | false =>
    go_wp2_with fail
    refine (must_dies _).mono ?_
    rintro _ W6 ⟨rfl,rfl⟩
    go_wp2
    exact ⟨rfl,rfl,HS5.out.C.below⟩
   | true =>
    cases y6 with
    | true => exact absurd ⟨rfl,rfl⟩ hw
    | false =>
    clear hw
    go_wp2_with fail
    refine (must_dies _).mono ?_
    rintro _ W6 ⟨rfl,rfl⟩
    go_wp2
    exact ⟨rfl,rfl,HS5.out.C.below⟩
 rw [if_neg q7] at h
 have b7:(t==7)=false:=beq_eq_false_iff_ne.mpr q7
 by_cases q8:t=8
 ·rw [if_pos q8] at h
  have b8:(t==8)=true:=beq_iff_eq.mpr q8
  clear q8 q0 q1 q4 q5 q6 q7
  obtain ⟨oi,hi,h⟩:=Option.bind_eq_some_iff.mp h
  have HT:=Aside0.mk hi
  have HH:=Aside0.mk h
  have cn:=HS1.out.I.cn
  clear hi h
  go_wp2_with fail
  clear b0 b1 b4 b5 b6 b7 b8
  refine (ms_num.calls (n:=2) HS1.out.I.M (by decide) (by decide) HL.out HT.out).mono ?_
  clear HT
  cases oi with
  | er n =>
   obtain rfl:=Option.some.inj HH.out
   rintro _ W2 ⟨rfl,hb1⟩
   have HB1:=Aside0.mk (HS1.out.C.below.trans hb1)
   clear hb1 HH HS1 cn
   go_wp2
   exact ⟨rfl,rfl,HB1.out⟩
  | ok i p2 =>
  rintro _ W2 ⟨rfl,hR⟩
  have HS2:=Aside0.mk (HS1.out.step hR)
  have ho:=Option.some.inj HH.out
  clear hR HS1 HH cn
  have cm:=HS2.out.I.cm
  by_cases hw:i≤4096
  ·rw [if_pos hw] at ho
   subst ho
   have bw:decide (i≤4096)=true:=decide_eq_true hw
   clear hw
   go_wp2_with fail
   refine (must_ok _).mono ?_
   rintro _ W6 ⟨rfl,rfl⟩
   clear cm bw
   obtain ⟨g0,g1,g2,g3,g4,f0,f1,f2,f3,f4⟩:=blk5_ HS2.out.k
   go_wp2
   refine bodyPost_ret (results_cell_row rfl _ _ gr 41 _ (0,0) _ rfl (st5_ HS2.out.k) hu rfl (by kernel_rfl)) rfl ?_
   exact ⟨rfl,HS2.out.fin _ _ _ _ _⟩
  ·rw [if_neg hw] at ho
   subst ho
   have bw:decide (i≤4096)=false:=decide_eq_false hw
   clear hw
   go_wp2_with fail
   refine (must_dies _).mono ?_
   rintro _ W6 ⟨rfl,rfl⟩
   go_wp2
   exact ⟨rfl,rfl,HS2.out.C.below⟩
 rw [if_neg q8] at h
 have b8:(t==8)=false:=beq_eq_false_iff_ne.mpr q8
 obtain rfl:=Option.some.inj h
 have cm:=HS1.out.I.cm
 clear h q8 q0 q1 q4 q5 q6 q7
 go_wp2_with fail
 refine (must_dies _).mono ?_
 rintro _ W6 ⟨rfl,rfl⟩
 go_wp2
 exact ⟨rfl,rfl,HS1.out.C.below⟩
 end Go.Proofs.Ytnihihcopcoabaa.Px
