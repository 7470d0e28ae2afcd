/- What the bound on bulk gives. -/
/- What the package-level variables hold, as a fact of the world that stays as the world grows: unicode/utf8's tables; errors.errorType, the handle of 'error'. -/
/- Small laws for the rows: what the bound on bulk gives; a slice of whole numbers, as the walks want it; what the listed tables and errors.errorType give. -/
/- What a type's reading as data gives of a value: a value of the printed kinds, well formed, no bulkier than the datum. -/
/- What the struct types' readings give (by rowgen.py). -/
/- errors.As at the target that pool.Check hands it: the worked example toyas, turned to this program. -/
/- text.Encode: what the Go function computes, as a Lean function, and the walk of it; utf8.ValidString by the shelf's contract, text.split and text.unit by the printed contracts. -/
import Derived.Test.YtmloaijagkebpaaDoorRows
import Derived.Test.YtmloaijagkebpaaDoorProg
import Derived.Below
import Derived.Deep.Draws
import Derived.Deep.AppendLies
import Derived.Maps.AppendAt
import Derived.OwnWalk
import Derived.Laws.BytesArg
import Derived.Laws.MakeOwn
import Derived.Laws.OwnMore
import Derived.Deep.OwnRows
import Derived.Tactics
import Derived.Lib.ConvBytes
import Derived.Laws.Slices
import Derived.WalkKit
import Derived.KernelRfl
import Derived.RowKit3
import Derived.Deep.LoopGhost
import Derived.Deep.QuietTactic
import Derived.BigQuiet
import Derived.WideLaws
import Derived.Deep.DeepCutAuto
import Derived.Deep.CutBlock
import Derived.Deep.RegionHeld3
import Derived.Laws.Rows
import Derived.Lib.AppendStr
import Derived.ArgAppend
import Derived.Laws.IdiomCopy
import Derived.OrdersHeld
import Derived.Laws.BitsLemmas
import Derived.RowKit
import Derived.Test.YtmloaijagkebpaaDoorWWords
import Derived.Test.YtmloaijagkebpaaDoorWLast
import Derived.Test.YtmloaijagkebpaaDoorWTab
import Derived.Test.YtmloaijagkebpaaDoorWFour
import Derived.Test.YtmloaijagkebpaaDoorWQPut
import Derived.Test.YtmloaijagkebpaaDoorWApart
import Derived.Test.YtmloaijagkebpaaDoorWArr
import Derived.Test.YtmloaijagkebpaaDoorWZeros
import Derived.Test.YtmloaijagkebpaaDoorWFoot
import Derived.Test.YtmloaijagkebpaaDoorWKept
import Derived.Test.YtmloaijagkebpaaDoorWShare
import Derived.Test.YtmloaijagkebpaaDoorWN
import Derived.Test.YtmloaijagkebpaaDoorWFootNe
import Derived.Test.YtmloaijagkebpaaDoorWAt
import Derived.Test.YtmloaijagkebpaaDoorWEqStruct
import Derived.Test.YtmloaijagkebpaaDoorWRepsOne
import Derived.Test.YtmloaijagkebpaaDoorWInv
import Derived.Test.YtmloaijagkebpaaDoorWInvWords
import Derived.Test.YtmloaijagkebpaaDoorWGuard
import Derived.Test.YtmloaijagkebpaaDoorWNEv
import Derived.Test.YtmloaijagkebpaaDoorWMore
import Derived.Test.YtmloaijagkebpaaDoorShelf
import Derived.Shelf.Unicode.DecodeSlow
import Derived.Lib.ValidU
import Derived.Test.YtmloaijagkebpaaDoorWSized
import Derived.ProofKit
import Derived.OpenShut
import Derived.ShutString
import Derived.Lib.LaidU8T
import Derived.Lib.LaidIn
import Derived.PinnedBridge
import Derived.MakeChecks
import Derived.LaidSub
import Derived.LaidHandle
import Derived.ChangeArms
import Derived.ChangeOld
import Derived.LaidEql
import Derived.Stop.Asserts
import Derived.RowKitTokens
import Derived.Lib.OthersKept
import Derived.BigCall
import Derived.Shelf.Unicode.ValidAny
namespace Go.Proofs.YtmloaijagkebpaaDoor.Px
set_option linter.unusedVariables false
theorem bulk_one {H : Type} (d : DataW H) : 1 ≤ Rows.uptoBulk d := by
  cases d with
  | lit l => cases l <;> simp [Rows.uptoBulk]
  | nil => simp [Rows.uptoBulk]
  | ptr d => simp [Rows.uptoBulk]
  | slice elems spare => simp [Rows.uptoBulk]
  | agg parts => simp [Rows.uptoBulk]
  | iface t d => simp [Rows.uptoBulk]
  | map entries => simp [Rows.uptoBulk]
  | held h => simp [Rows.uptoBulk]
theorem bulk_part_le {H : Type} {d : DataW H} {l : List (DataW H)} (h : d ∈ l) : Rows.uptoBulk d ≤ Rows.uptoBulkAll l := by
  induction l with
  | nil => cases h
  | cons x r ih =>
    simp only [Rows.uptoBulkAll]
    rcases List.mem_cons.1 h with e | e
    · subst e; omega
    · have := ih e; omega
theorem bulk_length {H : Type} (l : List (DataW H)) : l.length ≤ Rows.uptoBulkAll l := by
  induction l with
  | nil => simp [Rows.uptoBulkAll]
  | cons x r ih => have := bulk_one x; simp only [Rows.uptoBulkAll, List.length_cons]; omega
theorem bulk_part {H : Type} {ds gs : List (DataW H)} {d : DataW H} (hk : Rows.uptoSmall H (ds ++ gs) = true) (hm : d ∈ ds) : Rows.uptoBulk d ≤ 1048576 := by
  have h : Rows.uptoBulkAll (ds ++ gs) ≤ 1048576 := of_decide_eq_true hk
  exact Nat.le_trans (bulk_part_le (List.mem_append_left _ hm)) h
end Go.Proofs.YtmloaijagkebpaaDoor.Px
namespace Go.Proofs.YtmloaijagkebpaaDoor.Px
open Go.RowKit Go.Proofs.YtmloaijagkebpaaDoorW.PrintWords Go.Proofs.YtmloaijagkebpaaDoorW.PrintLast Go.Proofs.YtmloaijagkebpaaDoorW.PrintMore
attribute [local go_sem] max2_int min2_int max_two min_two max_three min_three max_four min_four
set_option linter.unusedVariables false
set_option linter.unusedSimpArgs false
def errW:Option Int→Value
 | none => .nilIface
 | some c => .iface 0 (.int .i64 c)
theorem errW_none:errW none=.nilIface:=rfl
theorem errW_some (c:Int):errW (some c)=.iface 0 (.int .i64 c):=rfl
theorem info5:(Tryd.prog.info? 5).map (fun i => (i.zero,i.size,i.bytes))=some (some (.int .u8 0),1,1):=by kernel_rfl
theorem info60:(Tryd.prog.info? 60).map (fun i => (i.zero,i.size,i.bytes))=some (some (.agg #[(.int .i64 0),(.string ⟨#[]⟩),(.int .i64 0),(.int .i64 0),(.int .i64 0)]),5,48):=by kernel_rfl
structure S60 where
 f0:Int
 f1:ByteArray
 f2:Int
 f3:Int
 f4:Int
def z60:S60:=⟨(0:Int),(⟨#[]⟩:ByteArray),(0:Int),(0:Int),(0:Int)⟩
def k60:Kd S60:=Kd.iso (Kd.pair (Kd.int .i64) (Kd.pair Kd.string (Kd.pair (Kd.int .i64) (Kd.pair (Kd.int .i64) (Kd.int .i64))))) (fun x:S60 => (x.f0,x.f1,x.f2,x.f3,x.f4))
theorem k60_open {w:World} {x:S60} {cs:List Value} (h:k60.K w x cs):cs=[.int .i64 x.f0,.string x.f1,.int .i64 x.f2,.int .i64 x.f3,.int .i64 x.f4]:=by
 obtain ⟨_,_,rfl,rfl,⟨_,_,rfl,rfl,⟨_,_,rfl,rfl,⟨_,_,rfl,rfl,rfl⟩⟩⟩⟩:=h
 exact rfl
theorem k60_mkM (w:World) (base:Nat) (ok:Nat→Prop) (x:S60) :k60.M w base ok x [.int .i64 x.f0,.string x.f1,.int .i64 x.f2,.int .i64 x.f3,.int .i64 x.f4]:=⟨[.int .i64 x.f0],[.string x.f1,.int .i64 x.f2,.int .i64 x.f3,.int .i64 x.f4],rfl,rfl,⟨[.string x.f1],[.int .i64 x.f2,.int .i64 x.f3,.int .i64 x.f4],rfl,rfl,⟨[.int .i64 x.f2],[.int .i64 x.f3,.int .i64 x.f4],rfl,rfl,⟨[.int .i64 x.f3],[.int .i64 x.f4],rfl,rfl,rfl⟩⟩⟩⟩
def rd_T60 (xs:List S60) (i:Int):S60:=xs.getD i.toNat z60
theorem at_T60 {w:World} {A:Option Addr} {n:Nat} {xs:List S60} (h:Kd.C k60 w A n xs) (i:Int) (h0:0≤i) (h1:i < n):∃ ad ,A=some ad∧w.cell? (ad.add (i.toNat * 5))=some (.int .i64 (rd_T60 xs i).f0)∧w.cell? ⟨(ad.add (i.toNat * 5)).block,(ad.add (i.toNat * 5)).off + 1,none⟩=some (.string (rd_T60 xs i).f1)∧w.cell? ⟨(ad.add (i.toNat * 5)).block,(ad.add (i.toNat * 5)).off + 2,none⟩=some (.int .i64 (rd_T60 xs i).f2)∧w.cell? ⟨(ad.add (i.toNat * 5)).block,(ad.add (i.toNat * 5)).off + 3,none⟩=some (.int .i64 (rd_T60 xs i).f3)∧w.cell? ⟨(ad.add (i.toNat * 5)).block,(ad.add (i.toNat * 5)).off + 4,none⟩=some (.int .i64 (rd_T60 xs i).f4):=by
 obtain ⟨ad,c,e,_,hK,hc0⟩:=Kd.C_get h z60 i h0 h1
 have hc:∀ j u,c[j]?=some u→w.cell? (ad.add (i.toNat * 5 + j))=some u:=hc0
 obtain rfl:=k60_open hK
 exact ⟨ad,e,hc 0 _ rfl,by rw [← add_field _ _ 1 (by omega)];exact hc 1 _ rfl,by rw [← add_field _ _ 2 (by omega)];exact hc 2 _ rfl,by rw [← add_field _ _ 3 (by omega)];exact hc 3 _ rfl,by rw [← add_field _ _ 4 (by omega)];exact hc 4 _ rfl⟩
structure S78 where
 f0:Int
 f1:Int
 f2:Int
 f3:Int
def z78:S78:=⟨(0:Int),(0:Int),(0:Int),(0:Int)⟩
def k78:Kd S78:=Kd.iso (Kd.pair (Kd.int .i64) (Kd.pair (Kd.int .i64) (Kd.pair (Kd.int .i64) (Kd.int .i64)))) (fun x:S78 => (x.f0,x.f1,x.f2,x.f3))
theorem k78_open {w:World} {x:S78} {cs:List Value} (h:k78.K w x cs):cs=[.int .i64 x.f0,.int .i64 x.f1,.int .i64 x.f2,.int .i64 x.f3]:=by
 obtain ⟨_,_,rfl,rfl,⟨_,_,rfl,rfl,⟨_,_,rfl,rfl,rfl⟩⟩⟩:=h
 exact rfl
def rd_T78 (xs:List S78) (i:Int):S78:=xs.getD i.toNat z78
theorem at_T78 {w:World} {A:Option Addr} {n:Nat} {xs:List S78} (h:Kd.C k78 w A n xs) (i:Int) (h0:0≤i) (h1:i < n):∃ ad ,A=some ad∧w.cell? (ad.add (i.toNat * 4))=some (.int .i64 (rd_T78 xs i).f0)∧w.cell? ⟨(ad.add (i.toNat * 4)).block,(ad.add (i.toNat * 4)).off + 1,none⟩=some (.int .i64 (rd_T78 xs i).f1)∧w.cell? ⟨(ad.add (i.toNat * 4)).block,(ad.add (i.toNat * 4)).off + 2,none⟩=some (.int .i64 (rd_T78 xs i).f2)∧w.cell? ⟨(ad.add (i.toNat * 4)).block,(ad.add (i.toNat * 4)).off + 3,none⟩=some (.int .i64 (rd_T78 xs i).f3):=by
 obtain ⟨ad,c,e,_,hK,hc0⟩:=Kd.C_get h z78 i h0 h1
 have hc:∀ j u,c[j]?=some u→w.cell? (ad.add (i.toNat * 4 + j))=some u:=hc0
 obtain rfl:=k78_open hK
 exact ⟨ad,e,hc 0 _ rfl,by rw [← add_field _ _ 1 (by omega)];exact hc 1 _ rfl,by rw [← add_field _ _ 2 (by omega)];exact hc 2 _ rfl,by rw [← add_field _ _ 3 (by omega)];exact hc 3 _ rfl⟩
structure S49 where
 f0:Int
 f1:Int
 f2:Int
 f3:Int
 f4:Int
 f5:(List Int)
 f6:(List S78)
 f7:(List Int)
def z49:S49:=⟨(0:Int),(0:Int),(0:Int),(0:Int),(0:Int),([]:List Int),([]:List S78),([]:List Int)⟩
def k49:Kd S49:=Kd.iso (Kd.pair (Kd.int .i64) (Kd.pair (Kd.int .i64) (Kd.pair (Kd.int .i64) (Kd.pair (Kd.int .i64) (Kd.pair (Kd.int .i64) (Kd.pair (Kd.slice 5 (Kd.int .u8)) (Kd.pair (Kd.slice 78 k78) (Kd.slice 5 (Kd.int .u8))))))))) (fun x:S49 => (x.f0,x.f1,x.f2,x.f3,x.f4,x.f5,x.f6,x.f7))
theorem k49_open {w:World} {x:S49} {cs:List Value} (h:k49.K w x cs):∃ A5 c5 A6 c6 A7 c7,cs=[.int .i64 x.f0,.int .i64 x.f1,.int .i64 x.f2,.int .i64 x.f3,.int .i64 x.f4,.slice A5 x.f5.length c5,.slice A6 x.f6.length c6,.slice A7 x.f7.length c7]∧x.f5.length≤c5∧(Kd.int .u8).C w A5 x.f5.length x.f5∧x.f6.length≤c6∧k78.C w A6 x.f6.length x.f6∧x.f7.length≤c7∧(Kd.int .u8).C w A7 x.f7.length x.f7:=by
 obtain ⟨_,_,rfl,rfl,⟨_,_,rfl,rfl,⟨_,_,rfl,rfl,⟨_,_,rfl,rfl,⟨_,_,rfl,rfl,⟨_,_,rfl,⟨A5,c5,rfl,l5,g5⟩,⟨_,_,rfl,⟨A6,c6,rfl,l6,g6⟩,⟨A7,c7,rfl,l7,g7⟩⟩⟩⟩⟩⟩⟩⟩:=h
 exact ⟨A5,c5,A6,c6,A7,c7,rfl,l5,g5,l6,g6,l7,g7⟩
def rd_T49 (xs:List S49) (i:Int):S49:=xs.getD i.toNat z49
theorem at_T49 {w:World} {A:Option Addr} {n:Nat} {xs:List S49} (h:Kd.C k49 w A n xs) (i:Int) (h0:0≤i) (h1:i < n):∃ ad A5 c5 A6 c6 A7 c7,A=some ad∧w.cell? (ad.add (i.toNat * 8))=some (.int .i64 (rd_T49 xs i).f0)∧w.cell? ⟨(ad.add (i.toNat * 8)).block,(ad.add (i.toNat * 8)).off + 1,none⟩=some (.int .i64 (rd_T49 xs i).f1)∧w.cell? ⟨(ad.add (i.toNat * 8)).block,(ad.add (i.toNat * 8)).off + 2,none⟩=some (.int .i64 (rd_T49 xs i).f2)∧w.cell? ⟨(ad.add (i.toNat * 8)).block,(ad.add (i.toNat * 8)).off + 3,none⟩=some (.int .i64 (rd_T49 xs i).f3)∧w.cell? ⟨(ad.add (i.toNat * 8)).block,(ad.add (i.toNat * 8)).off + 4,none⟩=some (.int .i64 (rd_T49 xs i).f4)∧w.cell? ⟨(ad.add (i.toNat * 8)).block,(ad.add (i.toNat * 8)).off + 5,none⟩=some (.slice A5 (rd_T49 xs i).f5.length c5)∧w.cell? ⟨(ad.add (i.toNat * 8)).block,(ad.add (i.toNat * 8)).off + 6,none⟩=some (.slice A6 (rd_T49 xs i).f6.length c6)∧w.cell? ⟨(ad.add (i.toNat * 8)).block,(ad.add (i.toNat * 8)).off + 7,none⟩=some (.slice A7 (rd_T49 xs i).f7.length c7)∧(rd_T49 xs i).f5.length≤c5∧(Kd.int .u8).C w A5 (rd_T49 xs i).f5.length (rd_T49 xs i).f5∧(rd_T49 xs i).f6.length≤c6∧k78.C w A6 (rd_T49 xs i).f6.length (rd_T49 xs i).f6∧(rd_T49 xs i).f7.length≤c7∧(Kd.int .u8).C w A7 (rd_T49 xs i).f7.length (rd_T49 xs i).f7:=by
 obtain ⟨ad,c,e,_,hK,hc0⟩:=Kd.C_get h z49 i h0 h1
 have hc:∀ j u,c[j]?=some u→w.cell? (ad.add (i.toNat * 8 + j))=some u:=hc0
 obtain ⟨A5,c5,A6,c6,A7,c7,rfl,l5,g5,l6,g6,l7,g7⟩:=k49_open hK
 exact ⟨ad,A5,c5,A6,c6,A7,c7,e,hc 0 _ rfl,by rw [← add_field _ _ 1 (by omega)];exact hc 1 _ rfl,by rw [← add_field _ _ 2 (by omega)];exact hc 2 _ rfl,by rw [← add_field _ _ 3 (by omega)];exact hc 3 _ rfl,by rw [← add_field _ _ 4 (by omega)];exact hc 4 _ rfl,by rw [← add_field _ _ 5 (by omega)];exact hc 5 _ rfl,by rw [← add_field _ _ 6 (by omega)];exact hc 6 _ rfl,by rw [← add_field _ _ 7 (by omega)];exact hc 7 _ rfl,l5,g5,l6,g6,l7,g7⟩
structure S46 where
 f0:Int
 f1:Int
 f2:Int
def z46:S46:=⟨(0:Int),(0:Int),(0:Int)⟩
def k46:Kd S46:=Kd.iso (Kd.pair (Kd.int .i64) (Kd.pair (Kd.int .i64) (Kd.int .i64))) (fun x:S46 => (x.f0,x.f1,x.f2))
theorem k46_open {w:World} {x:S46} {cs:List Value} (h:k46.K w x cs):cs=[.int .i64 x.f0,.int .i64 x.f1,.int .i64 x.f2]:=by
 obtain ⟨_,_,rfl,rfl,⟨_,_,rfl,rfl,rfl⟩⟩:=h
 exact rfl
def rd_T46 (xs:List S46) (i:Int):S46:=xs.getD i.toNat z46
theorem at_T46 {w:World} {A:Option Addr} {n:Nat} {xs:List S46} (h:Kd.C k46 w A n xs) (i:Int) (h0:0≤i) (h1:i < n):∃ ad ,A=some ad∧w.cell? (ad.add (i.toNat * 3))=some (.int .i64 (rd_T46 xs i).f0)∧w.cell? ⟨(ad.add (i.toNat * 3)).block,(ad.add (i.toNat * 3)).off + 1,none⟩=some (.int .i64 (rd_T46 xs i).f1)∧w.cell? ⟨(ad.add (i.toNat * 3)).block,(ad.add (i.toNat * 3)).off + 2,none⟩=some (.int .i64 (rd_T46 xs i).f2):=by
 obtain ⟨ad,c,e,_,hK,hc0⟩:=Kd.C_get h z46 i h0 h1
 have hc:∀ j u,c[j]?=some u→w.cell? (ad.add (i.toNat * 3 + j))=some u:=hc0
 obtain rfl:=k46_open hK
 exact ⟨ad,e,hc 0 _ rfl,by rw [← add_field _ _ 1 (by omega)];exact hc 1 _ rfl,by rw [← add_field _ _ 2 (by omega)];exact hc 2 _ rfl⟩
theorem blk3_ {w:World} {g t:Nat} {v0 v1 v2:Value} (h:w.heap[g]?=some (.cells #[v0,v1,v2] t (0,0))):w.cell? ⟨g,0,none⟩=some v0∧w.cell? ⟨g,1,none⟩=some v1∧w.cell? ⟨g,2,none⟩=some v2∧w.frozen? ⟨g,0,none⟩=false∧w.frozen? ⟨g,1,none⟩=false∧w.frozen? ⟨g,2,none⟩=false :=
 ⟨(blk_cell h 0).trans rfl,(blk_cell h 1).trans rfl,(blk_cell h 2).trans rfl,blk_frozen h 0,blk_frozen h 1,blk_frozen h 2⟩
theorem blk4_ {w:World} {g t:Nat} {v0 v1 v2 v3:Value} (h:w.heap[g]?=some (.cells #[v0,v1,v2,v3] t (0,0))):w.cell? ⟨g,0,none⟩=some v0∧w.cell? ⟨g,1,none⟩=some v1∧w.cell? ⟨g,2,none⟩=some v2∧w.cell? ⟨g,3,none⟩=some v3∧w.frozen? ⟨g,0,none⟩=false∧w.frozen? ⟨g,1,none⟩=false∧w.frozen? ⟨g,2,none⟩=false∧w.frozen? ⟨g,3,none⟩=false :=
 ⟨(blk_cell h 0).trans rfl,(blk_cell h 1).trans rfl,(blk_cell h 2).trans rfl,(blk_cell h 3).trans rfl,blk_frozen h 0,blk_frozen h 1,blk_frozen h 2,blk_frozen h 3⟩
theorem blk5_ {w:World} {g t:Nat} {v0 v1 v2 v3 v4:Value} (h:w.heap[g]?=some (.cells #[v0,v1,v2,v3,v4] t (0,0))):w.cell? ⟨g,0,none⟩=some v0∧w.cell? ⟨g,1,none⟩=some v1∧w.cell? ⟨g,2,none⟩=some v2∧w.cell? ⟨g,3,none⟩=some v3∧w.cell? ⟨g,4,none⟩=some v4∧w.frozen? ⟨g,0,none⟩=false∧w.frozen? ⟨g,1,none⟩=false∧w.frozen? ⟨g,2,none⟩=false∧w.frozen? ⟨g,3,none⟩=false∧w.frozen? ⟨g,4,none⟩=false :=
 ⟨(blk_cell h 0).trans rfl,(blk_cell h 1).trans rfl,(blk_cell h 2).trans rfl,(blk_cell h 3).trans rfl,(blk_cell h 4).trans rfl,blk_frozen h 0,blk_frozen h 1,blk_frozen h 2,blk_frozen h 3,blk_frozen h 4⟩
theorem blk8_ {w:World} {g t:Nat} {v0 v1 v2 v3 v4 v5 v6 v7:Value} (h:w.heap[g]?=some (.cells #[v0,v1,v2,v3,v4,v5,v6,v7] t (0,0))):w.cell? ⟨g,0,none⟩=some v0∧w.cell? ⟨g,1,none⟩=some v1∧w.cell? ⟨g,2,none⟩=some v2∧w.cell? ⟨g,3,none⟩=some v3∧w.cell? ⟨g,4,none⟩=some v4∧w.cell? ⟨g,5,none⟩=some v5∧w.cell? ⟨g,6,none⟩=some v6∧w.cell? ⟨g,7,none⟩=some v7∧w.frozen? ⟨g,0,none⟩=false∧w.frozen? ⟨g,1,none⟩=false∧w.frozen? ⟨g,2,none⟩=false∧w.frozen? ⟨g,3,none⟩=false∧w.frozen? ⟨g,4,none⟩=false∧w.frozen? ⟨g,5,none⟩=false∧w.frozen? ⟨g,6,none⟩=false∧w.frozen? ⟨g,7,none⟩=false :=
 ⟨(blk_cell h 0).trans rfl,(blk_cell h 1).trans rfl,(blk_cell h 2).trans rfl,(blk_cell h 3).trans rfl,(blk_cell h 4).trans rfl,(blk_cell h 5).trans rfl,(blk_cell h 6).trans rfl,(blk_cell h 7).trans rfl,blk_frozen h 0,blk_frozen h 1,blk_frozen h 2,blk_frozen h 3,blk_frozen h 4,blk_frozen h 5,blk_frozen h 6,blk_frozen h 7⟩
theorem blc3_ {w:World} {g t:Nat} {v0 v1 v2:Value} (h:w.heap[g]?=some (.cells #[v0,v1,v2] t (0,0))):w.cell? ⟨g,0,none⟩=some v0∧w.cell? ⟨g,1,none⟩=some v1∧w.cell? ⟨g,2,none⟩=some v2 :=
 ⟨(blk_cell h 0).trans rfl,(blk_cell h 1).trans rfl,(blk_cell h 2).trans rfl⟩
theorem blc4_ {w:World} {g t:Nat} {v0 v1 v2 v3:Value} (h:w.heap[g]?=some (.cells #[v0,v1,v2,v3] t (0,0))):w.cell? ⟨g,0,none⟩=some v0∧w.cell? ⟨g,1,none⟩=some v1∧w.cell? ⟨g,2,none⟩=some v2∧w.cell? ⟨g,3,none⟩=some v3 :=
 ⟨(blk_cell h 0).trans rfl,(blk_cell h 1).trans rfl,(blk_cell h 2).trans rfl,(blk_cell h 3).trans rfl⟩
theorem blc5_ {w:World} {g t:Nat} {v0 v1 v2 v3 v4:Value} (h:w.heap[g]?=some (.cells #[v0,v1,v2,v3,v4] t (0,0))):w.cell? ⟨g,0,none⟩=some v0∧w.cell? ⟨g,1,none⟩=some v1∧w.cell? ⟨g,2,none⟩=some v2∧w.cell? ⟨g,3,none⟩=some v3∧w.cell? ⟨g,4,none⟩=some v4 :=
 ⟨(blk_cell h 0).trans rfl,(blk_cell h 1).trans rfl,(blk_cell h 2).trans rfl,(blk_cell h 3).trans rfl,(blk_cell h 4).trans rfl⟩
theorem blc8_ {w:World} {g t:Nat} {v0 v1 v2 v3 v4 v5 v6 v7:Value} (h:w.heap[g]?=some (.cells #[v0,v1,v2,v3,v4,v5,v6,v7] t (0,0))):w.cell? ⟨g,0,none⟩=some v0∧w.cell? ⟨g,1,none⟩=some v1∧w.cell? ⟨g,2,none⟩=some v2∧w.cell? ⟨g,3,none⟩=some v3∧w.cell? ⟨g,4,none⟩=some v4∧w.cell? ⟨g,5,none⟩=some v5∧w.cell? ⟨g,6,none⟩=some v6∧w.cell? ⟨g,7,none⟩=some v7 :=
 ⟨(blk_cell h 0).trans rfl,(blk_cell h 1).trans rfl,(blk_cell h 2).trans rfl,(blk_cell h 3).trans rfl,(blk_cell h 4).trans rfl,(blk_cell h 5).trans rfl,(blk_cell h 6).trans rfl,(blk_cell h 7).trans rfl⟩
theorem bl_ {w W:World} (h:Below w.heap.size w W:=by repeat (first|(with_reducible first|(refine Aside0.out ?_;assumption)|apply below_alloc|apply pw_below_drewN|apply below_drew1|refine below_set ?_ (Aside0.out (by assumption)))|(refine Aside0.out ?_;assumption))):Below w.heap.size w W:=h
theorem bk_ {w:World} {g:Nat} {o:Obj} (h:w.heap[g]?=some o:=by (repeat (first|(with_reducible (refine Aside0.out ?_;assumption))|(with_reducible refine blk_drewN ?_ _)|(with_reducible refine blk_drew ?_)|(with_reducible refine blk_alloc ?_ _)|refine blk_far ?_ (Aside0.out (by assumption)) _))):w.heap[g]?=some o:=h
theorem kr_ {p q:Prop} (h0:p) (h:p→q:=by (intro h_;(with_reducible repeat (first|apply Kd.R_alloc|apply Kd.R_drewN|apply Kd.R_drew|apply Kd.S_alloc|apply Kd.S_drewN|apply Kd.S_drew));exact h_)):q:=h h0
theorem kc_ {p q:Prop} (h0:p) (h:p→q:=by (intro h_;repeat (first|exact h_|(with_reducible refine Kd.C_alloc ?_ _)|(with_reducible refine Kd.C_drewN ?_ _)|(with_reducible refine Kd.C_drew ?_)))):q:=h h0
theorem od_ {p:Prop} [Decidable p] (h:decide p=true:=by first|(with_reducible assumption)|assumption):p:=of_decide_eq_true h
theorem hb_ {w W:World} {q:Addr} {v:Value} (h:Aside0 (Below w.heap.size w W)) (hx:w.cell? q=some v):W.cell? q=some v:=(h.out.cell (World.block_lt_of_cell? w _ hx)).trans hx
theorem ew_ {p:Prop} (h:p:=by first|rfl|(simp [errW_none,errW_some] <;> rfl)|(simp [*,errW_none,errW_some] <;> rfl)):p:=h
theorem r3_ {p:Prop} (h:p:=by first|rfl|(simp;done)|(simp [*];done)):p:=h
theorem callA_ {P:Program} {ops:Array Oper} {Q:Exit→Act→World→Prop} {rest:List Oper} {oi:Oper} {a:Act} {w:World} {f:FuncId} {fn:Func} {ars:Array Operand} {ts:Array TypeId} (N:Option Tmp) (hf:P.funcs[f]?=some fn) (args:Array Value)
  (h:Calls P f args w fun e w' => ∃ v,e=.returned v∧wpList P ops Q rest (a.put N v) w') (hop:oi.op=.call { callee:=.value (.func f),args:=ars,argTypes:=ts }:=by with_reducible rfl) (hd:oi.dst=N:=by rfl) (hg:oi.guard=none:=by rfl)
  (hname : (fn.name == "runtime.NumGoroutine") = false := by kernel_rfl) (hb : fn.body.isSome = true := by rfl) (hargs : ars.map a.eval = args := by (try simp only [List.map_toArray, List.map_cons, List.map_nil]); first | done | rfl | (simp only [List.length_drop, List.length_take]; rfl)) : wpList P ops Q (oi :: rest) a w :=
 goesL_ N hd hg hf hname hb args hop hargs h
theorem st3_ {w:World} {g t:Nat} {v0 v1 v2 u0 u1 u2:Value} (h0:w.heap[g]?=some (.cells #[v0,v1,v2] t (0,0))):(((w.setCell ⟨g,0,none⟩ u0).setCell ⟨g,1,none⟩ u1).setCell ⟨g,2,none⟩ u2).heap[g]?=some (.cells #[u0,u1,u2] t (0,0)):=by
 have h1:(w.setCell ⟨g,0,none⟩ u0).heap[g]?=some (.cells #[u0,v1,v2] t (0,0)):=blk_put h0 0 u0 rfl
 have h2:((w.setCell ⟨g,0,none⟩ u0).setCell ⟨g,1,none⟩ u1).heap[g]?=some (.cells #[u0,u1,v2] t (0,0)):=blk_put h1 1 u1 rfl
 have h3:(((w.setCell ⟨g,0,none⟩ u0).setCell ⟨g,1,none⟩ u1).setCell ⟨g,2,none⟩ u2).heap[g]?=some (.cells #[u0,u1,u2] t (0,0)):=blk_put h2 2 u2 rfl
 exact h3
theorem st4_ {w:World} {g t:Nat} {v0 v1 v2 v3 u0 u1 u2 u3:Value} (h0:w.heap[g]?=some (.cells #[v0,v1,v2,v3] t (0,0))):((((w.setCell ⟨g,0,none⟩ u0).setCell ⟨g,1,none⟩ u1).setCell ⟨g,2,none⟩ u2).setCell ⟨g,3,none⟩ u3).heap[g]?=some (.cells #[u0,u1,u2,u3] t (0,0)):=by
 have h1:(w.setCell ⟨g,0,none⟩ u0).heap[g]?=some (.cells #[u0,v1,v2,v3] t (0,0)):=blk_put h0 0 u0 rfl
 have h2:((w.setCell ⟨g,0,none⟩ u0).setCell ⟨g,1,none⟩ u1).heap[g]?=some (.cells #[u0,u1,v2,v3] t (0,0)):=blk_put h1 1 u1 rfl
 have h3:(((w.setCell ⟨g,0,none⟩ u0).setCell ⟨g,1,none⟩ u1).setCell ⟨g,2,none⟩ u2).heap[g]?=some (.cells #[u0,u1,u2,v3] t (0,0)):=blk_put h2 2 u2 rfl
 have h4:((((w.setCell ⟨g,0,none⟩ u0).setCell ⟨g,1,none⟩ u1).setCell ⟨g,2,none⟩ u2).setCell ⟨g,3,none⟩ u3).heap[g]?=some (.cells #[u0,u1,u2,u3] t (0,0)):=blk_put h3 3 u3 rfl
 exact h4
theorem st5_ {w:World} {g t:Nat} {v0 v1 v2 v3 v4 u0 u1 u2 u3 u4:Value} (h0:w.heap[g]?=some (.cells #[v0,v1,v2,v3,v4] t (0,0))):(((((w.setCell ⟨g,0,none⟩ u0).setCell ⟨g,1,none⟩ u1).setCell ⟨g,2,none⟩ u2).setCell ⟨g,3,none⟩ u3).setCell ⟨g,4,none⟩ u4).heap[g]?=some (.cells #[u0,u1,u2,u3,u4] t (0,0)):=by
 have h1:(w.setCell ⟨g,0,none⟩ u0).heap[g]?=some (.cells #[u0,v1,v2,v3,v4] t (0,0)):=blk_put h0 0 u0 rfl
 have h2:((w.setCell ⟨g,0,none⟩ u0).setCell ⟨g,1,none⟩ u1).heap[g]?=some (.cells #[u0,u1,v2,v3,v4] t (0,0)):=blk_put h1 1 u1 rfl
 have h3:(((w.setCell ⟨g,0,none⟩ u0).setCell ⟨g,1,none⟩ u1).setCell ⟨g,2,none⟩ u2).heap[g]?=some (.cells #[u0,u1,u2,v3,v4] t (0,0)):=blk_put h2 2 u2 rfl
 have h4:((((w.setCell ⟨g,0,none⟩ u0).setCell ⟨g,1,none⟩ u1).setCell ⟨g,2,none⟩ u2).setCell ⟨g,3,none⟩ u3).heap[g]?=some (.cells #[u0,u1,u2,u3,v4] t (0,0)):=blk_put h3 3 u3 rfl
 have h5:(((((w.setCell ⟨g,0,none⟩ u0).setCell ⟨g,1,none⟩ u1).setCell ⟨g,2,none⟩ u2).setCell ⟨g,3,none⟩ u3).setCell ⟨g,4,none⟩ u4).heap[g]?=some (.cells #[u0,u1,u2,u3,u4] t (0,0)):=blk_put h4 4 u4 rfl
 exact h5
theorem st8_ {w:World} {g t:Nat} {v0 v1 v2 v3 v4 v5 v6 v7 u0 u1 u2 u3 u4 u5 u6 u7:Value} (h0:w.heap[g]?=some (.cells #[v0,v1,v2,v3,v4,v5,v6,v7] t (0,0))):((((((((w.setCell ⟨g,0,none⟩ u0).setCell ⟨g,1,none⟩ u1).setCell ⟨g,2,none⟩ u2).setCell ⟨g,3,none⟩ u3).setCell ⟨g,4,none⟩ u4).setCell ⟨g,5,none⟩ u5).setCell ⟨g,6,none⟩ u6).setCell ⟨g,7,none⟩ u7).heap[g]?=some (.cells #[u0,u1,u2,u3,u4,u5,u6,u7] t (0,0)):=by
 have h1:(w.setCell ⟨g,0,none⟩ u0).heap[g]?=some (.cells #[u0,v1,v2,v3,v4,v5,v6,v7] t (0,0)):=blk_put h0 0 u0 rfl
 have h2:((w.setCell ⟨g,0,none⟩ u0).setCell ⟨g,1,none⟩ u1).heap[g]?=some (.cells #[u0,u1,v2,v3,v4,v5,v6,v7] t (0,0)):=blk_put h1 1 u1 rfl
 have h3:(((w.setCell ⟨g,0,none⟩ u0).setCell ⟨g,1,none⟩ u1).setCell ⟨g,2,none⟩ u2).heap[g]?=some (.cells #[u0,u1,u2,v3,v4,v5,v6,v7] t (0,0)):=blk_put h2 2 u2 rfl
 have h4:((((w.setCell ⟨g,0,none⟩ u0).setCell ⟨g,1,none⟩ u1).setCell ⟨g,2,none⟩ u2).setCell ⟨g,3,none⟩ u3).heap[g]?=some (.cells #[u0,u1,u2,u3,v4,v5,v6,v7] t (0,0)):=blk_put h3 3 u3 rfl
 have h5:(((((w.setCell ⟨g,0,none⟩ u0).setCell ⟨g,1,none⟩ u1).setCell ⟨g,2,none⟩ u2).setCell ⟨g,3,none⟩ u3).setCell ⟨g,4,none⟩ u4).heap[g]?=some (.cells #[u0,u1,u2,u3,u4,v5,v6,v7] t (0,0)):=blk_put h4 4 u4 rfl
 have h6:((((((w.setCell ⟨g,0,none⟩ u0).setCell ⟨g,1,none⟩ u1).setCell ⟨g,2,none⟩ u2).setCell ⟨g,3,none⟩ u3).setCell ⟨g,4,none⟩ u4).setCell ⟨g,5,none⟩ u5).heap[g]?=some (.cells #[u0,u1,u2,u3,u4,u5,v6,v7] t (0,0)):=blk_put h5 5 u5 rfl
 have h7:(((((((w.setCell ⟨g,0,none⟩ u0).setCell ⟨g,1,none⟩ u1).setCell ⟨g,2,none⟩ u2).setCell ⟨g,3,none⟩ u3).setCell ⟨g,4,none⟩ u4).setCell ⟨g,5,none⟩ u5).setCell ⟨g,6,none⟩ u6).heap[g]?=some (.cells #[u0,u1,u2,u3,u4,u5,u6,v7] t (0,0)):=blk_put h6 6 u6 rfl
 have h8:((((((((w.setCell ⟨g,0,none⟩ u0).setCell ⟨g,1,none⟩ u1).setCell ⟨g,2,none⟩ u2).setCell ⟨g,3,none⟩ u3).setCell ⟨g,4,none⟩ u4).setCell ⟨g,5,none⟩ u5).setCell ⟨g,6,none⟩ u6).setCell ⟨g,7,none⟩ u7).heap[g]?=some (.cells #[u0,u1,u2,u3,u4,u5,u6,u7] t (0,0)):=blk_put h7 7 u7 rfl
 exact h8
end Go.Proofs.YtmloaijagkebpaaDoor.Px
namespace Go.Proofs.YtmloaijagkebpaaDoor.Px
open Go.RowKit Go.Proofs.YtmloaijagkebpaaDoorW.PrintWords Go.Proofs.YtmloaijagkebpaaDoorW.PrintLast Go.Proofs.YtmloaijagkebpaaDoorW.PrintMore
structure GG (w:World):Prop where mk ::
 tabs:Lib.Utf8Tabs (Tryd.laysValid_ren.g 3) (Tryd.laysValid_ren.g 4) w
 et:w.cell? ⟨0,0,none⟩=some (.iface 124 (.agg #[.pointer (some ⟨3,88,none⟩)]))
theorem GG.below {w w':World} (h:GG w) (hb:Below w.heap.size w w'):GG w':=⟨Utf8Tabs_below h.tabs hb,pw_cell_below hb h.et⟩
end Go.Proofs.YtmloaijagkebpaaDoor.Px
namespace Go.Proofs.YtmloaijagkebpaaDoor.Px
open Go.RowKit Go.ChangeShapes Go.WideShapes Go.ChangeAt Go.Lib Go.Proofs.YtmloaijagkebpaaDoorW.PrintWords Go.Proofs.YtmloaijagkebpaaDoorW.PrintLast Go.Proofs.YtmloaijagkebpaaDoorW.PrintMore
set_option linter.unusedVariables false
theorem laid_et : Tryd.prog.globalNamed "errors.errorType" = some 0 := by kernel_rfl
theorem laid_rt : (Tryd.prog.cutTypes.find? (·.1 == "internal/reflectlite.rtype")).map (·.2) = some 124 := by kernel_rfl
theorem laid_oneRow : ((List.range 167).filter fun t => Tryd.prog.rowNamed t [101, 114, 114, 111, 114]) = [88] := by kernel_rfl
theorem laid_size : Tryd.prog.types.size = 167 := by kernel_rfl
theorem GG.of_laid {l : List (String × DataW Unit)} {W : World} (h : laidMetH Tryd.prog l W) (h1 : ("unicode/utf8.acceptRanges", Rows.laid_unicode_utf8_acceptRanges) ∈ l) (h2 : ("unicode/utf8.first", Rows.laid_unicode_utf8_first) ∈ l) (h3 : ("errors.errorType", Rows.laid_errors_errorType) ∈ l) (hS : W.ShapedOpen Tryd.prog) : GG W := by
  obtain ⟨hp, hh⟩ := laidMetH_iff.1 h
  refine ⟨utf8Tabs_of_readsT (U8Types.of196 Tryd.laysValid) ⟨by kernel_rfl, by kernel_rfl, by kernel_rfl, by kernel_rfl, by kernel_rfl, by kernel_rfl, by kernel_rfl⟩ (by have := Lib.laidMet.reads hp (List.mem_filter.2 ⟨h2, by kernel_rfl⟩); unfold Rows.laid_unicode_utf8_first at this; rw [Pinned.utf8First_eq] at this; exact this) (Lib.laidMet.reads hp (List.mem_filter.2 ⟨h1, by kernel_rfl⟩)), ?_⟩
  obtain ⟨name, u, ty, e1, e2, e3, e4, e5⟩ := hh _ (List.mem_filter.2 ⟨h3, by kernel_rfl⟩)
  have en : name = [101, 114, 114, 111, 114] := (Option.some.inj e1).symm
  subst en
  obtain rfl := Option.some.inj (laid_rt.symm.trans e2)
  have hm : ty ∈ (List.range 167).filter fun t => Tryd.prog.rowNamed t [101, 114, 114, 111, 114] := List.mem_filter.2 ⟨List.mem_range.2 (by rw [← laid_size]; exact e3), e4⟩
  rw [laid_oneRow] at hm
  obtain rfl := List.mem_singleton.1 hm
  have hh : typeHandle Tryd.prog 88 = .pointer (some ⟨3, 88, none⟩) := by kernel_rfl
  rw [hh] at e5
  simpa using World.var?_cell laid_et e5 0
end Go.Proofs.YtmloaijagkebpaaDoor.Px
namespace Go.Proofs.YtmloaijagkebpaaDoor.Px
open Go.RowKit Go.ChangeShapes Go.WideShapes Go.ChangeAt Go.Proofs.YtmloaijagkebpaaDoorW.PrintWords Go.Proofs.YtmloaijagkebpaaDoorW.PrintLast Go.Proofs.YtmloaijagkebpaaDoorW.PrintMore
set_option linter.unusedVariables false
def Fits {α:Type} {H:Type} (enc:TypeId × Value→H) (P:Program) (W:World) (t:TypeId) (d:Kd α) (Q:Nat→α→Prop):Prop :=
 ∀ (fuel:Nat) (cs:List Value) (x:DataW H) (p:List MemPlace),DataW.trod enc P W 0 (fun _ => true) true fuel t cs=some (x,p)→∃ a:α,d.K W a cs∧Q (Rows.uptoBulk x) a
section
variable {α β:Type} {H:Type} {enc:TypeId × Value→H} {P:Program} {W:World} {t e:TypeId}
def Qint (k:IntKind) (_:Nat) (a:Int):Prop:=(Lit.int k a).wf=true
def Qbool (_:Nat) (_:Bool):Prop:=True
def Qstr (b:Nat) (a:ByteArray):Prop:=a.size < b
theorem Qint.mono (k:IntKind):∀ b b' a,b≤b'→Qint k b a→Qint k b' a:=fun _ _ _ _ h => h
theorem Qbool.mono:∀ b b' a,b≤b'→Qbool b a→Qbool b' a:=fun _ _ _ _ h => h
theorem Qstr.mono:∀ b b' a,b≤b'→Qstr b a→Qstr b' a:=fun _ _ _ h1 h2 => Nat.lt_of_lt_of_le h2 h1
theorem Fits.int {k:IntKind} (ht:P.underlying t=some (.int k)):Fits enc P W t (Kd.int k) (Qint k):=by
 intro fuel cs x p h
 obtain ⟨n,hc,hx,hw⟩:=DataW.trod_int ht h
 exact ⟨n,hc,hw⟩
theorem Fits.bool (ht:P.underlying t=some .bool):Fits enc P W t Kd.bool Qbool:=by
 intro fuel cs x p h
 obtain ⟨b,hc,hx⟩:=DataW.trod_bool ht h
 exact ⟨b,hc,trivial⟩
theorem Fits.string (ht:P.underlying t=some .string):Fits enc P W t Kd.string Qstr:=by
 intro fuel cs x p h
 obtain ⟨s,hc,hx⟩:=DataW.trod_string ht h
 refine ⟨s,hc,?_⟩
 unfold Qstr
 have hx:=(Prod.mk.inj hx.1).1
 subst hx
 simp only [Rows.uptoBulk]
 have e:s.data.toList.length=s.size:=by rw [Array.length_toList];rfl
 omega
theorem fits_add (a:Addr) (x j:Nat):(a.add x).add j=a.add (x + j):=by
 unfold Addr.add
 by_cases h1:x=0 <;> by_cases h2:j=0 <;> simp [h1,h2,Nat.add_assoc]
def QAll (Q:Nat→α→Prop) (b:Nat) (l:List α):Prop:=l.length < b∧∀ x ∈ l,Q b x
theorem QAll.mono {Q:Nat→α→Prop} (hQ:∀ b b' a,b≤b'→Q b a→Q b' a):∀ b b' l,b≤b'→QAll Q b l→QAll Q b' l:=fun b b' l h hq => ⟨Nat.lt_of_lt_of_le hq.1 h,fun x hx => hQ _ _ _ h (hq.2 x hx)⟩
theorem Fits.slice {d:Kd α} {Q:Nat→α→Prop} (hQ:∀ b b' a,b≤b'→Q b a→Q b' a) (ht:P.underlying t=some (.slice e)) (hsz:P.cellsOf e=d.sz) (hd:Fits enc P W e d Q):Fits enc P W t (Kd.slice e d) (QAll Q):=by
 intro fuel cs x p h
 rcases DataW.trod_slice ht h with ⟨hcs,hx⟩|⟨a,len,cap,elems,rest,n,_,hcs,hx,_,hl,hm,hlen,hel,_,_⟩
 ·refine ⟨[],⟨none,0,hcs,Nat.le_refl _,rfl,by simp,fun hh => absurd hh (by simp)⟩,?_,fun y hy => by cases hy⟩
  exact bulk_one x
 ·have hx1:=(Prod.mk.inj hx).1
  have each:∀ i,i < len→∃ y:α,∃ c:List Value,d.K W y c∧c.length=d.sz∧(∀ j u,c[j]?=some u→W.cell? (a.add (i * d.sz + j))=some u)∧Q (Rows.uptoBulk x) y:=by
   intro i hi
   have h1:=hel i hi
   obtain ⟨z,hz⟩:∃ z,elems[i]?=some z:=⟨elems[i]'(by omega),List.getElem?_eq_getElem (by omega)⟩
   rw [hz] at h1
   obtain ⟨c,hc,hk⟩:=Option.bind_eq_some_iff.1 h1
   obtain ⟨_,hcl,hcc⟩:=World.cells?_some hc
   obtain ⟨y,hy,hq⟩:=hd n c z.1 z.2 hk
   refine ⟨y,c,hy,by rw [hcl,hsz],?_,hQ _ _ _ ?_ hq⟩
   ·intro j u hj
    have hjl:j < c.length:=(List.getElem?_eq_some_iff.1 hj).1
    have:=hcc j (by omega)
    rw [hj] at this
    rw [← this,hsz,fits_add]
   ·rw [hx1]
    simp only [Rows.uptoBulk]
    have:z.1 ∈ elems.map (·.1):=List.mem_map_of_mem (List.mem_of_getElem? hz)
    have:=bulk_part_le this
    omega
  have hf:∀ i:Fin len,∃ c:List Value,d.K W (Classical.choose (each i.1 i.2)) c∧c.length=d.sz∧(∀ j u,c[j]?=some u→W.cell? (a.add (i.1 * d.sz + j))=some u)∧Q (Rows.uptoBulk x) (Classical.choose (each i.1 i.2)):=fun i => Classical.choose_spec (each i.1 i.2)
  generalize hF:(fun i:Fin len => Classical.choose (each i.1 i.2))=f at hf
  replace hf:∀ i:Fin len,∃ c:List Value,d.K W (f i) c∧c.length=d.sz∧(∀ j u,c[j]?=some u→W.cell? (a.add (i.1 * d.sz + j))=some u)∧Q (Rows.uptoBulk x) (f i):=fun i => by
   have:=hf i
   rw [← hF]
   exact this
  have hxs:(List.ofFn f).length=len:=by simp
  refine ⟨List.ofFn f,⟨some a,cap,by rw [hxs];exact hcs,by rw [hxs];exact hl,rfl,?_,fun _ => ⟨a,rfl,?_⟩⟩,?_,?_⟩
  ·rw [hxs];unfold maxLen at hm;omega
  ·intro j q hj
   have hjl:j < len:=by
    have:=(List.getElem?_eq_some_iff.1 hj).1
    omega
   have hq:f ⟨j,hjl⟩=q:=by
    rw [List.getElem?_ofFn,dif_pos hjl] at hj
    exact Option.some.inj hj
   obtain ⟨c,h1,h2,h3,_⟩:=hf ⟨j,hjl⟩
   subst hq
   exact ⟨c,h2,h1,h3⟩
  ·rw [hxs,hx1]
   simp only [Rows.uptoBulk]
   have:=bulk_length (elems.map (·.1))
   rw [List.length_map] at this
   omega
  ·intro y hy
   obtain ⟨i,rfl⟩:=(List.mem_ofFn).1 hy
   obtain ⟨_,_,_,_,hq⟩:=hf i
   exact hq
end
end Go.Proofs.YtmloaijagkebpaaDoor.Px
namespace Go.Proofs.YtmloaijagkebpaaDoor.Px
open Go.RowKit Go.ChangeShapes Go.WideShapes Go.ChangeAt Go.Proofs.YtmloaijagkebpaaDoorW.PrintWords Go.Proofs.YtmloaijagkebpaaDoorW.PrintLast Go.Proofs.YtmloaijagkebpaaDoorW.PrintMore
set_option linter.unusedVariables false
set_option maxRecDepth 100000
def QS60 (b:Nat) (a:S60):Prop:=(Qint .i64) b a.f0∧Qstr b a.f1∧(Qint .i64) b a.f2∧(Qint .i64) b a.f3∧(Qint .i64) b a.f4
theorem QS60.mono:∀ b b' a,b≤b'→QS60 b a→QS60 b' a:=fun b b' a h hq => ⟨(Qint.mono .i64) b b' a.f0 h hq.1,Qstr.mono b b' a.f1 h hq.2.1,(Qint.mono .i64) b b' a.f2 h hq.2.2.1,(Qint.mono .i64) b b' a.f3 h hq.2.2.2.1,(Qint.mono .i64) b b' a.f4 h hq.2.2.2.2⟩
theorem fits60 {H:Type} (enc:TypeId × Value→H) (W:World):Fits enc Tryd.prog W 60 k60 QS60:=by
 intro fuel cs x p h
 obtain ⟨xs,n,rfl,hx,hlen,hxl,hall⟩:=DataW.trod_struct Tryd.underlying60 h
 have hx1:=(Prod.mk.inj hx).1
 have hb:∀ z ∈ xs,Rows.uptoBulk z.1≤Rows.uptoBulk x:=by
  intro z hz
  rw [hx1]
  simp only [Rows.uptoBulk]
  have:=bulk_part_le (List.mem_map_of_mem (f:=(·.1)) hz)
  omega
 have hl:cs.length=5:=hlen.trans (by kernel_rfl)
 have hxl':xs.length=5:=hxl
 have e0:=hall 0 _ rfl
 obtain ⟨z0,hz0⟩:∃ z,xs[0]?=some z:=⟨xs[0]'(by omega),List.getElem?_eq_getElem (by omega)⟩
 rw [hz0] at e0
 have c0:Tryd.prog.cellsOf 3=1:=by kernel_rfl
 replace e0:DataW.trod enc Tryd.prog W 0 (fun _ => true) true n 3 ((cs.drop 0).take 1)=some z0:=by rw [← c0];exact e0
 obtain ⟨a0,K0,q0⟩:=(Fits.int Tryd.underlying3) n _ z0.1 z0.2 e0
 replace q0:=(Qint.mono .i64) _ _ _ (hb z0 (List.mem_of_getElem? hz0)) q0
 have e1:=hall 1 _ rfl
 obtain ⟨z1,hz1⟩:∃ z,xs[1]?=some z:=⟨xs[1]'(by omega),List.getElem?_eq_getElem (by omega)⟩
 rw [hz1] at e1
 have c1:Tryd.prog.cellsOf 9=1:=by kernel_rfl
 replace e1:DataW.trod enc Tryd.prog W 0 (fun _ => true) true n 9 ((cs.drop 1).take 1)=some z1:=by rw [← c1];exact e1
 obtain ⟨a1,K1,q1⟩:=(Fits.string Tryd.underlying9) n _ z1.1 z1.2 e1
 replace q1:=Qstr.mono _ _ _ (hb z1 (List.mem_of_getElem? hz1)) q1
 have e2:=hall 2 _ rfl
 obtain ⟨z2,hz2⟩:∃ z,xs[2]?=some z:=⟨xs[2]'(by omega),List.getElem?_eq_getElem (by omega)⟩
 rw [hz2] at e2
 have c2:Tryd.prog.cellsOf 2=1:=by kernel_rfl
 replace e2:DataW.trod enc Tryd.prog W 0 (fun _ => true) true n 2 ((cs.drop 2).take 1)=some z2:=by rw [← c2];exact e2
 obtain ⟨a2,K2,q2⟩:=(Fits.int Tryd.underlying2) n _ z2.1 z2.2 e2
 replace q2:=(Qint.mono .i64) _ _ _ (hb z2 (List.mem_of_getElem? hz2)) q2
 have e3:=hall 3 _ rfl
 obtain ⟨z3,hz3⟩:∃ z,xs[3]?=some z:=⟨xs[3]'(by omega),List.getElem?_eq_getElem (by omega)⟩
 rw [hz3] at e3
 have c3:Tryd.prog.cellsOf 3=1:=by kernel_rfl
 replace e3:DataW.trod enc Tryd.prog W 0 (fun _ => true) true n 3 ((cs.drop 3).take 1)=some z3:=by rw [← c3];exact e3
 obtain ⟨a3,K3,q3⟩:=(Fits.int Tryd.underlying3) n _ z3.1 z3.2 e3
 replace q3:=(Qint.mono .i64) _ _ _ (hb z3 (List.mem_of_getElem? hz3)) q3
 have e4:=hall 4 _ rfl
 obtain ⟨z4,hz4⟩:∃ z,xs[4]?=some z:=⟨xs[4]'(by omega),List.getElem?_eq_getElem (by omega)⟩
 rw [hz4] at e4
 have c4:Tryd.prog.cellsOf 3=1:=by kernel_rfl
 replace e4:DataW.trod enc Tryd.prog W 0 (fun _ => true) true n 3 ((cs.drop 4).take 1)=some z4:=by rw [← c4];exact e4
 obtain ⟨a4,K4,q4⟩:=(Fits.int Tryd.underlying3) n _ z4.1 z4.2 e4
 replace q4:=(Qint.mono .i64) _ _ _ (hb z4 (List.mem_of_getElem? hz4)) q4
 refine ⟨⟨a0,a1,a2,a3,a4⟩,?_,⟨q0,q1,q2,q3,q4⟩⟩
 rw [show cs=cs.drop 0 from rfl]
 exact ⟨(cs.drop 0).take 1,cs.drop 1,by rw [← List.drop_drop (i:=1) (j:=0),List.take_append_drop],K0,⟨(cs.drop 1).take 1,cs.drop 2,by rw [← List.drop_drop (i:=1) (j:=1),List.take_append_drop],K1,⟨(cs.drop 2).take 1,cs.drop 3,by rw [← List.drop_drop (i:=1) (j:=2),List.take_append_drop],K2,⟨(cs.drop 3).take 1,cs.drop 4,by rw [← List.drop_drop (i:=1) (j:=3),List.take_append_drop],K3,(by rw [show cs.drop 4=(cs.drop 4).take 1 from (List.take_of_length_le (by rw [List.length_drop];omega)).symm];exact K4)⟩⟩⟩⟩
def QS46 (b:Nat) (a:S46):Prop:=(Qint .i64) b a.f0∧(Qint .i64) b a.f1∧(Qint .i64) b a.f2
theorem QS46.mono:∀ b b' a,b≤b'→QS46 b a→QS46 b' a:=fun b b' a h hq => ⟨(Qint.mono .i64) b b' a.f0 h hq.1,(Qint.mono .i64) b b' a.f1 h hq.2.1,(Qint.mono .i64) b b' a.f2 h hq.2.2⟩
theorem fits46 {H:Type} (enc:TypeId × Value→H) (W:World):Fits enc Tryd.prog W 46 k46 QS46:=by
 intro fuel cs x p h
 obtain ⟨xs,n,rfl,hx,hlen,hxl,hall⟩:=DataW.trod_struct Tryd.underlying46 h
 have hx1:=(Prod.mk.inj hx).1
 have hb:∀ z ∈ xs,Rows.uptoBulk z.1≤Rows.uptoBulk x:=by
  intro z hz
  rw [hx1]
  simp only [Rows.uptoBulk]
  have:=bulk_part_le (List.mem_map_of_mem (f:=(·.1)) hz)
  omega
 have hl:cs.length=3:=hlen.trans (by kernel_rfl)
 have hxl':xs.length=3:=hxl
 have e0:=hall 0 _ rfl
 obtain ⟨z0,hz0⟩:∃ z,xs[0]?=some z:=⟨xs[0]'(by omega),List.getElem?_eq_getElem (by omega)⟩
 rw [hz0] at e0
 have c0:Tryd.prog.cellsOf 3=1:=by kernel_rfl
 replace e0:DataW.trod enc Tryd.prog W 0 (fun _ => true) true n 3 ((cs.drop 0).take 1)=some z0:=by rw [← c0];exact e0
 obtain ⟨a0,K0,q0⟩:=(Fits.int Tryd.underlying3) n _ z0.1 z0.2 e0
 replace q0:=(Qint.mono .i64) _ _ _ (hb z0 (List.mem_of_getElem? hz0)) q0
 have e1:=hall 1 _ rfl
 obtain ⟨z1,hz1⟩:∃ z,xs[1]?=some z:=⟨xs[1]'(by omega),List.getElem?_eq_getElem (by omega)⟩
 rw [hz1] at e1
 have c1:Tryd.prog.cellsOf 3=1:=by kernel_rfl
 replace e1:DataW.trod enc Tryd.prog W 0 (fun _ => true) true n 3 ((cs.drop 1).take 1)=some z1:=by rw [← c1];exact e1
 obtain ⟨a1,K1,q1⟩:=(Fits.int Tryd.underlying3) n _ z1.1 z1.2 e1
 replace q1:=(Qint.mono .i64) _ _ _ (hb z1 (List.mem_of_getElem? hz1)) q1
 have e2:=hall 2 _ rfl
 obtain ⟨z2,hz2⟩:∃ z,xs[2]?=some z:=⟨xs[2]'(by omega),List.getElem?_eq_getElem (by omega)⟩
 rw [hz2] at e2
 have c2:Tryd.prog.cellsOf 3=1:=by kernel_rfl
 replace e2:DataW.trod enc Tryd.prog W 0 (fun _ => true) true n 3 ((cs.drop 2).take 1)=some z2:=by rw [← c2];exact e2
 obtain ⟨a2,K2,q2⟩:=(Fits.int Tryd.underlying3) n _ z2.1 z2.2 e2
 replace q2:=(Qint.mono .i64) _ _ _ (hb z2 (List.mem_of_getElem? hz2)) q2
 refine ⟨⟨a0,a1,a2⟩,?_,⟨q0,q1,q2⟩⟩
 rw [show cs=cs.drop 0 from rfl]
 exact ⟨(cs.drop 0).take 1,cs.drop 1,by rw [← List.drop_drop (i:=1) (j:=0),List.take_append_drop],K0,⟨(cs.drop 1).take 1,cs.drop 2,by rw [← List.drop_drop (i:=1) (j:=1),List.take_append_drop],K1,(by rw [show cs.drop 2=(cs.drop 2).take 1 from (List.take_of_length_le (by rw [List.length_drop];omega)).symm];exact K2)⟩⟩
def QS78 (b:Nat) (a:S78):Prop:=(Qint .i64) b a.f0∧(Qint .i64) b a.f1∧(Qint .i64) b a.f2∧(Qint .i64) b a.f3
theorem QS78.mono:∀ b b' a,b≤b'→QS78 b a→QS78 b' a:=fun b b' a h hq => ⟨(Qint.mono .i64) b b' a.f0 h hq.1,(Qint.mono .i64) b b' a.f1 h hq.2.1,(Qint.mono .i64) b b' a.f2 h hq.2.2.1,(Qint.mono .i64) b b' a.f3 h hq.2.2.2⟩
theorem fits78 {H:Type} (enc:TypeId × Value→H) (W:World):Fits enc Tryd.prog W 78 k78 QS78:=by
 intro fuel cs x p h
 obtain ⟨xs,n,rfl,hx,hlen,hxl,hall⟩:=DataW.trod_struct Tryd.underlying78 h
 have hx1:=(Prod.mk.inj hx).1
 have hb:∀ z ∈ xs,Rows.uptoBulk z.1≤Rows.uptoBulk x:=by
  intro z hz
  rw [hx1]
  simp only [Rows.uptoBulk]
  have:=bulk_part_le (List.mem_map_of_mem (f:=(·.1)) hz)
  omega
 have hl:cs.length=4:=hlen.trans (by kernel_rfl)
 have hxl':xs.length=4:=hxl
 have e0:=hall 0 _ rfl
 obtain ⟨z0,hz0⟩:∃ z,xs[0]?=some z:=⟨xs[0]'(by omega),List.getElem?_eq_getElem (by omega)⟩
 rw [hz0] at e0
 have c0:Tryd.prog.cellsOf 3=1:=by kernel_rfl
 replace e0:DataW.trod enc Tryd.prog W 0 (fun _ => true) true n 3 ((cs.drop 0).take 1)=some z0:=by rw [← c0];exact e0
 obtain ⟨a0,K0,q0⟩:=(Fits.int Tryd.underlying3) n _ z0.1 z0.2 e0
 replace q0:=(Qint.mono .i64) _ _ _ (hb z0 (List.mem_of_getElem? hz0)) q0
 have e1:=hall 1 _ rfl
 obtain ⟨z1,hz1⟩:∃ z,xs[1]?=some z:=⟨xs[1]'(by omega),List.getElem?_eq_getElem (by omega)⟩
 rw [hz1] at e1
 have c1:Tryd.prog.cellsOf 3=1:=by kernel_rfl
 replace e1:DataW.trod enc Tryd.prog W 0 (fun _ => true) true n 3 ((cs.drop 1).take 1)=some z1:=by rw [← c1];exact e1
 obtain ⟨a1,K1,q1⟩:=(Fits.int Tryd.underlying3) n _ z1.1 z1.2 e1
 replace q1:=(Qint.mono .i64) _ _ _ (hb z1 (List.mem_of_getElem? hz1)) q1
 have e2:=hall 2 _ rfl
 obtain ⟨z2,hz2⟩:∃ z,xs[2]?=some z:=⟨xs[2]'(by omega),List.getElem?_eq_getElem (by omega)⟩
 rw [hz2] at e2
 have c2:Tryd.prog.cellsOf 3=1:=by kernel_rfl
 replace e2:DataW.trod enc Tryd.prog W 0 (fun _ => true) true n 3 ((cs.drop 2).take 1)=some z2:=by rw [← c2];exact e2
 obtain ⟨a2,K2,q2⟩:=(Fits.int Tryd.underlying3) n _ z2.1 z2.2 e2
 replace q2:=(Qint.mono .i64) _ _ _ (hb z2 (List.mem_of_getElem? hz2)) q2
 have e3:=hall 3 _ rfl
 obtain ⟨z3,hz3⟩:∃ z,xs[3]?=some z:=⟨xs[3]'(by omega),List.getElem?_eq_getElem (by omega)⟩
 rw [hz3] at e3
 have c3:Tryd.prog.cellsOf 3=1:=by kernel_rfl
 replace e3:DataW.trod enc Tryd.prog W 0 (fun _ => true) true n 3 ((cs.drop 3).take 1)=some z3:=by rw [← c3];exact e3
 obtain ⟨a3,K3,q3⟩:=(Fits.int Tryd.underlying3) n _ z3.1 z3.2 e3
 replace q3:=(Qint.mono .i64) _ _ _ (hb z3 (List.mem_of_getElem? hz3)) q3
 refine ⟨⟨a0,a1,a2,a3⟩,?_,⟨q0,q1,q2,q3⟩⟩
 rw [show cs=cs.drop 0 from rfl]
 exact ⟨(cs.drop 0).take 1,cs.drop 1,by rw [← List.drop_drop (i:=1) (j:=0),List.take_append_drop],K0,⟨(cs.drop 1).take 1,cs.drop 2,by rw [← List.drop_drop (i:=1) (j:=1),List.take_append_drop],K1,⟨(cs.drop 2).take 1,cs.drop 3,by rw [← List.drop_drop (i:=1) (j:=2),List.take_append_drop],K2,(by rw [show cs.drop 3=(cs.drop 3).take 1 from (List.take_of_length_le (by rw [List.length_drop];omega)).symm];exact K3)⟩⟩⟩
def QS49 (b:Nat) (a:S49):Prop:=(Qint .i64) b a.f0∧(Qint .i64) b a.f1∧(Qint .i64) b a.f2∧(Qint .i64) b a.f3∧(Qint .i64) b a.f4∧(QAll (Qint .u8)) b a.f5∧(QAll QS78) b a.f6∧(QAll (Qint .u8)) b a.f7
theorem QS49.mono:∀ b b' a,b≤b'→QS49 b a→QS49 b' a:=fun b b' a h hq => ⟨(Qint.mono .i64) b b' a.f0 h hq.1,(Qint.mono .i64) b b' a.f1 h hq.2.1,(Qint.mono .i64) b b' a.f2 h hq.2.2.1,(Qint.mono .i64) b b' a.f3 h hq.2.2.2.1,(Qint.mono .i64) b b' a.f4 h hq.2.2.2.2.1,(QAll.mono (Qint.mono .u8)) b b' a.f5 h hq.2.2.2.2.2.1,(QAll.mono QS78.mono) b b' a.f6 h hq.2.2.2.2.2.2.1,(QAll.mono (Qint.mono .u8)) b b' a.f7 h hq.2.2.2.2.2.2.2⟩
theorem fits49 {H:Type} (enc:TypeId × Value→H) (W:World):Fits enc Tryd.prog W 49 k49 QS49:=by
 intro fuel cs x p h
 obtain ⟨xs,n,rfl,hx,hlen,hxl,hall⟩:=DataW.trod_struct Tryd.underlying49 h
 have hx1:=(Prod.mk.inj hx).1
 have hb:∀ z ∈ xs,Rows.uptoBulk z.1≤Rows.uptoBulk x:=by
  intro z hz
  rw [hx1]
  simp only [Rows.uptoBulk]
  have:=bulk_part_le (List.mem_map_of_mem (f:=(·.1)) hz)
  omega
 have hl:cs.length=8:=hlen.trans (by kernel_rfl)
 have hxl':xs.length=8:=hxl
 have e0:=hall 0 _ rfl
 obtain ⟨z0,hz0⟩:∃ z,xs[0]?=some z:=⟨xs[0]'(by omega),List.getElem?_eq_getElem (by omega)⟩
 rw [hz0] at e0
 have c0:Tryd.prog.cellsOf 3=1:=by kernel_rfl
 replace e0:DataW.trod enc Tryd.prog W 0 (fun _ => true) true n 3 ((cs.drop 0).take 1)=some z0:=by rw [← c0];exact e0
 obtain ⟨a0,K0,q0⟩:=(Fits.int Tryd.underlying3) n _ z0.1 z0.2 e0
 replace q0:=(Qint.mono .i64) _ _ _ (hb z0 (List.mem_of_getElem? hz0)) q0
 have e1:=hall 1 _ rfl
 obtain ⟨z1,hz1⟩:∃ z,xs[1]?=some z:=⟨xs[1]'(by omega),List.getElem?_eq_getElem (by omega)⟩
 rw [hz1] at e1
 have c1:Tryd.prog.cellsOf 3=1:=by kernel_rfl
 replace e1:DataW.trod enc Tryd.prog W 0 (fun _ => true) true n 3 ((cs.drop 1).take 1)=some z1:=by rw [← c1];exact e1
 obtain ⟨a1,K1,q1⟩:=(Fits.int Tryd.underlying3) n _ z1.1 z1.2 e1
 replace q1:=(Qint.mono .i64) _ _ _ (hb z1 (List.mem_of_getElem? hz1)) q1
 have e2:=hall 2 _ rfl
 obtain ⟨z2,hz2⟩:∃ z,xs[2]?=some z:=⟨xs[2]'(by omega),List.getElem?_eq_getElem (by omega)⟩
 rw [hz2] at e2
 have c2:Tryd.prog.cellsOf 3=1:=by kernel_rfl
 replace e2:DataW.trod enc Tryd.prog W 0 (fun _ => true) true n 3 ((cs.drop 2).take 1)=some z2:=by rw [← c2];exact e2
 obtain ⟨a2,K2,q2⟩:=(Fits.int Tryd.underlying3) n _ z2.1 z2.2 e2
 replace q2:=(Qint.mono .i64) _ _ _ (hb z2 (List.mem_of_getElem? hz2)) q2
 have e3:=hall 3 _ rfl
 obtain ⟨z3,hz3⟩:∃ z,xs[3]?=some z:=⟨xs[3]'(by omega),List.getElem?_eq_getElem (by omega)⟩
 rw [hz3] at e3
 have c3:Tryd.prog.cellsOf 3=1:=by kernel_rfl
 replace e3:DataW.trod enc Tryd.prog W 0 (fun _ => true) true n 3 ((cs.drop 3).take 1)=some z3:=by rw [← c3];exact e3
 obtain ⟨a3,K3,q3⟩:=(Fits.int Tryd.underlying3) n _ z3.1 z3.2 e3
 replace q3:=(Qint.mono .i64) _ _ _ (hb z3 (List.mem_of_getElem? hz3)) q3
 have e4:=hall 4 _ rfl
 obtain ⟨z4,hz4⟩:∃ z,xs[4]?=some z:=⟨xs[4]'(by omega),List.getElem?_eq_getElem (by omega)⟩
 rw [hz4] at e4
 have c4:Tryd.prog.cellsOf 3=1:=by kernel_rfl
 replace e4:DataW.trod enc Tryd.prog W 0 (fun _ => true) true n 3 ((cs.drop 4).take 1)=some z4:=by rw [← c4];exact e4
 obtain ⟨a4,K4,q4⟩:=(Fits.int Tryd.underlying3) n _ z4.1 z4.2 e4
 replace q4:=(Qint.mono .i64) _ _ _ (hb z4 (List.mem_of_getElem? hz4)) q4
 have e5:=hall 5 _ rfl
 obtain ⟨z5,hz5⟩:∃ z,xs[5]?=some z:=⟨xs[5]'(by omega),List.getElem?_eq_getElem (by omega)⟩
 rw [hz5] at e5
 have c5:Tryd.prog.cellsOf 27=1:=by kernel_rfl
 replace e5:DataW.trod enc Tryd.prog W 0 (fun _ => true) true n 27 ((cs.drop 5).take 1)=some z5:=by rw [← c5];exact e5
 obtain ⟨a5,K5,q5⟩:=(Fits.slice (Qint.mono .u8) Tryd.underlying27 (by kernel_rfl) (Fits.int Tryd.underlying5)) n _ z5.1 z5.2 e5
 replace q5:=(QAll.mono (Qint.mono .u8)) _ _ _ (hb z5 (List.mem_of_getElem? hz5)) q5
 have e6:=hall 6 _ rfl
 obtain ⟨z6,hz6⟩:∃ z,xs[6]?=some z:=⟨xs[6]'(by omega),List.getElem?_eq_getElem (by omega)⟩
 rw [hz6] at e6
 have c6:Tryd.prog.cellsOf 47=1:=by kernel_rfl
 replace e6:DataW.trod enc Tryd.prog W 0 (fun _ => true) true n 47 ((cs.drop 6).take 1)=some z6:=by rw [← c6];exact e6
 obtain ⟨a6,K6,q6⟩:=(Fits.slice QS78.mono Tryd.underlying47 (by kernel_rfl) (fits78 enc W)) n _ z6.1 z6.2 e6
 replace q6:=(QAll.mono QS78.mono) _ _ _ (hb z6 (List.mem_of_getElem? hz6)) q6
 have e7:=hall 7 _ rfl
 obtain ⟨z7,hz7⟩:∃ z,xs[7]?=some z:=⟨xs[7]'(by omega),List.getElem?_eq_getElem (by omega)⟩
 rw [hz7] at e7
 have c7:Tryd.prog.cellsOf 27=1:=by kernel_rfl
 replace e7:DataW.trod enc Tryd.prog W 0 (fun _ => true) true n 27 ((cs.drop 7).take 1)=some z7:=by rw [← c7];exact e7
 obtain ⟨a7,K7,q7⟩:=(Fits.slice (Qint.mono .u8) Tryd.underlying27 (by kernel_rfl) (Fits.int Tryd.underlying5)) n _ z7.1 z7.2 e7
 replace q7:=(QAll.mono (Qint.mono .u8)) _ _ _ (hb z7 (List.mem_of_getElem? hz7)) q7
 refine ⟨⟨a0,a1,a2,a3,a4,a5,a6,a7⟩,?_,⟨q0,q1,q2,q3,q4,q5,q6,q7⟩⟩
 rw [show cs=cs.drop 0 from rfl]
 exact ⟨(cs.drop 0).take 1,cs.drop 1,by rw [← List.drop_drop (i:=1) (j:=0),List.take_append_drop],K0,⟨(cs.drop 1).take 1,cs.drop 2,by rw [← List.drop_drop (i:=1) (j:=1),List.take_append_drop],K1,⟨(cs.drop 2).take 1,cs.drop 3,by rw [← List.drop_drop (i:=1) (j:=2),List.take_append_drop],K2,⟨(cs.drop 3).take 1,cs.drop 4,by rw [← List.drop_drop (i:=1) (j:=3),List.take_append_drop],K3,⟨(cs.drop 4).take 1,cs.drop 5,by rw [← List.drop_drop (i:=1) (j:=4),List.take_append_drop],K4,⟨(cs.drop 5).take 1,cs.drop 6,by rw [← List.drop_drop (i:=1) (j:=5),List.take_append_drop],K5,⟨(cs.drop 6).take 1,cs.drop 7,by rw [← List.drop_drop (i:=1) (j:=6),List.take_append_drop],K6,(by rw [show cs.drop 7=(cs.drop 7).take 1 from (List.take_of_length_le (by rw [List.length_drop];omega)).symm];exact K7)⟩⟩⟩⟩⟩⟩⟩
theorem open26 {H:Type} (enc:TypeId × Value→H) (W:World) (fuel:Nat) (cs:List Value) (x:DataW H) (p:List MemPlace) (h:DataW.trod enc Tryd.prog W 0 (fun _ => true) true fuel 26 cs=some (x,p)) (b:Nat) (hbb:Rows.uptoBulk x≤b):∃ (A0:Option Addr) (c0:Nat) (a0:List S60) (a1:Int) (a2:Int) (A3:Option Addr) (c3:Nat) (a3:List S46) (A4:Option Addr) (c4:Nat) (a4:List S49),cs=[.slice A0 a0.length c0,.int .i64 a1,.int .i64 a2,.slice A3 a3.length c3,.slice A4 a4.length c4]∧(k60.C W A0 a0.length a0)∧(a0.length≤c0)∧(k46.C W A3 a3.length a3)∧(a3.length≤c3)∧(k49.C W A4 a4.length a4)∧(a4.length≤c4)∧((QAll QS60) b a0)∧((Qint .i64) b a1)∧((Qint .i64) b a2)∧((QAll QS46) b a3)∧((QAll QS49) b a4):=by
 obtain ⟨xs,n,rfl,hx,hlen,hxl,hall⟩:=DataW.trod_struct Tryd.underlying26 h
 have hx1:=(Prod.mk.inj hx).1
 have hb:∀ z ∈ xs,Rows.uptoBulk z.1≤Rows.uptoBulk x:=by
  intro z hz
  rw [hx1]
  simp only [Rows.uptoBulk]
  have:=bulk_part_le (List.mem_map_of_mem (f:=(·.1)) hz)
  omega
 have hl:cs.length=5:=hlen.trans (by kernel_rfl)
 have hxl':xs.length=5:=hxl
 obtain ⟨y0,y1,y2,y3,y4,rfl⟩:∃ y0 y1 y2 y3 y4,cs=[y0,y1,y2,y3,y4]:=by
  match cs,hl with
  | [y0,y1,y2,y3,y4],_ => exact ⟨y0,y1,y2,y3,y4,rfl⟩
 have e0:=hall 0 _ rfl
 obtain ⟨z0,hz0⟩:∃ z,xs[0]?=some z:=⟨xs[0]'(by omega),List.getElem?_eq_getElem (by omega)⟩
 rw [hz0] at e0
 have k0:Tryd.prog.cellsOf 22=1:=by kernel_rfl
 replace e0:DataW.trod enc Tryd.prog W 0 (fun _ => true) true n 22 [y0]=some z0:=by first|exact e0|(rw [k0] at e0;exact e0)
 obtain ⟨a0,⟨A0,c0,hc0,hp0,hr0⟩,q0⟩:=(Fits.slice QS60.mono Tryd.underlying22 (by kernel_rfl) (fits60 enc W)) n _ z0.1 z0.2 e0
 replace q0:=(QAll.mono QS60.mono) _ b _ (Nat.le_trans (hb z0 (List.mem_of_getElem? hz0)) hbb) q0
 obtain rfl:y0=_:=List.head_eq_of_cons_eq hc0
 have e1:=hall 1 _ rfl
 obtain ⟨z1,hz1⟩:∃ z,xs[1]?=some z:=⟨xs[1]'(by omega),List.getElem?_eq_getElem (by omega)⟩
 rw [hz1] at e1
 have k1:Tryd.prog.cellsOf 3=1:=by kernel_rfl
 replace e1:DataW.trod enc Tryd.prog W 0 (fun _ => true) true n 3 [y1]=some z1:=by first|exact e1|(rw [k1] at e1;exact e1)
 obtain ⟨a1,hc1,q1⟩:=(Fits.int Tryd.underlying3) n _ z1.1 z1.2 e1
 replace q1:=(Qint.mono .i64) _ b _ (Nat.le_trans (hb z1 (List.mem_of_getElem? hz1)) hbb) q1
 obtain rfl:y1=_:=List.head_eq_of_cons_eq hc1
 have e2:=hall 2 _ rfl
 obtain ⟨z2,hz2⟩:∃ z,xs[2]?=some z:=⟨xs[2]'(by omega),List.getElem?_eq_getElem (by omega)⟩
 rw [hz2] at e2
 have k2:Tryd.prog.cellsOf 3=1:=by kernel_rfl
 replace e2:DataW.trod enc Tryd.prog W 0 (fun _ => true) true n 3 [y2]=some z2:=by first|exact e2|(rw [k2] at e2;exact e2)
 obtain ⟨a2,hc2,q2⟩:=(Fits.int Tryd.underlying3) n _ z2.1 z2.2 e2
 replace q2:=(Qint.mono .i64) _ b _ (Nat.le_trans (hb z2 (List.mem_of_getElem? hz2)) hbb) q2
 obtain rfl:y2=_:=List.head_eq_of_cons_eq hc2
 have e3:=hall 3 _ rfl
 obtain ⟨z3,hz3⟩:∃ z,xs[3]?=some z:=⟨xs[3]'(by omega),List.getElem?_eq_getElem (by omega)⟩
 rw [hz3] at e3
 have k3:Tryd.prog.cellsOf 23=1:=by kernel_rfl
 replace e3:DataW.trod enc Tryd.prog W 0 (fun _ => true) true n 23 [y3]=some z3:=by first|exact e3|(rw [k3] at e3;exact e3)
 obtain ⟨a3,⟨A3,c3,hc3,hp3,hr3⟩,q3⟩:=(Fits.slice QS46.mono Tryd.underlying23 (by kernel_rfl) (fits46 enc W)) n _ z3.1 z3.2 e3
 replace q3:=(QAll.mono QS46.mono) _ b _ (Nat.le_trans (hb z3 (List.mem_of_getElem? hz3)) hbb) q3
 obtain rfl:y3=_:=List.head_eq_of_cons_eq hc3
 have e4:=hall 4 _ rfl
 obtain ⟨z4,hz4⟩:∃ z,xs[4]?=some z:=⟨xs[4]'(by omega),List.getElem?_eq_getElem (by omega)⟩
 rw [hz4] at e4
 have k4:Tryd.prog.cellsOf 24=1:=by kernel_rfl
 replace e4:DataW.trod enc Tryd.prog W 0 (fun _ => true) true n 24 [y4]=some z4:=by first|exact e4|(rw [k4] at e4;exact e4)
 obtain ⟨a4,⟨A4,c4,hc4,hp4,hr4⟩,q4⟩:=(Fits.slice QS49.mono Tryd.underlying24 (by kernel_rfl) (fits49 enc W)) n _ z4.1 z4.2 e4
 replace q4:=(QAll.mono QS49.mono) _ b _ (Nat.le_trans (hb z4 (List.mem_of_getElem? hz4)) hbb) q4
 obtain rfl:y4=_:=List.head_eq_of_cons_eq hc4
 exact ⟨A0,c0,a0,a1,a2,A3,c3,a3,A4,c4,a4,rfl,hr0,hp0,hr3,hp3,hr4,hp4,q0,q1,q2,q3,q4⟩
end Go.Proofs.YtmloaijagkebpaaDoor.Px
namespace Go.Proofs.YtmloaijagkebpaaDoor.Px
open Go.RowKit Go.Proofs.YtmloaijagkebpaaDoorW.PrintWords Go.Proofs.YtmloaijagkebpaaDoorW.PrintLast Go.Proofs.YtmloaijagkebpaaDoorW.PrintMore
attribute [local go_sem] max2_int min2_int max_two min_two max_three min_three max_four min_four
set_option linter.unusedVariables false
set_option linter.unusedSimpArgs false
mutual
def pool_fields.j0:Nat→Int→Bool→Int→ByteArray→Int→Int→Int→Int→ByteArray→Int→Int→Int→Option (Int × ByteArray × Int × Int × Int)
 | 0,_,_,_,_,_,_,_,_,_,_,_,_ => none
 | k + 1,x8,x11,x117000,x117001,x117002,x117003,x117004,x119000,x119001,x119002,x119003,x119004 => if x11=true then (some (x119000,x119001,x117002,x119003,x119004)) else (if x8=9 then (pool_fields.j1 k x8 (x8==9) x117000 x117001 x117002 x117003 x117004 x119000 x119001 x119002 x119003 x119004) else (if x8=10 then (pool_fields.j1 k x8 (x8==10) x117000 x117001 x117002 x117003 x117004 x119000 x119001 x119002 x119003 x119004) else (pool_fields.j1 k x8 (x8==12) x117000 x117001 x117002 x117003 x117004 x119000 x119001 x119002 x119003 x119004)))
def pool_fields.j1:Nat→Int→Bool→Int→ByteArray→Int→Int→Int→Int→ByteArray→Int→Int→Int→Option (Int × ByteArray × Int × Int × Int)
 | 0,_,_,_,_,_,_,_,_,_,_,_,_ => none
 | k + 1,x8,x14,x117000,x117001,x117002,x117003,x117004,x119000,x119001,x119002,x119003,x119004 => if x14=true then (some (x119000,x119001,x119002,x117003,x117004)) else (if x8=7 then (some (x119000,x119001,x119002,x117003,x119004)) else (some (x119000,x119001,x119002,x119003,x119004)))
end
def pool_fields.f (k:Nat) (a0_0:Int) (a0_1:ByteArray) (a0_2:Int) (a0_3:Int) (a0_4:Int):Option (Int × ByteArray × Int × Int × Int):=if a0_0=1 then (some (a0_0,a0_1,0,0,0)) else (if a0_0=3 then (pool_fields.j0 k a0_0 (a0_0==3) a0_0 a0_1 a0_2 a0_3 a0_4 a0_0 (⟨#[]⟩:ByteArray) 0 0 0) else (pool_fields.j0 k a0_0 (a0_0==5) a0_0 a0_1 a0_2 a0_3 a0_4 a0_0 (⟨#[]⟩:ByteArray) 0 0 0))
theorem pool_fields.mono_l:∀ k,(∀ y0 y1 y2 y3 y4 y5 y6 y7 y8 y9 y10 y11,LeO (pool_fields.j0 k y0 y1 y2 y3 y4 y5 y6 y7 y8 y9 y10 y11) (pool_fields.j0 (k + 1) y0 y1 y2 y3 y4 y5 y6 y7 y8 y9 y10 y11))∧(∀ y0 y1 y2 y3 y4 y5 y6 y7 y8 y9 y10 y11,LeO (pool_fields.j1 k y0 y1 y2 y3 y4 y5 y6 y7 y8 y9 y10 y11) (pool_fields.j1 (k + 1) y0 y1 y2 y3 y4 y5 y6 y7 y8 y9 y10 y11))
 | 0 => ⟨fun _ _ _ _ _ _ _ _ _ _ _ _ r h => by simp [pool_fields.j0] at h,fun _ _ _ _ _ _ _ _ _ _ _ _ r h => by simp [pool_fields.j1] at h⟩
 | k + 1 => by
  obtain ⟨ih0,ih1⟩:=pool_fields.mono_l k
  refine ⟨?_,?_⟩
  ·intro y0 y1 y2 y3 y4 y5 y6 y7 y8 y9 y10 y11
   unfold pool_fields.j0
   repeat' first
   | (with_reducible exact ih0 _ _ _ _ _ _ _ _ _ _ _ _)
   | (with_reducible exact ih1 _ _ _ _ _ _ _ _ _ _ _ _)
   | (with_reducible exact LeO.refl _)
   | (with_reducible exact LeO.none _)
   | (with_reducible refine LeO.ite ?_ ?_)
   | (with_reducible refine LeO.bind ?_ (fun _ => ?_))
   | exact ih0 _ _ _ _ _ _ _ _ _ _ _ _
   | exact ih1 _ _ _ _ _ _ _ _ _ _ _ _
   | exact LeO.none _
   | refine LeO.ite ?_ ?_
   | refine LeO.bind ?_ (fun _ => ?_)
  ·intro y0 y1 y2 y3 y4 y5 y6 y7 y8 y9 y10 y11
   unfold pool_fields.j1
   repeat' first
   | (with_reducible exact ih0 _ _ _ _ _ _ _ _ _ _ _ _)
   | (with_reducible exact ih1 _ _ _ _ _ _ _ _ _ _ _ _)
   | (with_reducible exact LeO.refl _)
   | (with_reducible exact LeO.none _)
   | (with_reducible refine LeO.ite ?_ ?_)
   | (with_reducible refine LeO.bind ?_ (fun _ => ?_))
   | exact ih0 _ _ _ _ _ _ _ _ _ _ _ _
   | exact ih1 _ _ _ _ _ _ _ _ _ _ _ _
   | exact LeO.none _
   | refine LeO.ite ?_ ?_
   | refine LeO.bind ?_ (fun _ => ?_)
theorem pool_fields.mono:∀ a0 a1 a2 a3 a4 k,LeO (pool_fields.f k a0 a1 a2 a3 a4) (pool_fields.f (k + 1) a0 a1 a2 a3 a4):=by
 intro a0 a1 a2 a3 a4 k
 obtain ⟨ih0,ih1⟩:=pool_fields.mono_l k
 unfold pool_fields.f
 repeat' first
   | (with_reducible exact ih0 _ _ _ _ _ _ _ _ _ _ _ _)
   | (with_reducible exact ih1 _ _ _ _ _ _ _ _ _ _ _ _)
   | (with_reducible exact LeO.refl _)
   | (with_reducible exact LeO.none _)
   | (with_reducible refine LeO.ite ?_ ?_)
   | (with_reducible refine LeO.bind ?_ (fun _ => ?_))
   | exact ih0 _ _ _ _ _ _ _ _ _ _ _ _
   | exact ih1 _ _ _ _ _ _ _ _ _ _ _ _
   | exact LeO.none _
   | refine LeO.ite ?_ ?_
   | refine LeO.bind ?_ (fun _ => ?_)
set_option maxHeartbeats 80000000 in
set_option maxRecDepth 100000 in
theorem pool_fields.calls (k:Nat) (a0_0:Int) (a0_1:ByteArray) (a0_2:Int) (a0_3:Int) (a0_4:Int) (r1:Int) (r2:ByteArray) (r3:Int) (r4:Int) (r5:Int) (w:World) (h:pool_fields.f k a0_0 a0_1 a0_2 a0_3 a0_4=some (r1,r2,r3,r4,r5)) :
  Calls Tryd.prog 59 #[.agg #[.int .i64 a0_0,.string a0_1,.int .i64 a0_2,.int .i64 a0_3,.int .i64 a0_4]] w fun e w' => e=.returned (.agg #[.int .i64 r1,.string r2,.int .i64 r3,.int .i64 r4,.int .i64 r5])∧Below w.heap.size w w':=by
 have hu60:=Tryd.underlying60
 have HB:=Aside0.mk (Below.refl w.heap.size w)
 have H:(if a0_0=1 then (some (a0_0,a0_1,0,0,0)) else (if a0_0=3 then (pool_fields.j0 k a0_0 (a0_0==3) a0_0 a0_1 a0_2 a0_3 a0_4 a0_0 (⟨#[]⟩:ByteArray) 0 0 0) else (pool_fields.j0 k a0_0 (a0_0==5) a0_0 a0_1 a0_2 a0_3 a0_4 a0_0 (⟨#[]⟩:ByteArray) 0 0 0)))=some (r1,r2,r3,r4,r5):=h
 clear h
 by_cases c2:a0_0=1
 ·rw [if_pos c2] at H
  have c2b0:(a0_0==1)=true:=beq_iff_eq.mpr c2
  have c2b1:(a0_0 != 1)=false:=bne_eq_false_iff_eq.mpr c2
  clear c2
  simp only [Option.some.injEq,Prod.mk.injEq] at H
  obtain ⟨rfl,rfl,rfl,rfl,rfl⟩:=H
  go_enter Tryd.func59,Tryd.ntmps59
  go_wp2_with (first|((with_reducible refine gate_dst (N:=1) rfl ?_);refine box_event ?hg (N:=1) ?hd (cs:=#[.int .i64 a0_0,.string a0_1,.int .i64 a0_2,.int .i64 a0_3,.int .i64 a0_4]) (t:=60) ?hr ?_;(case hd => rfl);(case hg => rfl);(case hr => first|(go_simp;done)|(go_simp;rfl));intro gb116 hg w3 hbox hb;have n0_:=Aside0.mk (below_step bl_ hb);have n1_:=Aside0.mk (hbox);have n2_:=Aside0.mk ((by rw [hg];exact (below_size bl_):w.heap.size≤gb116));have n3_:=Aside0.mk ((by rw [hg];exact (below_size bl_):w.heap.size≤gb116));clear HB;have HB:=n0_;have BK116:=n1_;have GW116:=n2_;have GE116:=n3_;clear n0_ n1_ n2_ n3_;clear hb hbox hg)|((with_reducible refine gate_dst (N:=2) rfl ?_);refine box_event ?hg (N:=2) ?hd (cs:=#[.int .i64 0,.string (⟨#[]⟩:ByteArray),.int .i64 0,.int .i64 0,.int .i64 0]) (t:=60) ?hr ?_;(case hd => rfl);(case hg => rfl);(case hr => first|(go_simp;done)|(go_simp;rfl));intro gb117 hg w4 hbox hb;have n0_:=Aside0.mk (blk_below (g:=gb116) (o:=.cells #[.int .i64 a0_0,.string a0_1,.int .i64 a0_2,.int .i64 a0_3,.int .i64 a0_4] 60 (0,0)) bk_ hb);have n1_:=Aside0.mk (below_step bl_ hb);have n2_:=Aside0.mk (hbox);have n3_:=Aside0.mk ((by rw [hg];exact (below_size bl_):w.heap.size≤gb117));have n4_:=Aside0.mk ((by rw [hg];exact (below_size bl_):w.heap.size≤gb117));have n5_:=Aside0.mk ((by rw [hg];exact Nat.ne_of_lt (blk_lt (g:=gb116) (o:=.cells #[.int .i64 a0_0,.string a0_1,.int .i64 a0_2,.int .i64 a0_3,.int .i64 a0_4] 60 (0,0)) bk_):gb116 ≠ gb117));have n6_:=Aside0.mk ((by rw [hg];exact Nat.ne_of_gt (blk_lt (g:=gb116) (o:=.cells #[.int .i64 a0_0,.string a0_1,.int .i64 a0_2,.int .i64 a0_3,.int .i64 a0_4] 60 (0,0)) bk_):gb117 ≠ gb116));clear BK116;clear HB;have BK116:=n0_;have HB:=n1_;have BK117:=n2_;have GW117:=n3_;have GE117:=n4_;have NB116_117:=n5_;have NB117_116:=n6_;clear n0_ n1_ n2_ n3_ n4_ n5_ n6_;clear hb hbox hg;have hnb5:=NB116_117.out;have hnc5:=NB117_116.out;obtain ⟨hcz6_0,hcz6_1,hcz6_2,hcz6_3,hcz6_4⟩:=blc5_ BK116.out;have hfz6_0:=blk_frozen BK116.out 0;have hfz6_1:=blk_frozen BK116.out 1;have hfz6_2:=blk_frozen BK116.out 2;have hfz6_3:=blk_frozen BK116.out 3;have hfz6_4:=blk_frozen BK116.out 4)|((with_reducible refine gate_dst (N:=3) rfl ?_);refine box_event ?hg (N:=3) ?hd (cs:=#[.int .i64 0,.string (⟨#[]⟩:ByteArray),.int .i64 0,.int .i64 0,.int .i64 0]) (t:=60) ?hr ?_;(case hd => rfl);(case hg => rfl);(case hr => first|(go_simp;done)|(go_simp;rfl));intro gb118 hg w7 hbox hb;have n0_:=Aside0.mk (blk_below (g:=gb116) (o:=.cells #[.int .i64 a0_0,.string a0_1,.int .i64 a0_2,.int .i64 a0_3,.int .i64 a0_4] 60 (0,0)) bk_ hb);have n1_:=Aside0.mk (blk_below (g:=gb117) (o:=.cells #[.int .i64 0,.string (⟨#[]⟩:ByteArray),.int .i64 0,.int .i64 0,.int .i64 0] 60 (0,0)) bk_ hb);have n2_:=Aside0.mk (below_step bl_ hb);have n3_:=Aside0.mk (hbox);have n4_:=Aside0.mk ((by rw [hg];exact (below_size bl_):w.heap.size≤gb118));have n5_:=Aside0.mk ((by rw [hg];exact (below_size bl_):w.heap.size≤gb118));have n6_:=Aside0.mk ((by rw [hg];exact Nat.ne_of_lt (blk_lt (g:=gb116) (o:=.cells #[.int .i64 a0_0,.string a0_1,.int .i64 a0_2,.int .i64 a0_3,.int .i64 a0_4] 60 (0,0)) bk_):gb116 ≠ gb118));have n7_:=Aside0.mk ((by rw [hg];exact Nat.ne_of_gt (blk_lt (g:=gb116) (o:=.cells #[.int .i64 a0_0,.string a0_1,.int .i64 a0_2,.int .i64 a0_3,.int .i64 a0_4] 60 (0,0)) bk_):gb118 ≠ gb116));have n8_:=Aside0.mk ((by rw [hg];exact Nat.ne_of_lt (blk_lt (g:=gb117) (o:=.cells #[.int .i64 0,.string (⟨#[]⟩:ByteArray),.int .i64 0,.int .i64 0,.int .i64 0] 60 (0,0)) bk_):gb117 ≠ gb118));have n9_:=Aside0.mk ((by rw [hg];exact Nat.ne_of_gt (blk_lt (g:=gb117) (o:=.cells #[.int .i64 0,.string (⟨#[]⟩:ByteArray),.int .i64 0,.int .i64 0,.int .i64 0] 60 (0,0)) bk_):gb118 ≠ gb117));clear BK116;clear BK117;clear HB;have BK116:=n0_;have BK117:=n1_;have HB:=n2_;have BK118:=n3_;have GW118:=n4_;have GE118:=n5_;have NB116_118:=n6_;have NB118_116:=n7_;have NB117_118:=n8_;have NB118_117:=n9_;clear n0_ n1_ n2_ n3_ n4_ n5_ n6_ n7_ n8_ n9_;clear hb hbox hg;have hnb8:=NB118_116.out;have hnc8:=NB116_118.out;have hnb9:=NB118_117.out;have hnc9:=NB117_118.out;obtain ⟨hcz10_0,hcz10_1,hcz10_2,hcz10_3,hcz10_4⟩:=blc5_ BK118.out;have hfz10_0:=blk_frozen BK118.out 0;have hfz10_1:=blk_frozen BK118.out 1;have hfz10_2:=blk_frozen BK118.out 2;have hfz10_3:=blk_frozen BK118.out 3;have hfz10_4:=blk_frozen BK118.out 4)|((with_reducible refine gate_store (t:=60) (p:=3) rfl ?_);refine store_event (t:=60) (p:=3) (v:=?vo_w11) (w1:=(((((w7.setCell ⟨gb118,0,none⟩ (.int .i64 a0_0)).setCell ⟨gb118,1,none⟩ (.string (⟨#[]⟩:ByteArray))).setCell ⟨gb118,2,none⟩ (.int .i64 0)).setCell ⟨gb118,3,none⟩ (.int .i64 0)).setCell ⟨gb118,4,none⟩ (.int .i64 0))) ?hg ?ho ?hn ?hr ?_;(case ho => rfl);(case hg => rfl);(case hn => rfl);(case hr => first|(go_simp;done)|(go_simp;rfl));intro w11 hw;have n0_:Aside0 (w11.heap[gb116]?=some (.cells #[.int .i64 a0_0,.string a0_1,.int .i64 a0_2,.int .i64 a0_3,.int .i64 a0_4] 60 (0,0))):=⟨(by rw [hw];exact bk_)⟩;have n1_:Aside0 (w11.heap[gb117]?=some (.cells #[.int .i64 0,.string (⟨#[]⟩:ByteArray),.int .i64 0,.int .i64 0,.int .i64 0] 60 (0,0))):=⟨(by rw [hw];exact bk_)⟩;have n2_:Aside0 (w11.heap[gb118]?=some (.cells #[.int .i64 a0_0,.string (⟨#[]⟩:ByteArray),.int .i64 0,.int .i64 0,.int .i64 0] 60 (0,0))):=⟨(by rw [hw];exact (st5_ BK118.out))⟩;have n3_:Aside0 (Below w.heap.size w w11):=⟨(by rw [hw];exact bl_)⟩;clear hw;clear BK116;clear BK117;clear BK118;clear HB;have BK116:=n0_;have BK117:=n1_;have BK118:=n2_;have HB:=n3_;clear n0_ n1_ n2_ n3_;obtain ⟨hcz12_0,hcz12_1,hcz12_2,hcz12_3,hcz12_4,hfz12_0,hfz12_1,hfz12_2,hfz12_3,hfz12_4⟩:=blk5_ BK116.out;obtain ⟨hcz13_0,hcz13_1,hcz13_2,hcz13_3,hcz13_4,hfz13_0,hfz13_1,hfz13_2,hfz13_3,hfz13_4⟩:=blk5_ BK118.out;obtain ⟨hcz14_0,hcz14_1,hcz14_2,hcz14_3,hcz14_4⟩:=blc5_ BK117.out;have hfz14_0:=blk_frozen BK117.out 0;have hfz14_1:=blk_frozen BK117.out 1;have hfz14_2:=blk_frozen BK117.out 2;have hfz14_3:=blk_frozen BK117.out 3;have hfz14_4:=blk_frozen BK117.out 4)|((with_reducible refine gate_store (t:=60) (p:=2) rfl ?_);refine store_event (t:=60) (p:=2) (v:=?vo_w15) (w1:=((((((w11.setCell ⟨gb118,1,none⟩ (.string a0_1)).setCell ⟨gb117,0,none⟩ (.int .i64 a0_0)).setCell ⟨gb117,1,none⟩ (.string a0_1)).setCell ⟨gb117,2,none⟩ (.int .i64 0)).setCell ⟨gb117,3,none⟩ (.int .i64 0)).setCell ⟨gb117,4,none⟩ (.int .i64 0))) ?hg ?ho ?hn ?hr ?_;(case ho => rfl);(case hg => rfl);(case hn => rfl);(case hr => first|(go_simp;done)|(go_simp;rfl));intro w15 hw;have n0_:Aside0 (w15.heap[gb116]?=some (.cells #[.int .i64 a0_0,.string a0_1,.int .i64 a0_2,.int .i64 a0_3,.int .i64 a0_4] 60 (0,0))):=⟨(by rw [hw];exact bk_)⟩;have n1_:Aside0 (w15.heap[gb117]?=some (.cells #[.int .i64 a0_0,.string a0_1,.int .i64 0,.int .i64 0,.int .i64 0] 60 (0,0))):=⟨(by rw [hw];exact (by (with_reducible repeat (first|refine blk_drewN ?_ _|refine blk_drew ?_|refine blk_alloc ?_ _));refine blk_put (cs:=#[.int .i64 a0_0,.string a0_1,.int .i64 0,.int .i64 0,.int .i64 0]) ?_ 4 _ rfl;(with_reducible repeat (first|refine blk_drewN ?_ _|refine blk_drew ?_|refine blk_alloc ?_ _));refine blk_put (cs:=#[.int .i64 a0_0,.string a0_1,.int .i64 0,.int .i64 0,.int .i64 0]) ?_ 3 _ rfl;(with_reducible repeat (first|refine blk_drewN ?_ _|refine blk_drew ?_|refine blk_alloc ?_ _));refine blk_put (cs:=#[.int .i64 a0_0,.string a0_1,.int .i64 0,.int .i64 0,.int .i64 0]) ?_ 2 _ rfl;(with_reducible repeat (first|refine blk_drewN ?_ _|refine blk_drew ?_|refine blk_alloc ?_ _));refine blk_put (cs:=#[.int .i64 a0_0,.string (⟨#[]⟩:ByteArray),.int .i64 0,.int .i64 0,.int .i64 0]) ?_ 1 _ rfl;(with_reducible repeat (first|refine blk_drewN ?_ _|refine blk_drew ?_|refine blk_alloc ?_ _));refine blk_put (cs:=#[.int .i64 0,.string (⟨#[]⟩:ByteArray),.int .i64 0,.int .i64 0,.int .i64 0]) ?_ 0 _ rfl;(with_reducible repeat (first|refine blk_drewN ?_ _|refine blk_drew ?_|refine blk_alloc ?_ _));refine blk_far ?_ NB117_118.out _;(with_reducible repeat (first|refine blk_drewN ?_ _|refine blk_drew ?_|refine blk_alloc ?_ _));exact BK117.out))⟩;have n2_:Aside0 (w15.heap[gb118]?=some (.cells #[.int .i64 a0_0,.string a0_1,.int .i64 0,.int .i64 0,.int .i64 0] 60 (0,0))):=⟨(by rw [hw];exact (by (with_reducible repeat (first|refine blk_drewN ?_ _|refine blk_drew ?_|refine blk_alloc ?_ _));refine blk_far ?_ NB118_117.out _;(with_reducible repeat (first|refine blk_drewN ?_ _|refine blk_drew ?_|refine blk_alloc ?_ _));refine blk_far ?_ NB118_117.out _;(with_reducible repeat (first|refine blk_drewN ?_ _|refine blk_drew ?_|refine blk_alloc ?_ _));refine blk_far ?_ NB118_117.out _;(with_reducible repeat (first|refine blk_drewN ?_ _|refine blk_drew ?_|refine blk_alloc ?_ _));refine blk_far ?_ NB118_117.out _;(with_reducible repeat (first|refine blk_drewN ?_ _|refine blk_drew ?_|refine blk_alloc ?_ _));refine blk_far ?_ NB118_117.out _;(with_reducible repeat (first|refine blk_drewN ?_ _|refine blk_drew ?_|refine blk_alloc ?_ _));refine blk_put (cs:=#[.int .i64 a0_0,.string (⟨#[]⟩:ByteArray),.int .i64 0,.int .i64 0,.int .i64 0]) ?_ 1 _ rfl;(with_reducible repeat (first|refine blk_drewN ?_ _|refine blk_drew ?_|refine blk_alloc ?_ _));exact BK118.out))⟩;have n3_:Aside0 (Below w.heap.size w w15):=⟨(by rw [hw];exact bl_)⟩;clear hw;clear BK116;clear BK117;clear BK118;clear HB;have BK116:=n0_;have BK117:=n1_;have BK118:=n2_;have HB:=n3_;clear n0_ n1_ n2_ n3_))
  refine bodyPost_ret (results_cell_row rfl _ _ gb117 60 #[.int .i64 a0_0,.string a0_1,.int .i64 0,.int .i64 0,.int .i64 0] (0,0) _ rfl bk_ Tryd.underlying60 rfl (by kernel_rfl)) rfl ?_
  exact ⟨ew_,bl_⟩
 ·rw [if_neg c2] at H
  have c2b0:(a0_0==1)=false:=beq_eq_false_iff_ne.mpr c2
  have c2b1:(a0_0 != 1)=true:=bne_iff_ne.mpr c2
  have HC16:=Aside0.mk H
  clear H
  go_enter Tryd.func59,Tryd.ntmps59
  go_upto_if 11 with (first|((with_reducible refine gate_dst (N:=1) rfl ?_);refine box_event ?hg (N:=1) ?hd (cs:=#[.int .i64 a0_0,.string a0_1,.int .i64 a0_2,.int .i64 a0_3,.int .i64 a0_4]) (t:=60) ?hr ?_;(case hd => rfl);(case hg => rfl);(case hr => first|(go_simp;done)|(go_simp;rfl));intro gb116 hg w17 hbox hb;have n0_:=Aside0.mk (below_step bl_ hb);have n1_:=Aside0.mk (hbox);have n2_:=Aside0.mk ((by rw [hg];exact (below_size bl_):w.heap.size≤gb116));have n3_:=Aside0.mk ((by rw [hg];exact (below_size bl_):w.heap.size≤gb116));clear HB;have HB:=n0_;have BK116:=n1_;have GW116:=n2_;have GE116:=n3_;clear n0_ n1_ n2_ n3_;clear hb hbox hg)|((with_reducible refine gate_dst (N:=2) rfl ?_);refine box_event ?hg (N:=2) ?hd (cs:=#[.int .i64 0,.string (⟨#[]⟩:ByteArray),.int .i64 0,.int .i64 0,.int .i64 0]) (t:=60) ?hr ?_;(case hd => rfl);(case hg => rfl);(case hr => first|(go_simp;done)|(go_simp;rfl));intro gb117 hg w18 hbox hb;have n0_:=Aside0.mk (blk_below (g:=gb116) (o:=.cells #[.int .i64 a0_0,.string a0_1,.int .i64 a0_2,.int .i64 a0_3,.int .i64 a0_4] 60 (0,0)) bk_ hb);have n1_:=Aside0.mk (below_step bl_ hb);have n2_:=Aside0.mk (hbox);have n3_:=Aside0.mk ((by rw [hg];exact (below_size bl_):w.heap.size≤gb117));have n4_:=Aside0.mk ((by rw [hg];exact (below_size bl_):w.heap.size≤gb117));have n5_:=Aside0.mk ((by rw [hg];exact Nat.ne_of_lt (blk_lt (g:=gb116) (o:=.cells #[.int .i64 a0_0,.string a0_1,.int .i64 a0_2,.int .i64 a0_3,.int .i64 a0_4] 60 (0,0)) bk_):gb116 ≠ gb117));have n6_:=Aside0.mk ((by rw [hg];exact Nat.ne_of_gt (blk_lt (g:=gb116) (o:=.cells #[.int .i64 a0_0,.string a0_1,.int .i64 a0_2,.int .i64 a0_3,.int .i64 a0_4] 60 (0,0)) bk_):gb117 ≠ gb116));clear BK116;clear HB;have BK116:=n0_;have HB:=n1_;have BK117:=n2_;have GW117:=n3_;have GE117:=n4_;have NB116_117:=n5_;have NB117_116:=n6_;clear n0_ n1_ n2_ n3_ n4_ n5_ n6_;clear hb hbox hg;have hnb19:=NB116_117.out;have hnc19:=NB117_116.out;obtain ⟨hcz20_0,hcz20_1,hcz20_2,hcz20_3,hcz20_4⟩:=blc5_ BK116.out;have hfz20_0:=blk_frozen BK116.out 0;have hfz20_1:=blk_frozen BK116.out 1;have hfz20_2:=blk_frozen BK116.out 2;have hfz20_3:=blk_frozen BK116.out 3;have hfz20_4:=blk_frozen BK116.out 4)|((with_reducible refine gate_dst (N:=3) rfl ?_);refine box_event ?hg (N:=3) ?hd (cs:=#[.int .i64 0,.string (⟨#[]⟩:ByteArray),.int .i64 0,.int .i64 0,.int .i64 0]) (t:=60) ?hr ?_;(case hd => rfl);(case hg => rfl);(case hr => first|(go_simp;done)|(go_simp;rfl));intro gb118 hg w21 hbox hb;have n0_:=Aside0.mk (blk_below (g:=gb116) (o:=.cells #[.int .i64 a0_0,.string a0_1,.int .i64 a0_2,.int .i64 a0_3,.int .i64 a0_4] 60 (0,0)) bk_ hb);have n1_:=Aside0.mk (blk_below (g:=gb117) (o:=.cells #[.int .i64 0,.string (⟨#[]⟩:ByteArray),.int .i64 0,.int .i64 0,.int .i64 0] 60 (0,0)) bk_ hb);have n2_:=Aside0.mk (below_step bl_ hb);have n3_:=Aside0.mk (hbox);have n4_:=Aside0.mk ((by rw [hg];exact (below_size bl_):w.heap.size≤gb118));have n5_:=Aside0.mk ((by rw [hg];exact (below_size bl_):w.heap.size≤gb118));have n6_:=Aside0.mk ((by rw [hg];exact Nat.ne_of_lt (blk_lt (g:=gb116) (o:=.cells #[.int .i64 a0_0,.string a0_1,.int .i64 a0_2,.int .i64 a0_3,.int .i64 a0_4] 60 (0,0)) bk_):gb116 ≠ gb118));have n7_:=Aside0.mk ((by rw [hg];exact Nat.ne_of_gt (blk_lt (g:=gb116) (o:=.cells #[.int .i64 a0_0,.string a0_1,.int .i64 a0_2,.int .i64 a0_3,.int .i64 a0_4] 60 (0,0)) bk_):gb118 ≠ gb116));have n8_:=Aside0.mk ((by rw [hg];exact Nat.ne_of_lt (blk_lt (g:=gb117) (o:=.cells #[.int .i64 0,.string (⟨#[]⟩:ByteArray),.int .i64 0,.int .i64 0,.int .i64 0] 60 (0,0)) bk_):gb117 ≠ gb118));have n9_:=Aside0.mk ((by rw [hg];exact Nat.ne_of_gt (blk_lt (g:=gb117) (o:=.cells #[.int .i64 0,.string (⟨#[]⟩:ByteArray),.int .i64 0,.int .i64 0,.int .i64 0] 60 (0,0)) bk_):gb118 ≠ gb117));clear BK116;clear BK117;clear HB;have BK116:=n0_;have BK117:=n1_;have HB:=n2_;have BK118:=n3_;have GW118:=n4_;have GE118:=n5_;have NB116_118:=n6_;have NB118_116:=n7_;have NB117_118:=n8_;have NB118_117:=n9_;clear n0_ n1_ n2_ n3_ n4_ n5_ n6_ n7_ n8_ n9_;clear hb hbox hg;have hnb22:=NB118_116.out;have hnc22:=NB116_118.out;have hnb23:=NB118_117.out;have hnc23:=NB117_118.out;obtain ⟨hcz24_0,hcz24_1,hcz24_2,hcz24_3,hcz24_4⟩:=blc5_ BK118.out;have hfz24_0:=blk_frozen BK118.out 0;have hfz24_1:=blk_frozen BK118.out 1;have hfz24_2:=blk_frozen BK118.out 2;have hfz24_3:=blk_frozen BK118.out 3;have hfz24_4:=blk_frozen BK118.out 4)|((with_reducible refine gate_store (t:=60) (p:=3) rfl ?_);refine store_event (t:=60) (p:=3) (v:=?vo_w25) (w1:=(((((w21.setCell ⟨gb118,0,none⟩ (.int .i64 a0_0)).setCell ⟨gb118,1,none⟩ (.string (⟨#[]⟩:ByteArray))).setCell ⟨gb118,2,none⟩ (.int .i64 0)).setCell ⟨gb118,3,none⟩ (.int .i64 0)).setCell ⟨gb118,4,none⟩ (.int .i64 0))) ?hg ?ho ?hn ?hr ?_;(case ho => rfl);(case hg => rfl);(case hn => rfl);(case hr => first|(go_simp;done)|(go_simp;rfl));intro w25 hw;have n0_:Aside0 (w25.heap[gb116]?=some (.cells #[.int .i64 a0_0,.string a0_1,.int .i64 a0_2,.int .i64 a0_3,.int .i64 a0_4] 60 (0,0))):=⟨(by rw [hw];exact bk_)⟩;have n1_:Aside0 (w25.heap[gb117]?=some (.cells #[.int .i64 0,.string (⟨#[]⟩:ByteArray),.int .i64 0,.int .i64 0,.int .i64 0] 60 (0,0))):=⟨(by rw [hw];exact bk_)⟩;have n2_:Aside0 (w25.heap[gb118]?=some (.cells #[.int .i64 a0_0,.string (⟨#[]⟩:ByteArray),.int .i64 0,.int .i64 0,.int .i64 0] 60 (0,0))):=⟨(by rw [hw];exact (st5_ BK118.out))⟩;have n3_:Aside0 (Below w.heap.size w w25):=⟨(by rw [hw];exact bl_)⟩;clear hw;clear BK116;clear BK117;clear BK118;clear HB;have BK116:=n0_;have BK117:=n1_;have BK118:=n2_;have HB:=n3_;clear n0_ n1_ n2_ n3_;obtain ⟨hcz26_0,hcz26_1,hcz26_2,hcz26_3,hcz26_4⟩:=blc5_ BK116.out;have hfz26_0:=blk_frozen BK116.out 0;have hfz26_1:=blk_frozen BK116.out 1;have hfz26_2:=blk_frozen BK116.out 2;have hfz26_3:=blk_frozen BK116.out 3;have hfz26_4:=blk_frozen BK116.out 4))
  (try simp only [Act.put,List.setIfInBounds_toArray,List.set_cons_zero,List.set_cons_succ])
  go_cut [11] (fun v11 wc => ∃ (kq:Nat) (x11_15:Bool),v11=.bool x11_15∧Aside0 (pool_fields.j0 kq a0_0 x11_15 a0_0 a0_1 a0_2 a0_3 a0_4 a0_0 (⟨#[]⟩:ByteArray) 0 0 0=some (r1,r2,r3,r4,r5))∧Aside0 (kq≤k)∧Aside0 (wc.heap[gb116]?=some (.cells #[.int .i64 a0_0,.string a0_1,.int .i64 a0_2,.int .i64 a0_3,.int .i64 a0_4] 60 (0,0)))∧Aside0 (wc.heap[gb117]?=some (.cells #[.int .i64 0,.string (⟨#[]⟩:ByteArray),.int .i64 0,.int .i64 0,.int .i64 0] 60 (0,0)))∧Aside0 (wc.heap[gb118]?=some (.cells #[.int .i64 a0_0,.string (⟨#[]⟩:ByteArray),.int .i64 0,.int .i64 0,.int .i64 0] 60 (0,0)))∧Aside0 (Below w.heap.size w wc))
  case first =>
   have H:=HC16.out
   clear HC16
   by_cases c27:a0_0=3
   ·rw [if_pos c27] at H
    have c27b0:(a0_0==3)=true:=beq_iff_eq.mpr c27
    have c27b1:(a0_0 != 3)=false:=bne_eq_false_iff_eq.mpr c27
    clear c27
    (first|rw [c27b0]|(simp only [i64_w,i32_w];rw [c27b0])|skip)
    have H':=Aside0.mk H
    clear H
    go_wp2
    go_meet
    case rel => exact ⟨_,((a0_0==3)),r3_,H',⟨by first|omega|exact Nat.le_refl _⟩,⟨bk_⟩,⟨bk_⟩,⟨bk_⟩,⟨bl_⟩⟩
   ·rw [if_neg c27] at H
    have c27b0:(a0_0==3)=false:=beq_eq_false_iff_ne.mpr c27
    have c27b1:(a0_0 != 3)=true:=bne_iff_ne.mpr c27
    (first|rw [c27b0]|(simp only [i64_w,i32_w];rw [c27b0])|skip)
    have H':=Aside0.mk H
    clear H
    go_wp2
    go_meet
    case rel => exact ⟨_,((a0_0==5)),r3_,H',⟨by first|omega|exact Nat.le_refl _⟩,⟨bk_⟩,⟨bk_⟩,⟨bk_⟩,⟨bl_⟩⟩
  case rest =>
   clear HC16
   try clear c2;try clear c2b0;try clear c2b1;try clear hcz20_0;try clear hcz20_1;try clear hcz20_2;try clear hcz20_3;try clear hcz20_4;try clear hcz24_0;try clear hcz24_1;try clear hcz24_2;try clear hcz24_3;try clear hcz24_4;try clear hcz26_0;try clear hcz26_1;try clear hcz26_2;try clear hcz26_3;try clear hcz26_4;try clear hfz20_0;try clear hfz20_1;try clear hfz20_2;try clear hfz20_3;try clear hfz20_4;try clear hfz24_0;try clear hfz24_1;try clear hfz24_2;try clear hfz24_3;try clear hfz24_4;try clear hfz26_0;try clear hfz26_1;try clear hfz26_2;try clear hfz26_3;try clear hfz26_4
   obtain ⟨kq,x11_15,rfl,HA,HJ15,BK116,BK117,BK118,HB⟩:=hcut
   cases kq with
   | zero => exact absurd HA.out (by simp [pool_fields.j0])
   | succ kj15 =>
    have H:=HA.out
    clear HA
    simp only [pool_fields.j0] at H
    by_cases c28:x11_15=true
    ·subst c28
     rw [if_pos rfl] at H
     simp only [Option.some.injEq,Prod.mk.injEq] at H
     obtain ⟨rfl,rfl,rfl,rfl,rfl⟩:=H
     have hnb29:=NB116_117.out
     have hnc29:=NB117_116.out
     have hnb30:=NB116_118.out
     have hnc30:=NB118_116.out
     obtain ⟨hcz31_0,hcz31_1,hcz31_2,hcz31_3,hcz31_4,hfz31_0,hfz31_1,hfz31_2,hfz31_3,hfz31_4⟩:=blk5_ BK116.out
     have hnb32:=NB118_117.out
     have hnc32:=NB117_118.out
     obtain ⟨hcz33_0,hcz33_1,hcz33_2,hcz33_3,hcz33_4,hfz33_0,hfz33_1,hfz33_2,hfz33_3,hfz33_4⟩:=blk5_ BK118.out
     obtain ⟨hcz34_0,hcz34_1,hcz34_2,hcz34_3,hcz34_4,hfz34_0,hfz34_1,hfz34_2,hfz34_3,hfz34_4⟩:=blk5_ BK117.out
     go_wp2_with (first|((with_reducible refine gate_store (t:=60) (p:=2) rfl ?_);refine store_event (t:=60) (p:=2) (v:=?vo_w35) (w1:=((((((wc.setCell ⟨gb118,2,none⟩ (.int .i64 a0_2)).setCell ⟨gb117,0,none⟩ (.int .i64 a0_0)).setCell ⟨gb117,1,none⟩ (.string (⟨#[]⟩:ByteArray))).setCell ⟨gb117,2,none⟩ (.int .i64 a0_2)).setCell ⟨gb117,3,none⟩ (.int .i64 0)).setCell ⟨gb117,4,none⟩ (.int .i64 0))) ?hg ?ho ?hn ?hr ?_;(case ho => rfl);(case hg => rfl);(case hn => rfl);(case hr => first|(go_simp;done)|(go_simp;rfl));intro w35 hw;have n0_:Aside0 (w35.heap[gb116]?=some (.cells #[.int .i64 a0_0,.string a0_1,.int .i64 a0_2,.int .i64 a0_3,.int .i64 a0_4] 60 (0,0))):=⟨(by rw [hw];exact bk_)⟩;have n1_:Aside0 (w35.heap[gb117]?=some (.cells #[.int .i64 a0_0,.string (⟨#[]⟩:ByteArray),.int .i64 a0_2,.int .i64 0,.int .i64 0] 60 (0,0))):=⟨(by rw [hw];exact (by (with_reducible repeat (first|refine blk_drewN ?_ _|refine blk_drew ?_|refine blk_alloc ?_ _));refine blk_put (cs:=#[.int .i64 a0_0,.string (⟨#[]⟩:ByteArray),.int .i64 a0_2,.int .i64 0,.int .i64 0]) ?_ 4 _ rfl;(with_reducible repeat (first|refine blk_drewN ?_ _|refine blk_drew ?_|refine blk_alloc ?_ _));refine blk_put (cs:=#[.int .i64 a0_0,.string (⟨#[]⟩:ByteArray),.int .i64 a0_2,.int .i64 0,.int .i64 0]) ?_ 3 _ rfl;(with_reducible repeat (first|refine blk_drewN ?_ _|refine blk_drew ?_|refine blk_alloc ?_ _));refine blk_put (cs:=#[.int .i64 a0_0,.string (⟨#[]⟩:ByteArray),.int .i64 0,.int .i64 0,.int .i64 0]) ?_ 2 _ rfl;(with_reducible repeat (first|refine blk_drewN ?_ _|refine blk_drew ?_|refine blk_alloc ?_ _));refine blk_put (cs:=#[.int .i64 a0_0,.string (⟨#[]⟩:ByteArray),.int .i64 0,.int .i64 0,.int .i64 0]) ?_ 1 _ rfl;(with_reducible repeat (first|refine blk_drewN ?_ _|refine blk_drew ?_|refine blk_alloc ?_ _));refine blk_put (cs:=#[.int .i64 0,.string (⟨#[]⟩:ByteArray),.int .i64 0,.int .i64 0,.int .i64 0]) ?_ 0 _ rfl;(with_reducible repeat (first|refine blk_drewN ?_ _|refine blk_drew ?_|refine blk_alloc ?_ _));refine blk_far ?_ NB117_118.out _;(with_reducible repeat (first|refine blk_drewN ?_ _|refine blk_drew ?_|refine blk_alloc ?_ _));exact BK117.out))⟩;have n2_:Aside0 (w35.heap[gb118]?=some (.cells #[.int .i64 a0_0,.string (⟨#[]⟩:ByteArray),.int .i64 a0_2,.int .i64 0,.int .i64 0] 60 (0,0))):=⟨(by rw [hw];exact (by (with_reducible repeat (first|refine blk_drewN ?_ _|refine blk_drew ?_|refine blk_alloc ?_ _));refine blk_far ?_ NB118_117.out _;(with_reducible repeat (first|refine blk_drewN ?_ _|refine blk_drew ?_|refine blk_alloc ?_ _));refine blk_far ?_ NB118_117.out _;(with_reducible repeat (first|refine blk_drewN ?_ _|refine blk_drew ?_|refine blk_alloc ?_ _));refine blk_far ?_ NB118_117.out _;(with_reducible repeat (first|refine blk_drewN ?_ _|refine blk_drew ?_|refine blk_alloc ?_ _));refine blk_far ?_ NB118_117.out _;(with_reducible repeat (first|refine blk_drewN ?_ _|refine blk_drew ?_|refine blk_alloc ?_ _));refine blk_far ?_ NB118_117.out _;(with_reducible repeat (first|refine blk_drewN ?_ _|refine blk_drew ?_|refine blk_alloc ?_ _));refine blk_put (cs:=#[.int .i64 a0_0,.string (⟨#[]⟩:ByteArray),.int .i64 0,.int .i64 0,.int .i64 0]) ?_ 2 _ rfl;(with_reducible repeat (first|refine blk_drewN ?_ _|refine blk_drew ?_|refine blk_alloc ?_ _));exact BK118.out))⟩;have n3_:Aside0 (Below w.heap.size w w35):=⟨(by rw [hw];exact bl_)⟩;clear hw;clear BK116;clear BK117;clear BK118;clear HB;have BK116:=n0_;have BK117:=n1_;have BK118:=n2_;have HB:=n3_;clear n0_ n1_ n2_ n3_))
     refine bodyPost_ret (results_cell_row rfl _ _ gb117 60 #[.int .i64 a0_0,.string (⟨#[]⟩:ByteArray),.int .i64 a0_2,.int .i64 0,.int .i64 0] (0,0) _ rfl bk_ Tryd.underlying60 rfl (by kernel_rfl)) rfl ?_
     exact ⟨ew_,bl_⟩
    ·replace c28:=Bool.eq_false_iff.mpr c28
     subst c28
     rw [if_neg (show ¬ (false=true) by decide)] at H
     have HC36:=Aside0.mk H
     clear H
     go_upto_if 14 with (fail)
     go_cut [14] (fun v14 wc => ∃ (kq:Nat) (x14_35:Bool),v14=.bool x14_35∧Aside0 (pool_fields.j1 kq a0_0 x14_35 a0_0 a0_1 a0_2 a0_3 a0_4 a0_0 (⟨#[]⟩:ByteArray) 0 0 0=some (r1,r2,r3,r4,r5))∧Aside0 (kq≤kj15)∧Aside0 (wc.heap[gb116]?=some (.cells #[.int .i64 a0_0,.string a0_1,.int .i64 a0_2,.int .i64 a0_3,.int .i64 a0_4] 60 (0,0)))∧Aside0 (wc.heap[gb117]?=some (.cells #[.int .i64 0,.string (⟨#[]⟩:ByteArray),.int .i64 0,.int .i64 0,.int .i64 0] 60 (0,0)))∧Aside0 (wc.heap[gb118]?=some (.cells #[.int .i64 a0_0,.string (⟨#[]⟩:ByteArray),.int .i64 0,.int .i64 0,.int .i64 0] 60 (0,0)))∧Aside0 (Below w.heap.size w wc))
     case first =>
      have H:=HC36.out
      clear HC36
      by_cases c37:a0_0=9
      ·rw [if_pos c37] at H
       have c37b0:(a0_0==9)=true:=beq_iff_eq.mpr c37
       have c37b1:(a0_0 != 9)=false:=bne_eq_false_iff_eq.mpr c37
       clear c37
       (first|rw [c37b0]|(simp only [i64_w,i32_w];rw [c37b0])|skip)
       have H':=Aside0.mk H
       clear H
       go_wp2
       go_meet
       case rel => exact ⟨_,((a0_0==9)),r3_,H',⟨by have:=HJ15.out;first|omega|exact Nat.le_refl _⟩,⟨bk_⟩,⟨bk_⟩,⟨bk_⟩,⟨bl_⟩⟩
      ·rw [if_neg c37] at H
       have c37b0:(a0_0==9)=false:=beq_eq_false_iff_ne.mpr c37
       have c37b1:(a0_0 != 9)=true:=bne_iff_ne.mpr c37
       (first|rw [c37b0]|(simp only [i64_w,i32_w];rw [c37b0])|skip)
       by_cases c38:a0_0=10
       ·rw [if_pos c38] at H
        have c38b0:(a0_0==10)=true:=beq_iff_eq.mpr c38
        have c38b1:(a0_0 != 10)=false:=bne_eq_false_iff_eq.mpr c38
        clear c38
        have H':=Aside0.mk H
        clear H
        go_wp2
        go_meet
        case rel => exact ⟨_,((a0_0==10)),r3_,H',⟨by have:=HJ15.out;first|omega|exact Nat.le_refl _⟩,⟨bk_⟩,⟨bk_⟩,⟨bk_⟩,⟨bl_⟩⟩
       ·rw [if_neg c38] at H
        have c38b0:(a0_0==10)=false:=beq_eq_false_iff_ne.mpr c38
        have c38b1:(a0_0 != 10)=true:=bne_iff_ne.mpr c38
        have H':=Aside0.mk H
        clear H
        go_wp2
        go_meet
        case rel => exact ⟨_,((a0_0==12)),r3_,H',⟨by have:=HJ15.out;first|omega|exact Nat.le_refl _⟩,⟨bk_⟩,⟨bk_⟩,⟨bk_⟩,⟨bl_⟩⟩
     case rest =>
      clear HC36
      try clear c28
      obtain ⟨kq,x14_35,rfl,HA,HJ35,BK116,BK117,BK118,HB⟩:=hcut
      cases kq with
      | zero => exact absurd HA.out (by simp [pool_fields.j1])
      | succ kj35 =>
       have H:=HA.out
       clear HA
       simp only [pool_fields.j1] at H
       by_cases c39:x14_35=true
       ·subst c39
        rw [if_pos rfl] at H
        simp only [Option.some.injEq,Prod.mk.injEq] at H
        obtain ⟨rfl,rfl,rfl,rfl,rfl⟩:=H
        have hnb40:=NB116_117.out
        have hnc40:=NB117_116.out
        have hnb41:=NB116_118.out
        have hnc41:=NB118_116.out
        obtain ⟨hcz42_0,hcz42_1,hcz42_2,hcz42_3,hcz42_4,hfz42_0,hfz42_1,hfz42_2,hfz42_3,hfz42_4⟩:=blk5_ BK116.out
        have hnb43:=NB118_117.out
        have hnc43:=NB117_118.out
        obtain ⟨hcz44_0,hcz44_1,hcz44_2,hcz44_3,hcz44_4,hfz44_0,hfz44_1,hfz44_2,hfz44_3,hfz44_4⟩:=blk5_ BK118.out
        obtain ⟨hcz45_0,hcz45_1,hcz45_2,hcz45_3,hcz45_4,hfz45_0,hfz45_1,hfz45_2,hfz45_3,hfz45_4⟩:=blk5_ BK117.out
        go_wp2_with (first|((with_reducible refine gate_store (t:=60) (p:=2) rfl ?_);refine store_event (t:=60) (p:=2) (v:=?vo_w46) (w1:=(((((((wc.setCell ⟨gb118,4,none⟩ (.int .i64 a0_4)).setCell ⟨gb118,3,none⟩ (.int .i64 a0_3)).setCell ⟨gb117,0,none⟩ (.int .i64 a0_0)).setCell ⟨gb117,1,none⟩ (.string (⟨#[]⟩:ByteArray))).setCell ⟨gb117,2,none⟩ (.int .i64 0)).setCell ⟨gb117,3,none⟩ (.int .i64 a0_3)).setCell ⟨gb117,4,none⟩ (.int .i64 a0_4))) ?hg ?ho ?hn ?hr ?_;(case ho => rfl);(case hg => rfl);(case hn => rfl);(case hr => first|(go_simp;done)|(go_simp;rfl));intro w46 hw;have n0_:Aside0 (w46.heap[gb116]?=some (.cells #[.int .i64 a0_0,.string a0_1,.int .i64 a0_2,.int .i64 a0_3,.int .i64 a0_4] 60 (0,0))):=⟨(by rw [hw];exact bk_)⟩;have n1_:Aside0 (w46.heap[gb117]?=some (.cells #[.int .i64 a0_0,.string (⟨#[]⟩:ByteArray),.int .i64 0,.int .i64 a0_3,.int .i64 a0_4] 60 (0,0))):=⟨(by rw [hw];exact (by (with_reducible repeat (first|refine blk_drewN ?_ _|refine blk_drew ?_|refine blk_alloc ?_ _));refine blk_put (cs:=#[.int .i64 a0_0,.string (⟨#[]⟩:ByteArray),.int .i64 0,.int .i64 a0_3,.int .i64 0]) ?_ 4 _ rfl;(with_reducible repeat (first|refine blk_drewN ?_ _|refine blk_drew ?_|refine blk_alloc ?_ _));refine blk_put (cs:=#[.int .i64 a0_0,.string (⟨#[]⟩:ByteArray),.int .i64 0,.int .i64 0,.int .i64 0]) ?_ 3 _ rfl;(with_reducible repeat (first|refine blk_drewN ?_ _|refine blk_drew ?_|refine blk_alloc ?_ _));refine blk_put (cs:=#[.int .i64 a0_0,.string (⟨#[]⟩:ByteArray),.int .i64 0,.int .i64 0,.int .i64 0]) ?_ 2 _ rfl;(with_reducible repeat (first|refine blk_drewN ?_ _|refine blk_drew ?_|refine blk_alloc ?_ _));refine blk_put (cs:=#[.int .i64 a0_0,.string (⟨#[]⟩:ByteArray),.int .i64 0,.int .i64 0,.int .i64 0]) ?_ 1 _ rfl;(with_reducible repeat (first|refine blk_drewN ?_ _|refine blk_drew ?_|refine blk_alloc ?_ _));refine blk_put (cs:=#[.int .i64 0,.string (⟨#[]⟩:ByteArray),.int .i64 0,.int .i64 0,.int .i64 0]) ?_ 0 _ rfl;(with_reducible repeat (first|refine blk_drewN ?_ _|refine blk_drew ?_|refine blk_alloc ?_ _));refine blk_far ?_ NB117_118.out _;(with_reducible repeat (first|refine blk_drewN ?_ _|refine blk_drew ?_|refine blk_alloc ?_ _));refine blk_far ?_ NB117_118.out _;(with_reducible repeat (first|refine blk_drewN ?_ _|refine blk_drew ?_|refine blk_alloc ?_ _));exact BK117.out))⟩;have n2_:Aside0 (w46.heap[gb118]?=some (.cells #[.int .i64 a0_0,.string (⟨#[]⟩:ByteArray),.int .i64 0,.int .i64 a0_3,.int .i64 a0_4] 60 (0,0))):=⟨(by rw [hw];exact (by (with_reducible repeat (first|refine blk_drewN ?_ _|refine blk_drew ?_|refine blk_alloc ?_ _));refine blk_far ?_ NB118_117.out _;(with_reducible repeat (first|refine blk_drewN ?_ _|refine blk_drew ?_|refine blk_alloc ?_ _));refine blk_far ?_ NB118_117.out _;(with_reducible repeat (first|refine blk_drewN ?_ _|refine blk_drew ?_|refine blk_alloc ?_ _));refine blk_far ?_ NB118_117.out _;(with_reducible repeat (first|refine blk_drewN ?_ _|refine blk_drew ?_|refine blk_alloc ?_ _));refine blk_far ?_ NB118_117.out _;(with_reducible repeat (first|refine blk_drewN ?_ _|refine blk_drew ?_|refine blk_alloc ?_ _));refine blk_far ?_ NB118_117.out _;(with_reducible repeat (first|refine blk_drewN ?_ _|refine blk_drew ?_|refine blk_alloc ?_ _));refine blk_put (cs:=#[.int .i64 a0_0,.string (⟨#[]⟩:ByteArray),.int .i64 0,.int .i64 0,.int .i64 a0_4]) ?_ 3 _ rfl;(with_reducible repeat (first|refine blk_drewN ?_ _|refine blk_drew ?_|refine blk_alloc ?_ _));refine blk_put (cs:=#[.int .i64 a0_0,.string (⟨#[]⟩:ByteArray),.int .i64 0,.int .i64 0,.int .i64 0]) ?_ 4 _ rfl;(with_reducible repeat (first|refine blk_drewN ?_ _|refine blk_drew ?_|refine blk_alloc ?_ _));exact BK118.out))⟩;have n3_:Aside0 (Below w.heap.size w w46):=⟨(by rw [hw];exact bl_)⟩;clear hw;clear BK116;clear BK117;clear BK118;clear HB;have BK116:=n0_;have BK117:=n1_;have BK118:=n2_;have HB:=n3_;clear n0_ n1_ n2_ n3_))
        refine bodyPost_ret (results_cell_row rfl _ _ gb117 60 #[.int .i64 a0_0,.string (⟨#[]⟩:ByteArray),.int .i64 0,.int .i64 a0_3,.int .i64 a0_4] (0,0) _ rfl bk_ Tryd.underlying60 rfl (by kernel_rfl)) rfl ?_
        exact ⟨ew_,bl_⟩
       ·replace c39:=Bool.eq_false_iff.mpr c39
        subst c39
        rw [if_neg (show ¬ (false=true) by decide)] at H
        by_cases c47:a0_0=7
        ·rw [if_pos c47] at H
         have c47b0:(a0_0==7)=true:=beq_iff_eq.mpr c47
         have c47b1:(a0_0 != 7)=false:=bne_eq_false_iff_eq.mpr c47
         clear c47
         simp only [Option.some.injEq,Prod.mk.injEq] at H
         obtain ⟨rfl,rfl,rfl,rfl,rfl⟩:=H
         have hnb48:=NB116_117.out
         have hnc48:=NB117_116.out
         have hnb49:=NB116_118.out
         have hnc49:=NB118_116.out
         obtain ⟨hcz50_0,hcz50_1,hcz50_2,hcz50_3,hcz50_4,hfz50_0,hfz50_1,hfz50_2,hfz50_3,hfz50_4⟩:=blk5_ BK116.out
         have hnb51:=NB118_117.out
         have hnc51:=NB117_118.out
         obtain ⟨hcz52_0,hcz52_1,hcz52_2,hcz52_3,hcz52_4,hfz52_0,hfz52_1,hfz52_2,hfz52_3,hfz52_4⟩:=blk5_ BK118.out
         obtain ⟨hcz53_0,hcz53_1,hcz53_2,hcz53_3,hcz53_4,hfz53_0,hfz53_1,hfz53_2,hfz53_3,hfz53_4⟩:=blk5_ BK117.out
         go_wp2_with (first|((with_reducible refine gate_store (t:=60) (p:=2) rfl ?_);refine store_event (t:=60) (p:=2) (v:=?vo_w54) (w1:=((((((wc.setCell ⟨gb118,3,none⟩ (.int .i64 a0_3)).setCell ⟨gb117,0,none⟩ (.int .i64 a0_0)).setCell ⟨gb117,1,none⟩ (.string (⟨#[]⟩:ByteArray))).setCell ⟨gb117,2,none⟩ (.int .i64 0)).setCell ⟨gb117,3,none⟩ (.int .i64 a0_3)).setCell ⟨gb117,4,none⟩ (.int .i64 0))) ?hg ?ho ?hn ?hr ?_;(case ho => rfl);(case hg => rfl);(case hn => rfl);(case hr => first|(go_simp;done)|(go_simp;rfl));intro w54 hw;have n0_:Aside0 (w54.heap[gb116]?=some (.cells #[.int .i64 a0_0,.string a0_1,.int .i64 a0_2,.int .i64 a0_3,.int .i64 a0_4] 60 (0,0))):=⟨(by rw [hw];exact bk_)⟩;have n1_:Aside0 (w54.heap[gb117]?=some (.cells #[.int .i64 a0_0,.string (⟨#[]⟩:ByteArray),.int .i64 0,.int .i64 a0_3,.int .i64 0] 60 (0,0))):=⟨(by rw [hw];exact (by (with_reducible repeat (first|refine blk_drewN ?_ _|refine blk_drew ?_|refine blk_alloc ?_ _));refine blk_put (cs:=#[.int .i64 a0_0,.string (⟨#[]⟩:ByteArray),.int .i64 0,.int .i64 a0_3,.int .i64 0]) ?_ 4 _ rfl;(with_reducible repeat (first|refine blk_drewN ?_ _|refine blk_drew ?_|refine blk_alloc ?_ _));refine blk_put (cs:=#[.int .i64 a0_0,.string (⟨#[]⟩:ByteArray),.int .i64 0,.int .i64 0,.int .i64 0]) ?_ 3 _ rfl;(with_reducible repeat (first|refine blk_drewN ?_ _|refine blk_drew ?_|refine blk_alloc ?_ _));refine blk_put (cs:=#[.int .i64 a0_0,.string (⟨#[]⟩:ByteArray),.int .i64 0,.int .i64 0,.int .i64 0]) ?_ 2 _ rfl;(with_reducible repeat (first|refine blk_drewN ?_ _|refine blk_drew ?_|refine blk_alloc ?_ _));refine blk_put (cs:=#[.int .i64 a0_0,.string (⟨#[]⟩:ByteArray),.int .i64 0,.int .i64 0,.int .i64 0]) ?_ 1 _ rfl;(with_reducible repeat (first|refine blk_drewN ?_ _|refine blk_drew ?_|refine blk_alloc ?_ _));refine blk_put (cs:=#[.int .i64 0,.string (⟨#[]⟩:ByteArray),.int .i64 0,.int .i64 0,.int .i64 0]) ?_ 0 _ rfl;(with_reducible repeat (first|refine blk_drewN ?_ _|refine blk_drew ?_|refine blk_alloc ?_ _));refine blk_far ?_ NB117_118.out _;(with_reducible repeat (first|refine blk_drewN ?_ _|refine blk_drew ?_|refine blk_alloc ?_ _));exact BK117.out))⟩;have n2_:Aside0 (w54.heap[gb118]?=some (.cells #[.int .i64 a0_0,.string (⟨#[]⟩:ByteArray),.int .i64 0,.int .i64 a0_3,.int .i64 0] 60 (0,0))):=⟨(by rw [hw];exact (by (with_reducible repeat (first|refine blk_drewN ?_ _|refine blk_drew ?_|refine blk_alloc ?_ _));refine blk_far ?_ NB118_117.out _;(with_reducible repeat (first|refine blk_drewN ?_ _|refine blk_drew ?_|refine blk_alloc ?_ _));refine blk_far ?_ NB118_117.out _;(with_reducible repeat (first|refine blk_drewN ?_ _|refine blk_drew ?_|refine blk_alloc ?_ _));refine blk_far ?_ NB118_117.out _;(with_reducible repeat (first|refine blk_drewN ?_ _|refine blk_drew ?_|refine blk_alloc ?_ _));refine blk_far ?_ NB118_117.out _;(with_reducible repeat (first|refine blk_drewN ?_ _|refine blk_drew ?_|refine blk_alloc ?_ _));refine blk_far ?_ NB118_117.out _;(with_reducible repeat (first|refine blk_drewN ?_ _|refine blk_drew ?_|refine blk_alloc ?_ _));refine blk_put (cs:=#[.int .i64 a0_0,.string (⟨#[]⟩:ByteArray),.int .i64 0,.int .i64 0,.int .i64 0]) ?_ 3 _ rfl;(with_reducible repeat (first|refine blk_drewN ?_ _|refine blk_drew ?_|refine blk_alloc ?_ _));exact BK118.out))⟩;have n3_:Aside0 (Below w.heap.size w w54):=⟨(by rw [hw];exact bl_)⟩;clear hw;clear BK116;clear BK117;clear BK118;clear HB;have BK116:=n0_;have BK117:=n1_;have BK118:=n2_;have HB:=n3_;clear n0_ n1_ n2_ n3_))
         refine bodyPost_ret (results_cell_row rfl _ _ gb117 60 #[.int .i64 a0_0,.string (⟨#[]⟩:ByteArray),.int .i64 0,.int .i64 a0_3,.int .i64 0] (0,0) _ rfl bk_ Tryd.underlying60 rfl (by kernel_rfl)) rfl ?_
         exact ⟨ew_,bl_⟩
        ·rw [if_neg c47] at H
         have c47b0:(a0_0==7)=false:=beq_eq_false_iff_ne.mpr c47
         have c47b1:(a0_0 != 7)=true:=bne_iff_ne.mpr c47
         simp only [Option.some.injEq,Prod.mk.injEq] at H
         obtain ⟨rfl,rfl,rfl,rfl,rfl⟩:=H
         have hnb55:=NB118_116.out
         have hnc55:=NB116_118.out
         have hnb56:=NB118_117.out
         have hnc56:=NB117_118.out
         obtain ⟨hcz57_0,hcz57_1,hcz57_2,hcz57_3,hcz57_4,hfz57_0,hfz57_1,hfz57_2,hfz57_3,hfz57_4⟩:=blk5_ BK118.out
         have hnb58:=NB117_116.out
         have hnc58:=NB116_117.out
         obtain ⟨hcz59_0,hcz59_1,hcz59_2,hcz59_3,hcz59_4,hfz59_0,hfz59_1,hfz59_2,hfz59_3,hfz59_4⟩:=blk5_ BK117.out
         go_wp2_with (first|((with_reducible refine gate_store (t:=60) (p:=2) rfl ?_);refine store_event (t:=60) (p:=2) (v:=?vo_w60) (w1:=(((((wc.setCell ⟨gb117,0,none⟩ (.int .i64 a0_0)).setCell ⟨gb117,1,none⟩ (.string (⟨#[]⟩:ByteArray))).setCell ⟨gb117,2,none⟩ (.int .i64 0)).setCell ⟨gb117,3,none⟩ (.int .i64 0)).setCell ⟨gb117,4,none⟩ (.int .i64 0))) ?hg ?ho ?hn ?hr ?_;(case ho => rfl);(case hg => rfl);(case hn => rfl);(case hr => first|(go_simp;done)|(go_simp;rfl));intro w60 hw;have n0_:Aside0 (w60.heap[gb116]?=some (.cells #[.int .i64 a0_0,.string a0_1,.int .i64 a0_2,.int .i64 a0_3,.int .i64 a0_4] 60 (0,0))):=⟨(by rw [hw];exact bk_)⟩;have n1_:Aside0 (w60.heap[gb117]?=some (.cells #[.int .i64 a0_0,.string (⟨#[]⟩:ByteArray),.int .i64 0,.int .i64 0,.int .i64 0] 60 (0,0))):=⟨(by rw [hw];exact (st5_ BK117.out))⟩;have n2_:Aside0 (w60.heap[gb118]?=some (.cells #[.int .i64 a0_0,.string (⟨#[]⟩:ByteArray),.int .i64 0,.int .i64 0,.int .i64 0] 60 (0,0))):=⟨(by rw [hw];exact bk_)⟩;have n3_:Aside0 (Below w.heap.size w w60):=⟨(by rw [hw];exact bl_)⟩;clear hw;clear BK116;clear BK117;clear BK118;clear HB;have BK116:=n0_;have BK117:=n1_;have BK118:=n2_;have HB:=n3_;clear n0_ n1_ n2_ n3_))
         refine bodyPost_ret (results_cell_row rfl _ _ gb117 60 #[.int .i64 a0_0,.string (⟨#[]⟩:ByteArray),.int .i64 0,.int .i64 0,.int .i64 0] (0,0) _ rfl bk_ Tryd.underlying60 rfl (by kernel_rfl)) rfl ?_
         exact ⟨ew_,bl_⟩
def pool_is.f (l0:List (S60)) (a1:Int) (a2:Int):Option (Bool):=if a1 > 0 then (if a1 < (l0.length:Int) then (if 0≤a1 then (some (((rd_T60 l0 a1).f0)==a2)) else (none)) else (some false)) else (some false)
set_option maxHeartbeats 80000000 in
set_option maxRecDepth 100000 in
theorem pool_is.calls (A0:Option Addr) (c0:Nat) (l0:List (S60)) (a1:Int) (a2:Int) (r:Bool) (w:World) (hr0:Kd.C k60 w A0 l0.length l0) (hc0:l0.length≤c0) (h:pool_is.f l0 a1 a2=some r) :
  Calls Tryd.prog 49 #[.slice A0 l0.length c0,.int .i64 a1,.int .i64 a2] w fun e w' => e=.returned (.bool r)∧Drawn0 w w':=by
 have HR0:=Aside0.mk hr0
 have HC0:=Aside0.mk hc0
 clear hr0 hc0
 have H:(if a1 > 0 then (if a1 < (l0.length:Int) then (if 0≤a1 then (some (((rd_T60 l0 a1).f0)==a2)) else (none)) else (some false)) else (some false))=some r:=h
 clear h
 by_cases c4:a1 > 0
 ·rw [if_pos c4] at H
  have c4b0:decide (0 < a1)=true:=decide_eq_true c4
  clear c4
  by_cases c5:a1 < (l0.length:Int)
  ·rw [if_pos c5] at H
   have c5b0:decide (a1 < (l0.length:Int))=true:=decide_eq_true c5
   clear c5
   by_cases c6:0≤a1
   ·rw [if_pos c6] at H
    have c6b0:decide (0≤a1)=true:=decide_eq_true c6
    clear c6
    obtain rfl:=Option.some.inj H
    have p119:0≤(a1:Int):=od_
    have q119:a1 < (l0.length:Int):=od_
    obtain ⟨ad119,e119,hx119_0,hx119_1,hx119_2,hx119_3,hx119_4⟩:=at_T60 HR0.out a1 p119 q119
    cases e119
    replace p119:=eq_true p119
    replace q119:=eq_true q119
    go_enter Tryd.func49,Tryd.ntmps49
    go_wp2
    go_ret
    exact ⟨by first|rfl|(simp;done)|(simp [*];done),by repeat (first|exact Drawn0.refl _|apply Drawn0.step)⟩
   ·rw [if_neg c6] at H
    exact absurd H (by simp)
  ·rw [if_neg c5] at H
   have c5b0:decide (a1 < (l0.length:Int))=false:=decide_eq_false c5
   clear c5
   obtain rfl:=Option.some.inj H
   go_enter Tryd.func49,Tryd.ntmps49
   go_wp2
   go_ret
   exact ⟨by first|rfl|(simp;done)|(simp [*];done),by repeat (first|exact Drawn0.refl _|apply Drawn0.step)⟩
 ·rw [if_neg c4] at H
  have c4b0:decide (0 < a1)=false:=decide_eq_false c4
  clear c4
  obtain rfl:=Option.some.inj H
  go_enter Tryd.func49,Tryd.ntmps49
  go_wp2
  go_ret
  exact ⟨by first|rfl|(simp;done)|(simp [*];done),by repeat (first|exact Drawn0.refl _|apply Drawn0.step)⟩
end Go.Proofs.YtmloaijagkebpaaDoor.Px
namespace Go.Proofs.YtmloaijagkebpaaDoor.Px
open Go.RowKit Go.Proofs.YtmloaijagkebpaaDoorW.PrintWords Go.Proofs.YtmloaijagkebpaaDoorW.PrintLast Go.Proofs.YtmloaijagkebpaaDoorW.PrintMore
attribute [local go_sem] max2_int min2_int max_two min_two max_three min_three max_four min_four
set_option linter.unusedVariables false
set_option linter.unusedSimpArgs false
def pool_Text.f (l0:List (S60)) (a1:Int):Option (ByteArray × Bool):=(pool_is.f l0 a1 1).bind fun t126 => (if t126=true then (if 0≤a1 then (if a1 < (l0.length:Int) then (some ((rd_T60 l0 a1).f1,true)) else (none)) else (none)) else (some ((⟨#[]⟩:ByteArray),false)))
set_option maxHeartbeats 80000000 in
set_option maxRecDepth 100000 in
theorem pool_Text.calls (A0:Option Addr) (c0:Nat) (l0:List (S60)) (a1:Int) (r1:ByteArray) (r2:Bool) (w:World) (hr0:Kd.C k60 w A0 l0.length l0) (hc0:l0.length≤c0) (h:pool_Text.f l0 a1=some (r1,r2)) :
  Calls Tryd.prog 34 #[.slice A0 l0.length c0,.int .i64 a1] w fun e w' => e=.returned (.tuple #[.string r1,.bool r2])∧Drawn0 w w':=by
 have HR0:=Aside0.mk hr0
 have HC0:=Aside0.mk hc0
 clear hr0 hc0
 have H:((pool_is.f l0 a1 1).bind fun t126 => (if t126=true then (if 0≤a1 then (if a1 < (l0.length:Int) then (some ((rd_T60 l0 a1).f1,true)) else (none)) else (none)) else (some ((⟨#[]⟩:ByteArray),false))))=some (r1,r2):=h
 clear h
 replace H:=Option.bind_eq_some_iff.mp H
 obtain ⟨t126,A30,H⟩:=H
 try dsimp only at H
 have A3:=Aside0.mk A30
 clear A30
 by_cases c4:t126=true
 ·subst c4
  rw [if_pos rfl] at H
  by_cases c5:0≤a1
  ·rw [if_pos c5] at H
   have c5b0:decide (0≤a1)=true:=decide_eq_true c5
   clear c5
   by_cases c6:a1 < (l0.length:Int)
   ·rw [if_pos c6] at H
    have c6b0:decide (a1 < (l0.length:Int))=true:=decide_eq_true c6
    clear c6
    simp only [Option.some.injEq,Prod.mk.injEq] at H
    obtain ⟨rfl,rfl⟩:=H
    go_enter Tryd.func34,Tryd.ntmps34
    go_wp2_with (first|(refine callA_ (f:=49) (some 8) Tryd.func49 #[.slice A0 l0.length c0,.int .i64 a1,.int .i64 1] ?_;(with_reducible refine (pool_is.calls _ _ l0 a1 1 true _ ?side1 ?side2 A3.out).mono ?_);(case side1 => exact kc_ HR0.out);(case side2 => exact HC0.out);rintro e w' ⟨rfl,⟨nd,rfl⟩⟩;refine ⟨_,rfl,?_⟩;have p127:0≤(a1:Int):=od_;have q127:a1 < (l0.length:Int):=od_;obtain ⟨ad127,e127,hx127_0,hx127_1,hx127_2,hx127_3,hx127_4⟩:=at_T60 HR0.out a1 p127 q127;cases e127;replace p127:=eq_true p127;replace q127:=eq_true q127))
    go_ret2
    exact ⟨by first|rfl|(simp;done)|(simp [*];done),by repeat (first|exact Drawn0.refl _|apply Drawn0.step)⟩
   ·rw [if_neg c6] at H
    exact absurd H (by simp)
  ·rw [if_neg c5] at H
   exact absurd H (by simp)
 ·replace c4:=Bool.eq_false_iff.mpr c4
  subst c4
  rw [if_neg (show ¬ (false=true) by decide)] at H
  simp only [Option.some.injEq,Prod.mk.injEq] at H
  obtain ⟨rfl,rfl⟩:=H
  go_enter Tryd.func34,Tryd.ntmps34
  go_wp2_with (first|(refine callA_ (f:=49) (some 8) Tryd.func49 #[.slice A0 l0.length c0,.int .i64 a1,.int .i64 1] ?_;(with_reducible refine (pool_is.calls _ _ l0 a1 1 false _ ?side1 ?side2 A3.out).mono ?_);(case side1 => exact kc_ HR0.out);(case side2 => exact HC0.out);rintro e w' ⟨rfl,⟨nd,rfl⟩⟩;refine ⟨_,rfl,?_⟩))
  go_ret2
  exact ⟨by first|rfl|(simp;done)|(simp [*];done),by repeat (first|exact Drawn0.refl _|apply Drawn0.step)⟩
def pool_Class.f (l0:List (S60)) (a1:Int):Option (ByteArray × Bool):=(pool_is.f l0 a1 7).bind fun t128 => (if t128=true then (if 0≤a1 then (if a1 < (l0.length:Int) then ((pool_Text.f l0 ((rd_T60 l0 a1).f3)).bind fun bt130 => (some (bt130.1,bt130.2))) else (none)) else (none)) else (some ((⟨#[]⟩:ByteArray),false)))
set_option maxHeartbeats 80000000 in
set_option maxRecDepth 100000 in
theorem pool_Class.calls (A0:Option Addr) (c0:Nat) (l0:List (S60)) (a1:Int) (r1:ByteArray) (r2:Bool) (w:World) (hr0:Kd.C k60 w A0 l0.length l0) (hc0:l0.length≤c0) (h:pool_Class.f l0 a1=some (r1,r2)) :
  Calls Tryd.prog 41 #[.slice A0 l0.length c0,.int .i64 a1] w fun e w' => e=.returned (.tuple #[.string r1,.bool r2])∧Drawn0 w w':=by
 have HR0:=Aside0.mk hr0
 have HC0:=Aside0.mk hc0
 clear hr0 hc0
 have H:((pool_is.f l0 a1 7).bind fun t128 => (if t128=true then (if 0≤a1 then (if a1 < (l0.length:Int) then ((pool_Text.f l0 ((rd_T60 l0 a1).f3)).bind fun bt130 => (some (bt130.1,bt130.2))) else (none)) else (none)) else (some ((⟨#[]⟩:ByteArray),false))))=some (r1,r2):=h
 clear h
 replace H:=Option.bind_eq_some_iff.mp H
 obtain ⟨t128,A30,H⟩:=H
 try dsimp only at H
 have A3:=Aside0.mk A30
 clear A30
 by_cases c4:t128=true
 ·subst c4
  rw [if_pos rfl] at H
  by_cases c5:0≤a1
  ·rw [if_pos c5] at H
   have c5b0:decide (0≤a1)=true:=decide_eq_true c5
   clear c5
   by_cases c6:a1 < (l0.length:Int)
   ·rw [if_pos c6] at H
    have c6b0:decide (a1 < (l0.length:Int))=true:=decide_eq_true c6
    clear c6
    replace H:=Option.bind_eq_some_iff.mp H
    obtain ⟨⟨t130,t131⟩,A70,H⟩:=H
    try dsimp only at H
    have A7:=Aside0.mk A70
    clear A70
    simp only [Option.some.injEq,Prod.mk.injEq] at H
    obtain ⟨rfl,rfl⟩:=H
    go_enter Tryd.func41,Tryd.ntmps41
    go_wp2_with (first|(refine callA_ (f:=49) (some 8) Tryd.func49 #[.slice A0 l0.length c0,.int .i64 a1,.int .i64 7] ?_;(with_reducible refine (pool_is.calls _ _ l0 a1 7 true _ ?side1 ?side2 A3.out).mono ?_);(case side1 => exact kc_ HR0.out);(case side2 => exact HC0.out);rintro e w' ⟨rfl,⟨nd,rfl⟩⟩;refine ⟨_,rfl,?_⟩;have p129:0≤(a1:Int):=od_;have q129:a1 < (l0.length:Int):=od_;obtain ⟨ad129,e129,hx129_0,hx129_1,hx129_2,hx129_3,hx129_4⟩:=at_T60 HR0.out a1 p129 q129;cases e129;replace p129:=eq_true p129;replace q129:=eq_true q129)|(refine callA_ (f:=34) (some 16) Tryd.func34 #[.slice (some ad129) l0.length c0,.int .i64 ((rd_T60 l0 a1).f3)] ?_;(with_reducible refine (pool_Text.calls _ _ l0 ((rd_T60 l0 a1).f3) t130 t131 _ ?side1 ?side2 A7.out).mono ?_);(case side1 => exact kc_ HR0.out);(case side2 => exact HC0.out);rintro e w' ⟨rfl,⟨nd,rfl⟩⟩;refine ⟨_,rfl,?_⟩))
    go_ret2
    exact ⟨by first|rfl|(simp;done)|(simp [*];done),by repeat (first|exact Drawn0.refl _|apply Drawn0.step)⟩
   ·rw [if_neg c6] at H
    exact absurd H (by simp)
  ·rw [if_neg c5] at H
   exact absurd H (by simp)
 ·replace c4:=Bool.eq_false_iff.mpr c4
  subst c4
  rw [if_neg (show ¬ (false=true) by decide)] at H
  simp only [Option.some.injEq,Prod.mk.injEq] at H
  obtain ⟨rfl,rfl⟩:=H
  go_enter Tryd.func41,Tryd.ntmps41
  go_wp2_with (first|(refine callA_ (f:=49) (some 8) Tryd.func49 #[.slice A0 l0.length c0,.int .i64 a1,.int .i64 7] ?_;(with_reducible refine (pool_is.calls _ _ l0 a1 7 false _ ?side1 ?side2 A3.out).mono ?_);(case side1 => exact kc_ HR0.out);(case side2 => exact HC0.out);rintro e w' ⟨rfl,⟨nd,rfl⟩⟩;refine ⟨_,rfl,?_⟩))
  go_ret2
  exact ⟨by first|rfl|(simp;done)|(simp [*];done),by repeat (first|exact Drawn0.refl _|apply Drawn0.step)⟩
def class_rules_class.l0:Nat→List Int→Int→Int→List (S60)→Option (Bool)
 | 0,_,_,_,_ => none
 | k + 1,x9,x10,x11,x133000 => if x11 < x10 then (if 0≤x11 then (if x11 < (x9.length:Int) then ((pool_Class.f x133000 (rd x9 x11)).bind fun bt134 => (if bt134.2=true then (class_rules_class.l0 k x9 x10 (wrap64 (x11 + 1)) x133000) else (some false))) else (none)) else (none)) else (some true)
def class_rules_class.f (k:Nat) (l0_0:List (S60)) (l1:List Int):Option (Bool):=class_rules_class.l0 k l1 (l1.length:Int) 0 l0_0
theorem class_rules_class.mono_l:∀ k,(∀ y0 y1 y2 y3,LeO (class_rules_class.l0 k y0 y1 y2 y3) (class_rules_class.l0 (k + 1) y0 y1 y2 y3))
 | 0 => fun _ _ _ _ r h => by simp [class_rules_class.l0] at h
 | k + 1 => by
  have ih0:=class_rules_class.mono_l k
  ·intro y0 y1 y2 y3
   unfold class_rules_class.l0
   repeat' first
   | (with_reducible exact ih0 _ _ _ _)
   | (with_reducible exact LeO.refl _)
   | (with_reducible exact LeO.none _)
   | (with_reducible refine LeO.ite ?_ ?_)
   | (with_reducible refine LeO.bind ?_ (fun _ => ?_))
   | exact ih0 _ _ _ _
   | exact LeO.none _
   | refine LeO.ite ?_ ?_
   | refine LeO.bind ?_ (fun _ => ?_)
theorem class_rules_class.mono:∀ a0 a1 k,LeO (class_rules_class.f k a0 a1) (class_rules_class.f (k + 1) a0 a1):=by
 intro a0 a1 k
 have ih0:=class_rules_class.mono_l k
 unfold class_rules_class.f
 repeat' first
   | (with_reducible exact ih0 _ _ _ _)
   | (with_reducible exact LeO.refl _)
   | (with_reducible exact LeO.none _)
   | (with_reducible refine LeO.ite ?_ ?_)
   | (with_reducible refine LeO.bind ?_ (fun _ => ?_))
   | exact ih0 _ _ _ _
   | exact LeO.none _
   | refine LeO.ite ?_ ?_
   | refine LeO.bind ?_ (fun _ => ?_)
set_option maxHeartbeats 80000000 in
set_option maxRecDepth 100000 in
theorem class_rules_class.calls (k:Nat) (A0_0:Option Addr) (c0_0:Nat) (l0_0:List (S60)) (A1:Option Addr) (c1:Nat) (l1:List Int) (r:Bool) (w:World) (hr0_0:Kd.C k60 w A0_0 l0_0.length l0_0) (hc0_0:l0_0.length≤c0_0) (hr1:Kd.C (Kd.int .i64) w A1 l1.length l1) (hc1:l1.length≤c1) (h:class_rules_class.f k l0_0 l1=some r) :
  Calls Tryd.prog 25 #[.agg #[.slice A0_0 l0_0.length c0_0],.slice A1 l1.length c1] w fun e w' => e=.returned (.bool r)∧Below w.heap.size w w':=by
 have hu64:=Tryd.underlying64
 have HR0_0:=Aside0.mk hr0_0
 have HC0_0:=Aside0.mk hc0_0
 clear hr0_0 hc0_0
 have HR1:=Aside0.mk hr1
 have HC1:=Aside0.mk hc1
 clear hr1 hc1
 have HB:=Aside0.mk (Below.refl w.heap.size w)
 have H:(class_rules_class.l0 k l1 (l1.length:Int) 0 l0_0)=some r:=h
 clear h
 have H':=Aside0.mk H
 clear H
 go_enter Tryd.func25,Tryd.ntmps25
 go_wp2_with (first|((with_reducible refine gate_dst (N:=2) rfl ?_);refine box_event ?hg (N:=2) ?hd (cs:=#[.slice A0_0 l0_0.length c0_0]) (t:=64) ?hr ?_;(case hd => rfl);(case hg => rfl);(case hr => first|(go_simp;done)|(go_simp;rfl));intro gb132 hg w3 hbox hb;have n0_:=Aside0.mk (below_step bl_ hb);have n1_:=Aside0.mk (hbox);have n2_:=Aside0.mk ((by rw [hg];exact (below_size bl_):w.heap.size≤gb132));have n3_:=Aside0.mk ((by rw [hg];exact (below_size bl_):w.heap.size≤gb132));clear HB;have HB:=n0_;have BK132:=n1_;have GW132:=n2_;have GE132:=n3_;clear n0_ n1_ n2_ n3_;clear hb hbox hg))
 go_loopg [11] k (fun kq v11 w' => ∃ (x11_1:Int),v11=.int .i64 x11_1∧Aside0 (class_rules_class.l0 kq l1 (l1.length:Int) x11_1 l0_0=some r)∧Aside0 (kq≤k)∧Aside0 (w'.heap[gb132]?=some (.cells #[(.slice A0_0 l0_0.length c0_0)] 64 (0,0)))∧Aside0 (Below w.heap.size w w'))
 case atStart => exact ⟨(0),r3_,H',⟨Nat.le_refl _⟩,⟨bk_⟩,⟨bl_⟩⟩
 case round =>
  clear H'
  try clear c1
  obtain ⟨x11_1,rfl,HA,HK1,BK132,HB⟩:=hrel
  cases gk with
  | zero => exact absurd HA.out (by simp [class_rules_class.l0])
  | succ k1 =>
   have H:=HA.out
   clear HA
   simp only [class_rules_class.l0] at H
   by_cases c4:x11_1 < (l1.length:Int)
   ·rw [if_pos c4] at H
    have c4b0:decide (x11_1 < (l1.length:Int))=true:=decide_eq_true c4
    clear c4
    by_cases c5:0≤x11_1
    ·rw [if_pos c5] at H
     have c5b0:decide (0≤x11_1)=true:=decide_eq_true c5
     clear c5
     by_cases c6:x11_1 < (l1.length:Int)
     ·rw [if_pos c6] at H
      have c6b0:decide (x11_1 < (l1.length:Int))=true:=decide_eq_true c6
      clear c6
      replace H:=Option.bind_eq_some_iff.mp H
      obtain ⟨⟨t134,t135⟩,A70,H⟩:=H
      try dsimp only at H
      have A7:=Aside0.mk A70
      clear A70
      by_cases c8:t135=true
      ·subst c8
       rw [if_pos rfl] at H
       have H':=Aside0.mk H
       clear H
       have p133:0≤(x11_1:Int):=od_
       have q133:x11_1 < (l1.length:Int):=od_
       obtain ⟨ad133,e133,hx133_0⟩:=Kd.at_int HR1.out x11_1 p133 q133
       cases e133
       replace hx133_0:=hb_ HB hx133_0
       replace p133:=eq_true p133
       replace q133:=eq_true q133
       have hcz9_0:wr.cell? ⟨gb132,0,none⟩=some (.slice A0_0 l0_0.length c0_0):=(blk_cell BK132.out 0).trans rfl
       have hfz9_0:=blk_frozen BK132.out 0
       go_wp2_with (first|(refine callA_ (f:=41) (some 19) Tryd.func41 #[.slice A0_0 l0_0.length c0_0,.int .i64 (rd l1 x11_1)] ?_;(with_reducible refine (pool_Class.calls _ _ l0_0 (rd l1 x11_1) t134 true _ ?side1 ?side2 A7.out).mono ?_);(case side1 => exact kc_ (Kd.C_below HR0_0.out HB.out));(case side2 => exact HC0_0.out);rintro e w' ⟨rfl,⟨nd,rfl⟩⟩;refine ⟨_,rfl,?_⟩))
       go_roundg k1
       case measure => have:=HK1.out;omega
       case rel => exact ⟨(wrap64 (x11_1 + 1)),r3_,H',⟨by have:=HK1.out;omega⟩,⟨bk_⟩,⟨bl_⟩⟩
      ·replace c8:=Bool.eq_false_iff.mpr c8
       subst c8
       rw [if_neg (show ¬ (false=true) by decide)] at H
       obtain rfl:=Option.some.inj H
       have p133:0≤(x11_1:Int):=od_
       have q133:x11_1 < (l1.length:Int):=od_
       obtain ⟨ad133,e133,hx133_0⟩:=Kd.at_int HR1.out x11_1 p133 q133
       cases e133
       replace hx133_0:=hb_ HB hx133_0
       replace p133:=eq_true p133
       replace q133:=eq_true q133
       have hcz10_0:wr.cell? ⟨gb132,0,none⟩=some (.slice A0_0 l0_0.length c0_0):=(blk_cell BK132.out 0).trans rfl
       have hfz10_0:=blk_frozen BK132.out 0
       go_wp2_with (first|(refine callA_ (f:=41) (some 19) Tryd.func41 #[.slice A0_0 l0_0.length c0_0,.int .i64 (rd l1 x11_1)] ?_;(with_reducible refine (pool_Class.calls _ _ l0_0 (rd l1 x11_1) t134 false _ ?side1 ?side2 A7.out).mono ?_);(case side1 => exact kc_ (Kd.C_below HR0_0.out HB.out));(case side2 => exact HC0_0.out);rintro e w' ⟨rfl,⟨nd,rfl⟩⟩;refine ⟨_,rfl,?_⟩))
       go_ret
       exact ⟨ew_,bl_⟩
     ·rw [if_neg c6] at H
      exact absurd H (by simp)
    ·rw [if_neg c5] at H
     exact absurd H (by simp)
   ·rw [if_neg c4] at H
    have c4b0:decide (x11_1 < (l1.length:Int))=false:=decide_eq_false c4
    clear c4
    obtain rfl:=Option.some.inj H
    go_wp2
    go_ret
    exact ⟨ew_,bl_⟩
def class_flags.f (a0:Int):Option (Bool):=some ((Go.bits .andNot .i64 a0 8)==0)
set_option maxHeartbeats 80000000 in
set_option maxRecDepth 100000 in
theorem class_flags.calls (a0:Int) (r:Bool) (w:World) (h:class_flags.f a0=some r) :
  Calls Tryd.prog 26 #[.int .i64 a0] w fun e w' => e=.returned (.bool r)∧Drawn0 w w':=by
 have H:(some ((Go.bits .andNot .i64 a0 8)==0))=some r:=h
 clear h
 obtain rfl:=Option.some.inj H
 go_enter Tryd.func26,Tryd.ntmps26
 go_wp2
 go_ret
 exact ⟨by first|rfl|(simp;done)|(simp [*];done),by repeat (first|exact Drawn0.refl _|apply Drawn0.step)⟩
def class_rules_text.l0:Nat→List Int→Int→Int→List (S60)→Option (Bool)
 | 0,_,_,_,_ => none
 | k + 1,x9,x10,x11,x137000 => if x11 < x10 then (if 0≤x11 then (if x11 < (x9.length:Int) then ((pool_Text.f x137000 (rd x9 x11)).bind fun bt138 => (if bt138.2=true then (class_rules_text.l0 k x9 x10 (wrap64 (x11 + 1)) x137000) else (some false))) else (none)) else (none)) else (some true)
def class_rules_text.f (k:Nat) (l0_0:List (S60)) (l1:List Int):Option (Bool):=class_rules_text.l0 k l1 (l1.length:Int) 0 l0_0
theorem class_rules_text.mono_l:∀ k,(∀ y0 y1 y2 y3,LeO (class_rules_text.l0 k y0 y1 y2 y3) (class_rules_text.l0 (k + 1) y0 y1 y2 y3))
 | 0 => fun _ _ _ _ r h => by simp [class_rules_text.l0] at h
 | k + 1 => by
  have ih0:=class_rules_text.mono_l k
  ·intro y0 y1 y2 y3
   unfold class_rules_text.l0
   repeat' first
   | (with_reducible exact ih0 _ _ _ _)
   | (with_reducible exact LeO.refl _)
   | (with_reducible exact LeO.none _)
   | (with_reducible refine LeO.ite ?_ ?_)
   | (with_reducible refine LeO.bind ?_ (fun _ => ?_))
   | exact ih0 _ _ _ _
   | exact LeO.none _
   | refine LeO.ite ?_ ?_
   | refine LeO.bind ?_ (fun _ => ?_)
theorem class_rules_text.mono:∀ a0 a1 k,LeO (class_rules_text.f k a0 a1) (class_rules_text.f (k + 1) a0 a1):=by
 intro a0 a1 k
 have ih0:=class_rules_text.mono_l k
 unfold class_rules_text.f
 repeat' first
   | (with_reducible exact ih0 _ _ _ _)
   | (with_reducible exact LeO.refl _)
   | (with_reducible exact LeO.none _)
   | (with_reducible refine LeO.ite ?_ ?_)
   | (with_reducible refine LeO.bind ?_ (fun _ => ?_))
   | exact ih0 _ _ _ _
   | exact LeO.none _
   | refine LeO.ite ?_ ?_
   | refine LeO.bind ?_ (fun _ => ?_)
set_option maxHeartbeats 80000000 in
set_option maxRecDepth 100000 in
theorem class_rules_text.calls (k:Nat) (A0_0:Option Addr) (c0_0:Nat) (l0_0:List (S60)) (A1:Option Addr) (c1:Nat) (l1:List Int) (r:Bool) (w:World) (hr0_0:Kd.C k60 w A0_0 l0_0.length l0_0) (hc0_0:l0_0.length≤c0_0) (hr1:Kd.C (Kd.int .i64) w A1 l1.length l1) (hc1:l1.length≤c1) (h:class_rules_text.f k l0_0 l1=some r) :
  Calls Tryd.prog 27 #[.agg #[.slice A0_0 l0_0.length c0_0],.slice A1 l1.length c1] w fun e w' => e=.returned (.bool r)∧Below w.heap.size w w':=by
 have hu64:=Tryd.underlying64
 have HR0_0:=Aside0.mk hr0_0
 have HC0_0:=Aside0.mk hc0_0
 clear hr0_0 hc0_0
 have HR1:=Aside0.mk hr1
 have HC1:=Aside0.mk hc1
 clear hr1 hc1
 have HB:=Aside0.mk (Below.refl w.heap.size w)
 have H:(class_rules_text.l0 k l1 (l1.length:Int) 0 l0_0)=some r:=h
 clear h
 have H':=Aside0.mk H
 clear H
 go_enter Tryd.func27,Tryd.ntmps27
 go_wp2_with (first|((with_reducible refine gate_dst (N:=2) rfl ?_);refine box_event ?hg (N:=2) ?hd (cs:=#[.slice A0_0 l0_0.length c0_0]) (t:=64) ?hr ?_;(case hd => rfl);(case hg => rfl);(case hr => first|(go_simp;done)|(go_simp;rfl));intro gb136 hg w3 hbox hb;have n0_:=Aside0.mk (below_step bl_ hb);have n1_:=Aside0.mk (hbox);have n2_:=Aside0.mk ((by rw [hg];exact (below_size bl_):w.heap.size≤gb136));have n3_:=Aside0.mk ((by rw [hg];exact (below_size bl_):w.heap.size≤gb136));clear HB;have HB:=n0_;have BK136:=n1_;have GW136:=n2_;have GE136:=n3_;clear n0_ n1_ n2_ n3_;clear hb hbox hg))
 go_loopg [11] k (fun kq v11 w' => ∃ (x11_1:Int),v11=.int .i64 x11_1∧Aside0 (class_rules_text.l0 kq l1 (l1.length:Int) x11_1 l0_0=some r)∧Aside0 (kq≤k)∧Aside0 (w'.heap[gb136]?=some (.cells #[(.slice A0_0 l0_0.length c0_0)] 64 (0,0)))∧Aside0 (Below w.heap.size w w'))
 case atStart => exact ⟨(0),r3_,H',⟨Nat.le_refl _⟩,⟨bk_⟩,⟨bl_⟩⟩
 case round =>
  clear H'
  try clear c1
  obtain ⟨x11_1,rfl,HA,HK1,BK136,HB⟩:=hrel
  cases gk with
  | zero => exact absurd HA.out (by simp [class_rules_text.l0])
  | succ k1 =>
   have H:=HA.out
   clear HA
   simp only [class_rules_text.l0] at H
   by_cases c4:x11_1 < (l1.length:Int)
   ·rw [if_pos c4] at H
    have c4b0:decide (x11_1 < (l1.length:Int))=true:=decide_eq_true c4
    clear c4
    by_cases c5:0≤x11_1
    ·rw [if_pos c5] at H
     have c5b0:decide (0≤x11_1)=true:=decide_eq_true c5
     clear c5
     by_cases c6:x11_1 < (l1.length:Int)
     ·rw [if_pos c6] at H
      have c6b0:decide (x11_1 < (l1.length:Int))=true:=decide_eq_true c6
      clear c6
      replace H:=Option.bind_eq_some_iff.mp H
      obtain ⟨⟨t138,t139⟩,A70,H⟩:=H
      try dsimp only at H
      have A7:=Aside0.mk A70
      clear A70
      by_cases c8:t139=true
      ·subst c8
       rw [if_pos rfl] at H
       have H':=Aside0.mk H
       clear H
       have p137:0≤(x11_1:Int):=od_
       have q137:x11_1 < (l1.length:Int):=od_
       obtain ⟨ad137,e137,hx137_0⟩:=Kd.at_int HR1.out x11_1 p137 q137
       cases e137
       replace hx137_0:=hb_ HB hx137_0
       replace p137:=eq_true p137
       replace q137:=eq_true q137
       have hcz9_0:wr.cell? ⟨gb136,0,none⟩=some (.slice A0_0 l0_0.length c0_0):=(blk_cell BK136.out 0).trans rfl
       have hfz9_0:=blk_frozen BK136.out 0
       go_wp2_with (first|(refine callA_ (f:=34) (some 19) Tryd.func34 #[.slice A0_0 l0_0.length c0_0,.int .i64 (rd l1 x11_1)] ?_;(with_reducible refine (pool_Text.calls _ _ l0_0 (rd l1 x11_1) t138 true _ ?side1 ?side2 A7.out).mono ?_);(case side1 => exact kc_ (Kd.C_below HR0_0.out HB.out));(case side2 => exact HC0_0.out);rintro e w' ⟨rfl,⟨nd,rfl⟩⟩;refine ⟨_,rfl,?_⟩))
       go_roundg k1
       case measure => have:=HK1.out;omega
       case rel => exact ⟨(wrap64 (x11_1 + 1)),r3_,H',⟨by have:=HK1.out;omega⟩,⟨bk_⟩,⟨bl_⟩⟩
      ·replace c8:=Bool.eq_false_iff.mpr c8
       subst c8
       rw [if_neg (show ¬ (false=true) by decide)] at H
       obtain rfl:=Option.some.inj H
       have p137:0≤(x11_1:Int):=od_
       have q137:x11_1 < (l1.length:Int):=od_
       obtain ⟨ad137,e137,hx137_0⟩:=Kd.at_int HR1.out x11_1 p137 q137
       cases e137
       replace hx137_0:=hb_ HB hx137_0
       replace p137:=eq_true p137
       replace q137:=eq_true q137
       have hcz10_0:wr.cell? ⟨gb136,0,none⟩=some (.slice A0_0 l0_0.length c0_0):=(blk_cell BK136.out 0).trans rfl
       have hfz10_0:=blk_frozen BK136.out 0
       go_wp2_with (first|(refine callA_ (f:=34) (some 19) Tryd.func34 #[.slice A0_0 l0_0.length c0_0,.int .i64 (rd l1 x11_1)] ?_;(with_reducible refine (pool_Text.calls _ _ l0_0 (rd l1 x11_1) t138 false _ ?side1 ?side2 A7.out).mono ?_);(case side1 => exact kc_ (Kd.C_below HR0_0.out HB.out));(case side2 => exact HC0_0.out);rintro e w' ⟨rfl,⟨nd,rfl⟩⟩;refine ⟨_,rfl,?_⟩))
       go_ret
       exact ⟨ew_,bl_⟩
     ·rw [if_neg c6] at H
      exact absurd H (by simp)
    ·rw [if_neg c5] at H
     exact absurd H (by simp)
   ·rw [if_neg c4] at H
    have c4b0:decide (x11_1 < (l1.length:Int))=false:=decide_eq_false c4
    clear c4
    obtain rfl:=Option.some.inj H
    go_wp2
    go_ret
    exact ⟨ew_,bl_⟩
def class_place.l0:Nat→List (S60)→ByteArray→Int→Int→Option (Int)
 | 0,_,_,_,_ => none
 | k + 1,x0,x1,x9,x10 => if x10 < x9 then ((pool_Text.f x0 x10).bind fun bt140 => (if bt140.2=true then (if bt140.1.toList=x1.toList then (some x10) else (class_place.l0 k x0 x1 x9 (wrap64 (x10 + 1)))) else (class_place.l0 k x0 x1 x9 (wrap64 (x10 + 1))))) else (some 0)
def class_place.f (k:Nat) (l0:List (S60)) (a1:ByteArray):Option (Int):=class_place.l0 k l0 a1 (l0.length:Int) 0
theorem class_place.mono_l:∀ k,(∀ y0 y1 y2 y3,LeO (class_place.l0 k y0 y1 y2 y3) (class_place.l0 (k + 1) y0 y1 y2 y3))
 | 0 => fun _ _ _ _ r h => by simp [class_place.l0] at h
 | k + 1 => by
  have ih0:=class_place.mono_l k
  ·intro y0 y1 y2 y3
   unfold class_place.l0
   repeat' first
   | (with_reducible exact ih0 _ _ _ _)
   | (with_reducible exact LeO.refl _)
   | (with_reducible exact LeO.none _)
   | (with_reducible refine LeO.ite ?_ ?_)
   | (with_reducible refine LeO.bind ?_ (fun _ => ?_))
   | exact ih0 _ _ _ _
   | exact LeO.none _
   | refine LeO.ite ?_ ?_
   | refine LeO.bind ?_ (fun _ => ?_)
theorem class_place.mono:∀ a0 a1 k,LeO (class_place.f k a0 a1) (class_place.f (k + 1) a0 a1):=by
 intro a0 a1 k
 have ih0:=class_place.mono_l k
 unfold class_place.f
 repeat' first
   | (with_reducible exact ih0 _ _ _ _)
   | (with_reducible exact LeO.refl _)
   | (with_reducible exact LeO.none _)
   | (with_reducible refine LeO.ite ?_ ?_)
   | (with_reducible refine LeO.bind ?_ (fun _ => ?_))
   | exact ih0 _ _ _ _
   | exact LeO.none _
   | refine LeO.ite ?_ ?_
   | refine LeO.bind ?_ (fun _ => ?_)
set_option maxHeartbeats 80000000 in
set_option maxRecDepth 100000 in
theorem class_place.calls (k:Nat) (A0:Option Addr) (c0:Nat) (l0:List (S60)) (a1:ByteArray) (r:Int) (w:World) (hr0:Kd.C k60 w A0 l0.length l0) (hc0:l0.length≤c0) (h:class_place.f k l0 a1=some r) :
  Calls Tryd.prog 13 #[.slice A0 l0.length c0,.string a1] w fun e w' => e=.returned (.int .i64 r)∧Drawn0 w w':=by
 have HR0:=Aside0.mk hr0
 have HC0:=Aside0.mk hc0
 clear hr0 hc0
 have H:(class_place.l0 k l0 a1 (l0.length:Int) 0)=some r:=h
 clear h
 have H':=Aside0.mk H
 clear H
 go_enter Tryd.func13,Tryd.ntmps13
 go_wp2
 go_loopg [10] k (fun kq v10 w' => ∃ (x10_1:Int),v10=.int .i64 x10_1∧Aside0 (class_place.l0 kq l0 a1 (l0.length:Int) x10_1=some r)∧Aside0 (kq≤k)∧Drawn0 w w')
 case atStart => exact ⟨(0),r3_,H',⟨Nat.le_refl _⟩,by repeat (first|exact Drawn0.refl _|apply Drawn0.step)⟩
 case round =>
  clear H'
  obtain ⟨x10_1,rfl,HA,HK1,⟨m1,rfl⟩⟩:=hrel
  cases gk with
  | zero => exact absurd HA.out (by simp [class_place.l0])
  | succ k1 =>
   have H:=HA.out
   clear HA
   simp only [class_place.l0] at H
   by_cases c3:x10_1 < (l0.length:Int)
   ·rw [if_pos c3] at H
    have c3b0:decide (x10_1 < (l0.length:Int))=true:=decide_eq_true c3
    clear c3
    replace H:=Option.bind_eq_some_iff.mp H
    obtain ⟨⟨t140,t141⟩,A40,H⟩:=H
    try dsimp only at H
    have A4:=Aside0.mk A40
    clear A40
    by_cases c5:t141=true
    ·subst c5
     rw [if_pos rfl] at H
     by_cases c6:t140.toList=a1.toList
     ·rw [if_pos c6] at H
      have c6b0:(t140.toList==a1.toList)=true:=beq_iff_eq.mpr c6
      have c6b1:(t140.toList != a1.toList)=false:=bne_eq_false_iff_eq.mpr c6
      clear c6
      obtain rfl:=Option.some.inj H
      go_wp2_with (first|(refine callA_ (f:=34) (some 16) Tryd.func34 #[.slice A0 l0.length c0,.int .i64 x10_1] ?_;(with_reducible refine (pool_Text.calls _ _ l0 x10_1 t140 true _ ?side1 ?side2 A4.out).mono ?_);(case side1 => exact kc_ HR0.out);(case side2 => exact HC0.out);rintro e w' ⟨rfl,⟨nd,rfl⟩⟩;refine ⟨_,rfl,?_⟩))
      go_ret
      exact ⟨by first|rfl|(simp;done)|(simp [*];done),by repeat (first|exact Drawn0.refl _|apply Drawn0.step)⟩
     ·rw [if_neg c6] at H
      have c6b0:(t140.toList==a1.toList)=false:=beq_eq_false_iff_ne.mpr c6
      have c6b1:(t140.toList != a1.toList)=true:=bne_iff_ne.mpr c6
      have H':=Aside0.mk H
      clear H
      go_wp2_with (first|(refine callA_ (f:=34) (some 16) Tryd.func34 #[.slice A0 l0.length c0,.int .i64 x10_1] ?_;(with_reducible refine (pool_Text.calls _ _ l0 x10_1 t140 true _ ?side1 ?side2 A4.out).mono ?_);(case side1 => exact kc_ HR0.out);(case side2 => exact HC0.out);rintro e w' ⟨rfl,⟨nd,rfl⟩⟩;refine ⟨_,rfl,?_⟩))
      go_roundg k1
      case measure => have:=HK1.out;omega
      case rel => exact ⟨(wrap64 (x10_1 + 1)),r3_,H',⟨by have:=HK1.out;omega⟩,by repeat (first|exact Drawn0.refl _|apply Drawn0.step)⟩
    ·replace c5:=Bool.eq_false_iff.mpr c5
     subst c5
     rw [if_neg (show ¬ (false=true) by decide)] at H
     have H':=Aside0.mk H
     clear H
     go_wp2_with (first|(refine callA_ (f:=34) (some 16) Tryd.func34 #[.slice A0 l0.length c0,.int .i64 x10_1] ?_;(with_reducible refine (pool_Text.calls _ _ l0 x10_1 t140 false _ ?side1 ?side2 A4.out).mono ?_);(case side1 => exact kc_ HR0.out);(case side2 => exact HC0.out);rintro e w' ⟨rfl,⟨nd,rfl⟩⟩;refine ⟨_,rfl,?_⟩))
     go_roundg k1
     case measure => have:=HK1.out;omega
     case rel => exact ⟨(wrap64 (x10_1 + 1)),r3_,H',⟨by have:=HK1.out;omega⟩,by repeat (first|exact Drawn0.refl _|apply Drawn0.step)⟩
   ·rw [if_neg c3] at H
    have c3b0:decide (x10_1 < (l0.length:Int))=false:=decide_eq_false c3
    clear c3
    obtain rfl:=Option.some.inj H
    go_wp2
    go_ret
    exact ⟨by first|rfl|(simp;done)|(simp [*];done),by repeat (first|exact Drawn0.refl _|apply Drawn0.step)⟩
def class_within.f (a0:Int) (a1:Int):Option (Bool):=if a0 ≥ 0 then (some (decide (a0≤a1))) else (some false)
set_option maxHeartbeats 80000000 in
set_option maxRecDepth 100000 in
theorem class_within.calls (a0:Int) (a1:Int) (r:Bool) (w:World) (h:class_within.f a0 a1=some r) :
  Calls Tryd.prog 44 #[.int .i64 a0,.int .i64 a1] w fun e w' => e=.returned (.bool r)∧Drawn0 w w':=by
 have H:(if a0 ≥ 0 then (some (decide (a0≤a1))) else (some false))=some r:=h
 clear h
 by_cases c3:a0 ≥ 0
 ·rw [if_pos c3] at H
  have c3b0:decide (0≤a0)=true:=decide_eq_true c3
  clear c3
  obtain rfl:=Option.some.inj H
  go_enter Tryd.func44,Tryd.ntmps44
  go_wp2
  go_ret
  exact ⟨by first|rfl|(simp;done)|(simp [*];done),by repeat (first|exact Drawn0.refl _|apply Drawn0.step)⟩
 ·rw [if_neg c3] at H
  have c3b0:decide (0≤a0)=false:=decide_eq_false c3
  clear c3
  obtain rfl:=Option.some.inj H
  go_enter Tryd.func44,Tryd.ntmps44
  go_wp2
  go_ret
  exact ⟨by first|rfl|(simp;done)|(simp [*];done),by repeat (first|exact Drawn0.refl _|apply Drawn0.step)⟩
end Go.Proofs.YtmloaijagkebpaaDoor.Px
namespace Go.Proofs.YtmloaijagkebpaaDoor.Px
open Go.RowKit Go.Proofs.YtmloaijagkebpaaDoorW.PrintWords Go.Proofs.YtmloaijagkebpaaDoorW.PrintLast Go.Proofs.YtmloaijagkebpaaDoorW.PrintMore
attribute [local go_sem] max2_int min2_int max_two min_two max_three min_three max_four min_four
set_option linter.unusedVariables false
set_option linter.unusedSimpArgs false
mutual
def class_rules_method.l0:Nat→Int→List (S78)→Int→Int→List (S60)→Int→Int→Int→Int→Int→List Int→List (S78)→List Int→Option (Bool)
 | 0,_,_,_,_,_,_,_,_,_,_,_,_,_ => none
 | k + 1,x5,x12,x13,x14,x143000,x144000,x144001,x144002,x144003,x144004,x144005,x144006,x144007 => if x14 < x13 then (if 0≤x14 then (if x14 < (x12.length:Int) then (if ((rd_T78 x12 x14).f0) < 0 then (class_rules_method.j1 k x5 x12 x13 x14 true x143000 x144000 x144001 x144002 x144003 x144004 x144005 x144006 x144007) else (if ((rd_T78 x12 x14).f0) ≥ ((rd_T78 x12 x14).f1) then (class_rules_method.j1 k x5 x12 x13 x14 true x143000 x144000 x144001 x144002 x144003 x144004 x144005 x144006 x144007) else (if ((rd_T78 x12 x14).f1) > x5 then (class_rules_method.j1 k x5 x12 x13 x14 true x143000 x144000 x144001 x144002 x144003 x144004 x144005 x144006 x144007) else ((class_within.f ((rd_T78 x12 x14).f2) (wrap64 (x5 - 1))).bind fun t146 => (if t146=true then (if ((rd_T78 x12 x14).f3)=0 then (class_rules_method.j1 k x5 x12 x13 x14 false x143000 x144000 x144001 x144002 x144003 x144004 x144005 x144006 x144007) else ((class_rules_class.f k x143000 (([(rd_T78 x12 x14).f3]:List Int))).bind fun t150 => (class_rules_method.j1 k x5 x12 x13 x14 (!t150) x143000 x144000 x144001 x144002 x144003 x144004 x144005 x144006 x144007))) else (class_rules_method.j1 k x5 x12 x13 x14 true x143000 x144000 x144001 x144002 x144003 x144004 x144005 x144006 x144007)))))) else (none)) else (none)) else ((class_flags.f x144000).bind fun t151 => (if t151=true then ((class_rules_text.f k x143000 (([x144001,x144002]:List Int))).bind fun t155 => (if t155=true then ((class_within.f x144003 64).bind fun t156 => (if t156=true then ((class_within.f x144004 64).bind fun t157 => (if t157=true then ((class_within.f (wrap64 (x5 - 1)) 4095).bind fun t158 => (if t158=true then (if (x144007.length:Int)≤4096 then ((class_place.f k x143000 (⟨#[67,111,100,101]⟩:ByteArray)).bind fun t159 => (if t159 > 0 then (if (x144007.length:Int)=0 then (some true) else ((class_place.f k x143000 (⟨#[83,116,97,99,107,77,97,112,84,97,98,108,101]⟩:ByteArray)).bind fun t160 => (some (decide (t160 > 0))))) else (some false))) else (some false)) else (some false))) else (some false))) else (some false))) else (some false))) else (some false)))
def class_rules_method.j1:Nat→Int→List (S78)→Int→Int→Bool→List (S60)→Int→Int→Int→Int→Int→List Int→List (S78)→List Int→Option (Bool)
 | 0,_,_,_,_,_,_,_,_,_,_,_,_,_,_ => none
 | k + 1,x5,x12,x13,x14,x54,x143000,x144000,x144001,x144002,x144003,x144004,x144005,x144006,x144007 => if x54=true then (some false) else (class_rules_method.l0 k x5 x12 x13 (wrap64 (x14 + 1)) x143000 x144000 x144001 x144002 x144003 x144004 x144005 x144006 x144007)
end
def class_rules_method.f (k:Nat) (l0_0:List (S60)) (a1_0:Int) (a1_1:Int) (a1_2:Int) (a1_3:Int) (a1_4:Int) (l1_5:List Int) (l1_6:List (S78)) (l1_7:List Int):Option (Bool):=class_rules_method.l0 k (l1_5.length:Int) l1_6 (l1_6.length:Int) 0 l0_0 a1_0 a1_1 a1_2 a1_3 a1_4 l1_5 l1_6 l1_7
theorem class_rules_method.mono_l:∀ k,(∀ y0 y1 y2 y3 y4 y5 y6 y7 y8 y9 y10 y11 y12,LeO (class_rules_method.l0 k y0 y1 y2 y3 y4 y5 y6 y7 y8 y9 y10 y11 y12) (class_rules_method.l0 (k + 1) y0 y1 y2 y3 y4 y5 y6 y7 y8 y9 y10 y11 y12))∧(∀ y0 y1 y2 y3 y4 y5 y6 y7 y8 y9 y10 y11 y12 y13,LeO (class_rules_method.j1 k y0 y1 y2 y3 y4 y5 y6 y7 y8 y9 y10 y11 y12 y13) (class_rules_method.j1 (k + 1) y0 y1 y2 y3 y4 y5 y6 y7 y8 y9 y10 y11 y12 y13))
 | 0 => ⟨fun _ _ _ _ _ _ _ _ _ _ _ _ _ r h => by simp [class_rules_method.l0] at h,fun _ _ _ _ _ _ _ _ _ _ _ _ _ _ r h => by simp [class_rules_method.j1] at h⟩
 | k + 1 => by
  obtain ⟨ih0,ih1⟩:=class_rules_method.mono_l k
  refine ⟨?_,?_⟩
  ·intro y0 y1 y2 y3 y4 y5 y6 y7 y8 y9 y10 y11 y12
   unfold class_rules_method.l0
   repeat' first
   | (with_reducible exact ih0 _ _ _ _ _ _ _ _ _ _ _ _ _)
   | (with_reducible exact ih1 _ _ _ _ _ _ _ _ _ _ _ _ _ _)
   | (with_reducible exact class_place.mono _ _ _)
   | (with_reducible exact class_rules_class.mono _ _ _)
   | (with_reducible exact class_rules_text.mono _ _ _)
   | (with_reducible exact LeO.refl _)
   | (with_reducible exact LeO.none _)
   | (with_reducible refine LeO.ite ?_ ?_)
   | (with_reducible refine LeO.bind ?_ (fun _ => ?_))
   | exact ih0 _ _ _ _ _ _ _ _ _ _ _ _ _
   | exact ih1 _ _ _ _ _ _ _ _ _ _ _ _ _ _
   | exact class_place.mono _ _ _
   | exact class_rules_class.mono _ _ _
   | exact class_rules_text.mono _ _ _
   | exact LeO.none _
   | refine LeO.ite ?_ ?_
   | refine LeO.bind ?_ (fun _ => ?_)
  ·intro y0 y1 y2 y3 y4 y5 y6 y7 y8 y9 y10 y11 y12 y13
   unfold class_rules_method.j1
   repeat' first
   | (with_reducible exact ih0 _ _ _ _ _ _ _ _ _ _ _ _ _)
   | (with_reducible exact ih1 _ _ _ _ _ _ _ _ _ _ _ _ _ _)
   | (with_reducible exact class_place.mono _ _ _)
   | (with_reducible exact class_rules_class.mono _ _ _)
   | (with_reducible exact class_rules_text.mono _ _ _)
   | (with_reducible exact LeO.refl _)
   | (with_reducible exact LeO.none _)
   | (with_reducible refine LeO.ite ?_ ?_)
   | (with_reducible refine LeO.bind ?_ (fun _ => ?_))
   | exact ih0 _ _ _ _ _ _ _ _ _ _ _ _ _
   | exact ih1 _ _ _ _ _ _ _ _ _ _ _ _ _ _
   | exact class_place.mono _ _ _
   | exact class_rules_class.mono _ _ _
   | exact class_rules_text.mono _ _ _
   | exact LeO.none _
   | refine LeO.ite ?_ ?_
   | refine LeO.bind ?_ (fun _ => ?_)
theorem class_rules_method.mono:∀ a0 a1 a2 a3 a4 a5 a6 a7 a8 k,LeO (class_rules_method.f k a0 a1 a2 a3 a4 a5 a6 a7 a8) (class_rules_method.f (k + 1) a0 a1 a2 a3 a4 a5 a6 a7 a8):=by
 intro a0 a1 a2 a3 a4 a5 a6 a7 a8 k
 obtain ⟨ih0,ih1⟩:=class_rules_method.mono_l k
 unfold class_rules_method.f
 repeat' first
   | (with_reducible exact ih0 _ _ _ _ _ _ _ _ _ _ _ _ _)
   | (with_reducible exact ih1 _ _ _ _ _ _ _ _ _ _ _ _ _ _)
   | (with_reducible exact class_place.mono _ _ _)
   | (with_reducible exact class_rules_class.mono _ _ _)
   | (with_reducible exact class_rules_text.mono _ _ _)
   | (with_reducible exact LeO.refl _)
   | (with_reducible exact LeO.none _)
   | (with_reducible refine LeO.ite ?_ ?_)
   | (with_reducible refine LeO.bind ?_ (fun _ => ?_))
   | exact ih0 _ _ _ _ _ _ _ _ _ _ _ _ _
   | exact ih1 _ _ _ _ _ _ _ _ _ _ _ _ _ _
   | exact class_place.mono _ _ _
   | exact class_rules_class.mono _ _ _
   | exact class_rules_text.mono _ _ _
   | exact LeO.none _
   | refine LeO.ite ?_ ?_
   | refine LeO.bind ?_ (fun _ => ?_)
set_option maxHeartbeats 80000000 in
set_option maxRecDepth 100000 in
theorem class_rules_method.calls (k:Nat) (A0_0:Option Addr) (c0_0:Nat) (l0_0:List (S60)) (a1_0:Int) (a1_1:Int) (a1_2:Int) (a1_3:Int) (a1_4:Int) (A1_5:Option Addr) (c1_5:Nat) (l1_5:List Int) (A1_6:Option Addr) (c1_6:Nat) (l1_6:List (S78)) (A1_7:Option Addr) (c1_7:Nat) (l1_7:List Int) (r:Bool) (w:World) (hr0_0:Kd.C k60 w A0_0 l0_0.length l0_0) (hc0_0:l0_0.length≤c0_0) (hr1_5:Kd.C (Kd.int .u8) w A1_5 l1_5.length l1_5) (hc1_5:l1_5.length≤c1_5) (hr1_6:Kd.C k78 w A1_6 l1_6.length l1_6) (hc1_6:l1_6.length≤c1_6) (hr1_7:Kd.C (Kd.int .u8) w A1_7 l1_7.length l1_7) (hc1_7:l1_7.length≤c1_7) (h:class_rules_method.f k l0_0 a1_0 a1_1 a1_2 a1_3 a1_4 l1_5 l1_6 l1_7=some r) :
  Calls Tryd.prog 28 #[.agg #[.slice A0_0 l0_0.length c0_0],.agg #[.int .i64 a1_0,.int .i64 a1_1,.int .i64 a1_2,.int .i64 a1_3,.int .i64 a1_4,.slice A1_5 l1_5.length c1_5,.slice A1_6 l1_6.length c1_6,.slice A1_7 l1_7.length c1_7]] w fun e w' => e=.returned (.bool r)∧Below w.heap.size w w':=by
 have hu64:=Tryd.underlying64
 have hu49:=Tryd.underlying49
 have hu78:=Tryd.underlying78
 have HR0_0:=Aside0.mk hr0_0
 have HC0_0:=Aside0.mk hc0_0
 clear hr0_0 hc0_0
 have HR1_5:=Aside0.mk hr1_5
 have HC1_5:=Aside0.mk hc1_5
 clear hr1_5 hc1_5
 have HR1_6:=Aside0.mk hr1_6
 have HC1_6:=Aside0.mk hc1_6
 clear hr1_6 hc1_6
 have HR1_7:=Aside0.mk hr1_7
 have HC1_7:=Aside0.mk hc1_7
 clear hr1_7 hc1_7
 have HB:=Aside0.mk (Below.refl w.heap.size w)
 have H:(class_rules_method.l0 k (l1_5.length:Int) l1_6 (l1_6.length:Int) 0 l0_0 a1_0 a1_1 a1_2 a1_3 a1_4 l1_5 l1_6 l1_7)=some r:=h
 clear h
 have H':=Aside0.mk H
 clear H
 go_enter Tryd.func28,Tryd.ntmps28
 go_wp2_with (first|((with_reducible refine gate_dst (N:=2) rfl ?_);(try (refine gate_guard (by rfl) ?_;dsimp only));refine box_event ?hg (N:=2) ?hd (cs:=#[.slice A0_0 l0_0.length c0_0]) (t:=64) ?hr ?_;(case hd => rfl);(case hg => rfl);(case hr => first|(go_simp;done)|(go_simp;rfl));intro gb142 hg w3 hbox hb;have n0_:=Aside0.mk (below_step bl_ hb);have n1_:=Aside0.mk (hbox);have n2_:=Aside0.mk ((by rw [hg];exact (below_size bl_):w.heap.size≤gb142));have n3_:=Aside0.mk ((by rw [hg];exact (below_size bl_):w.heap.size≤gb142));clear HB;have HB:=n0_;have BK142:=n1_;have GW142:=n2_;have GE142:=n3_;clear n0_ n1_ n2_ n3_;clear hb hbox hg)|((with_reducible refine gate_dst (N:=3) rfl ?_);(try (refine gate_guard (by rfl) ?_;dsimp only));refine box_event ?hg (N:=3) ?hd (cs:=#[.int .i64 a1_0,.int .i64 a1_1,.int .i64 a1_2,.int .i64 a1_3,.int .i64 a1_4,.slice A1_5 l1_5.length c1_5,.slice A1_6 l1_6.length c1_6,.slice A1_7 l1_7.length c1_7]) (t:=49) ?hr ?_;(case hd => rfl);(case hg => rfl);(case hr => first|(go_simp;done)|(go_simp;rfl));intro gb143 hg w4 hbox hb;have n0_:=Aside0.mk (blk_below (g:=gb142) (o:=.cells #[.slice A0_0 l0_0.length c0_0] 64 (0,0)) bk_ hb);have n1_:=Aside0.mk (below_step bl_ hb);have n2_:=Aside0.mk (hbox);have n3_:=Aside0.mk ((by rw [hg];exact (below_size bl_):w.heap.size≤gb143));have n4_:=Aside0.mk ((by rw [hg];exact (below_size bl_):w.heap.size≤gb143));have n5_:=Aside0.mk ((by rw [hg];exact Nat.ne_of_lt (blk_lt (g:=gb142) (o:=.cells #[.slice A0_0 l0_0.length c0_0] 64 (0,0)) bk_):gb142 ≠ gb143));have n6_:=Aside0.mk ((by rw [hg];exact Nat.ne_of_gt (blk_lt (g:=gb142) (o:=.cells #[.slice A0_0 l0_0.length c0_0] 64 (0,0)) bk_):gb143 ≠ gb142));clear BK142;clear HB;have BK142:=n0_;have HB:=n1_;have BK143:=n2_;have GW143:=n3_;have GE143:=n4_;have NB142_143:=n5_;have NB143_142:=n6_;clear n0_ n1_ n2_ n3_ n4_ n5_ n6_;clear hb hbox hg;have hnb5:=NB143_142.out;have hnc5:=NB142_143.out;obtain ⟨hcz6_0,hcz6_1,hcz6_2,hcz6_3,hcz6_4,hcz6_5,hcz6_6,hcz6_7⟩:=blc8_ BK143.out;have hfz6_0:=blk_frozen BK143.out 0;have hfz6_1:=blk_frozen BK143.out 1;have hfz6_2:=blk_frozen BK143.out 2;have hfz6_3:=blk_frozen BK143.out 3;have hfz6_4:=blk_frozen BK143.out 4;have hfz6_5:=blk_frozen BK143.out 5;have hfz6_6:=blk_frozen BK143.out 6;have hfz6_7:=blk_frozen BK143.out 7))
 go_loopg [14] k (fun kq v14 w' => ∃ (x14_1:Int),v14=.int .i64 x14_1∧Aside0 (class_rules_method.l0 kq (l1_5.length:Int) l1_6 (l1_6.length:Int) x14_1 l0_0 a1_0 a1_1 a1_2 a1_3 a1_4 l1_5 l1_6 l1_7=some r)∧Aside0 (kq≤k)∧Aside0 (w'.heap[gb142]?=some (.cells #[(.slice A0_0 l0_0.length c0_0)] 64 (0,0)))∧Aside0 (w'.heap[gb143]?=some (.cells #[.int .i64 a1_0,.int .i64 a1_1,.int .i64 a1_2,.int .i64 a1_3,.int .i64 a1_4,(.slice A1_5 l1_5.length c1_5),(.slice A1_6 l1_6.length c1_6),(.slice A1_7 l1_7.length c1_7)] 49 (0,0)))∧Aside0 (Below w.heap.size w w'))
 case atStart => exact ⟨(0),r3_,H',⟨Nat.le_refl _⟩,⟨bk_⟩,⟨bk_⟩,⟨bl_⟩⟩
 case round =>
  clear H'
  try clear hcz6_0;try clear hcz6_1;try clear hcz6_2;try clear hcz6_3;try clear hcz6_4;try clear hcz6_5;try clear hcz6_6;try clear hcz6_7;try clear hfz6_0;try clear hfz6_1;try clear hfz6_2;try clear hfz6_3;try clear hfz6_4;try clear hfz6_5;try clear hfz6_6;try clear hfz6_7
  obtain ⟨x14_1,rfl,HA,HK1,BK142,BK143,HB⟩:=hrel
  cases gk with
  | zero => exact absurd HA.out (by simp [class_rules_method.l0])
  | succ k1 =>
   have H:=HA.out
   clear HA
   simp only [class_rules_method.l0] at H
   by_cases c7:x14_1 < (l1_6.length:Int)
   ·rw [if_pos c7] at H
    have c7b0:decide (x14_1 < (l1_6.length:Int))=true:=decide_eq_true c7
    clear c7
    by_cases c8:0≤x14_1
    ·rw [if_pos c8] at H
     have c8b0:decide (0≤x14_1)=true:=decide_eq_true c8
     clear c8
     by_cases c9:x14_1 < (l1_6.length:Int)
     ·rw [if_pos c9] at H
      have c9b0:decide (x14_1 < (l1_6.length:Int))=true:=decide_eq_true c9
      clear c9
      have HC10:=Aside0.mk H
      clear H
      have p144:0≤(x14_1:Int):=od_
      have q144:x14_1 < (l1_6.length:Int):=od_
      obtain ⟨ad144,e144,hx144_0,hx144_1,hx144_2,hx144_3⟩:=at_T78 HR1_6.out x14_1 p144 q144
      cases e144
      replace hx144_0:=hb_ HB hx144_0
      replace hx144_1:=hb_ HB hx144_1
      replace hx144_2:=hb_ HB hx144_2
      replace hx144_3:=hb_ HB hx144_3
      replace p144:=eq_true p144
      replace q144:=eq_true q144
      go_upto_region 5 with (first|((with_reducible refine gate_dst (N:=7) rfl ?_);(try (refine gate_guard (by rfl) ?_;dsimp only));refine box_event ?hg (N:=7) ?hd (cs:=#[.int .i64 0,.int .i64 0,.int .i64 0,.int .i64 0]) (t:=78) ?hr ?_;(case hd => rfl);(case hg => rfl);(case hr => first|(go_simp;done)|(go_simp;rfl));intro gb145 hg w11 hbox hb;have n0_:=Aside0.mk (blk_below (g:=gb142) (o:=.cells #[.slice A0_0 l0_0.length c0_0] 64 (0,0)) bk_ hb);have n1_:=Aside0.mk (blk_below (g:=gb143) (o:=.cells #[.int .i64 a1_0,.int .i64 a1_1,.int .i64 a1_2,.int .i64 a1_3,.int .i64 a1_4,.slice A1_5 l1_5.length c1_5,.slice (some ad144) l1_6.length c1_6,.slice A1_7 l1_7.length c1_7] 49 (0,0)) bk_ hb);have n2_:=Aside0.mk (below_step bl_ hb);have n3_:=Aside0.mk (hbox);have n4_:=Aside0.mk ((by rw [hg];exact (below_size bl_):w.heap.size≤gb145));have n5_:=Aside0.mk ((by rw [hg];exact (below_size bl_):w.heap.size≤gb145));have n6_:=Aside0.mk ((by rw [hg];exact Nat.ne_of_lt (blk_lt (g:=gb142) (o:=.cells #[.slice A0_0 l0_0.length c0_0] 64 (0,0)) bk_):gb142 ≠ gb145));have n7_:=Aside0.mk ((by rw [hg];exact Nat.ne_of_gt (blk_lt (g:=gb142) (o:=.cells #[.slice A0_0 l0_0.length c0_0] 64 (0,0)) bk_):gb145 ≠ gb142));have n8_:=Aside0.mk ((by rw [hg];exact Nat.ne_of_lt (blk_lt (g:=gb143) (o:=.cells #[.int .i64 a1_0,.int .i64 a1_1,.int .i64 a1_2,.int .i64 a1_3,.int .i64 a1_4,.slice A1_5 l1_5.length c1_5,.slice (some ad144) l1_6.length c1_6,.slice A1_7 l1_7.length c1_7] 49 (0,0)) bk_):gb143 ≠ gb145));have n9_:=Aside0.mk ((by rw [hg];exact Nat.ne_of_gt (blk_lt (g:=gb143) (o:=.cells #[.int .i64 a1_0,.int .i64 a1_1,.int .i64 a1_2,.int .i64 a1_3,.int .i64 a1_4,.slice A1_5 l1_5.length c1_5,.slice (some ad144) l1_6.length c1_6,.slice A1_7 l1_7.length c1_7] 49 (0,0)) bk_):gb145 ≠ gb143));clear BK142;clear BK143;clear HB;have BK142:=n0_;have BK143:=n1_;have HB:=n2_;have BK145:=n3_;have GW145:=n4_;have GE145:=n5_;have NB142_145:=n6_;have NB145_142:=n7_;have NB143_145:=n8_;have NB145_143:=n9_;clear n0_ n1_ n2_ n3_ n4_ n5_ n6_ n7_ n8_ n9_;clear hb hbox hg;have hnb12:=NB145_142.out;have hnc12:=NB142_145.out;have hnb13:=NB145_143.out;have hnc13:=NB143_145.out;obtain ⟨hcz14_0,hcz14_1,hcz14_2,hcz14_3⟩:=blc4_ BK145.out;have hfz14_0:=blk_frozen BK145.out 0;have hfz14_1:=blk_frozen BK145.out 1;have hfz14_2:=blk_frozen BK145.out 2;have hfz14_3:=blk_frozen BK145.out 3))
      (try simp only [Act.put,List.setIfInBounds_toArray,List.set_cons_zero,List.set_cons_succ])
      go_cut [54] (fun v54 wc => ∃ (kq:Nat) (x54_9:Bool),v54=.bool x54_9∧Aside0 (class_rules_method.j1 kq (l1_5.length:Int) l1_6 (l1_6.length:Int) x14_1 x54_9 l0_0 a1_0 a1_1 a1_2 a1_3 a1_4 l1_5 l1_6 l1_7=some r)∧Aside0 (kq≤k1)∧Aside0 (wc.heap[gb142]?=some (.cells #[(.slice A0_0 l0_0.length c0_0)] 64 (0,0)))∧Aside0 (wc.heap[gb143]?=some (.cells #[.int .i64 a1_0,.int .i64 a1_1,.int .i64 a1_2,.int .i64 a1_3,.int .i64 a1_4,(.slice A1_5 l1_5.length c1_5),(.slice (some ad144) l1_6.length c1_6),(.slice A1_7 l1_7.length c1_7)] 49 (0,0)))∧Aside0 (wc.heap[gb145]?=some (.cells #[.int .i64 ((rd_T78 l1_6 x14_1).f0),.int .i64 ((rd_T78 l1_6 x14_1).f1),.int .i64 ((rd_T78 l1_6 x14_1).f2),.int .i64 ((rd_T78 l1_6 x14_1).f3)] 78 (0,0)))∧Aside0 (Below w.heap.size w wc))
      case first =>
       have H:=HC10.out
       clear HC10
       by_cases c15:((rd_T78 l1_6 x14_1).f0) < 0
       ·rw [if_pos c15] at H
        have c15b0:decide (((rd_T78 l1_6 x14_1).f0) < 0)=true:=decide_eq_true c15
        clear c15
        (first|rw [c15b0]|(simp only [i64_w,i32_w];rw [c15b0])|skip)
        have H':=Aside0.mk H
        clear H
        have hnb16:=NB145_142.out
        have hnc16:=NB142_145.out
        have hnb17:=NB145_143.out
        have hnc17:=NB143_145.out
        obtain ⟨hcz18_0,hcz18_1,hcz18_2,hcz18_3,hfz18_0,hfz18_1,hfz18_2,hfz18_3⟩:=blk4_ BK145.out
        go_wp2
        go_meet
        case rel => exact ⟨_,(true),r3_,H',⟨by have:=HK1.out;first|omega|exact Nat.le_refl _⟩,⟨bk_⟩,⟨bk_⟩,⟨by (with_reducible repeat (first|refine blk_drewN ?_ _|refine blk_drew ?_|refine blk_alloc ?_ _));refine blk_put (cs:=#[.int .i64 ((rd_T78 l1_6 x14_1).f0),.int .i64 ((rd_T78 l1_6 x14_1).f1),.int .i64 ((rd_T78 l1_6 x14_1).f2),.int .i64 0]) ?_ 3 _ rfl;(with_reducible repeat (first|refine blk_drewN ?_ _|refine blk_drew ?_|refine blk_alloc ?_ _));refine blk_put (cs:=#[.int .i64 ((rd_T78 l1_6 x14_1).f0),.int .i64 ((rd_T78 l1_6 x14_1).f1),.int .i64 0,.int .i64 0]) ?_ 2 _ rfl;(with_reducible repeat (first|refine blk_drewN ?_ _|refine blk_drew ?_|refine blk_alloc ?_ _));refine blk_put (cs:=#[.int .i64 ((rd_T78 l1_6 x14_1).f0),.int .i64 0,.int .i64 0,.int .i64 0]) ?_ 1 _ rfl;(with_reducible repeat (first|refine blk_drewN ?_ _|refine blk_drew ?_|refine blk_alloc ?_ _));refine blk_put (cs:=#[.int .i64 0,.int .i64 0,.int .i64 0,.int .i64 0]) ?_ 0 _ rfl;(with_reducible repeat (first|refine blk_drewN ?_ _|refine blk_drew ?_|refine blk_alloc ?_ _));exact BK145.out⟩,⟨bl_⟩⟩
       ·rw [if_neg c15] at H
        have c15b0:decide (((rd_T78 l1_6 x14_1).f0) < 0)=false:=decide_eq_false c15
        clear c15
        (first|rw [c15b0]|(simp only [i64_w,i32_w];rw [c15b0])|skip)
        by_cases c19:((rd_T78 l1_6 x14_1).f0) ≥ ((rd_T78 l1_6 x14_1).f1)
        ·rw [if_pos c19] at H
         have c19b0:decide (((rd_T78 l1_6 x14_1).f1)≤((rd_T78 l1_6 x14_1).f0))=true:=decide_eq_true c19
         clear c19
         have H':=Aside0.mk H
         clear H
         have hnb20:=NB145_142.out
         have hnc20:=NB142_145.out
         have hnb21:=NB145_143.out
         have hnc21:=NB143_145.out
         obtain ⟨hcz22_0,hcz22_1,hcz22_2,hcz22_3,hfz22_0,hfz22_1,hfz22_2,hfz22_3⟩:=blk4_ BK145.out
         go_wp2
         go_meet
         case rel => exact ⟨_,(true),r3_,H',⟨by have:=HK1.out;first|omega|exact Nat.le_refl _⟩,⟨bk_⟩,⟨bk_⟩,⟨by (with_reducible repeat (first|refine blk_drewN ?_ _|refine blk_drew ?_|refine blk_alloc ?_ _));refine blk_put (cs:=#[.int .i64 ((rd_T78 l1_6 x14_1).f0),.int .i64 ((rd_T78 l1_6 x14_1).f1),.int .i64 ((rd_T78 l1_6 x14_1).f2),.int .i64 0]) ?_ 3 _ rfl;(with_reducible repeat (first|refine blk_drewN ?_ _|refine blk_drew ?_|refine blk_alloc ?_ _));refine blk_put (cs:=#[.int .i64 ((rd_T78 l1_6 x14_1).f0),.int .i64 ((rd_T78 l1_6 x14_1).f1),.int .i64 0,.int .i64 0]) ?_ 2 _ rfl;(with_reducible repeat (first|refine blk_drewN ?_ _|refine blk_drew ?_|refine blk_alloc ?_ _));refine blk_put (cs:=#[.int .i64 ((rd_T78 l1_6 x14_1).f0),.int .i64 0,.int .i64 0,.int .i64 0]) ?_ 1 _ rfl;(with_reducible repeat (first|refine blk_drewN ?_ _|refine blk_drew ?_|refine blk_alloc ?_ _));refine blk_put (cs:=#[.int .i64 0,.int .i64 0,.int .i64 0,.int .i64 0]) ?_ 0 _ rfl;(with_reducible repeat (first|refine blk_drewN ?_ _|refine blk_drew ?_|refine blk_alloc ?_ _));exact BK145.out⟩,⟨bl_⟩⟩
        ·rw [if_neg c19] at H
         have c19b0:decide (((rd_T78 l1_6 x14_1).f1)≤((rd_T78 l1_6 x14_1).f0))=false:=decide_eq_false c19
         clear c19
         by_cases c23:((rd_T78 l1_6 x14_1).f1) > (l1_5.length:Int)
         ·rw [if_pos c23] at H
          have c23b0:decide ((l1_5.length:Int) < ((rd_T78 l1_6 x14_1).f1))=true:=decide_eq_true c23
          clear c23
          have H':=Aside0.mk H
          clear H
          have hnb24:=NB145_142.out
          have hnc24:=NB142_145.out
          have hnb25:=NB145_143.out
          have hnc25:=NB143_145.out
          obtain ⟨hcz26_0,hcz26_1,hcz26_2,hcz26_3,hfz26_0,hfz26_1,hfz26_2,hfz26_3⟩:=blk4_ BK145.out
          go_wp2
          go_meet
          case rel => exact ⟨_,(true),r3_,H',⟨by have:=HK1.out;first|omega|exact Nat.le_refl _⟩,⟨bk_⟩,⟨bk_⟩,⟨by (with_reducible repeat (first|refine blk_drewN ?_ _|refine blk_drew ?_|refine blk_alloc ?_ _));refine blk_put (cs:=#[.int .i64 ((rd_T78 l1_6 x14_1).f0),.int .i64 ((rd_T78 l1_6 x14_1).f1),.int .i64 ((rd_T78 l1_6 x14_1).f2),.int .i64 0]) ?_ 3 _ rfl;(with_reducible repeat (first|refine blk_drewN ?_ _|refine blk_drew ?_|refine blk_alloc ?_ _));refine blk_put (cs:=#[.int .i64 ((rd_T78 l1_6 x14_1).f0),.int .i64 ((rd_T78 l1_6 x14_1).f1),.int .i64 0,.int .i64 0]) ?_ 2 _ rfl;(with_reducible repeat (first|refine blk_drewN ?_ _|refine blk_drew ?_|refine blk_alloc ?_ _));refine blk_put (cs:=#[.int .i64 ((rd_T78 l1_6 x14_1).f0),.int .i64 0,.int .i64 0,.int .i64 0]) ?_ 1 _ rfl;(with_reducible repeat (first|refine blk_drewN ?_ _|refine blk_drew ?_|refine blk_alloc ?_ _));refine blk_put (cs:=#[.int .i64 0,.int .i64 0,.int .i64 0,.int .i64 0]) ?_ 0 _ rfl;(with_reducible repeat (first|refine blk_drewN ?_ _|refine blk_drew ?_|refine blk_alloc ?_ _));exact BK145.out⟩,⟨bl_⟩⟩
         ·rw [if_neg c23] at H
          have c23b0:decide ((l1_5.length:Int) < ((rd_T78 l1_6 x14_1).f1))=false:=decide_eq_false c23
          clear c23
          replace H:=Option.bind_eq_some_iff.mp H
          obtain ⟨t146,A270,H⟩:=H
          try dsimp only at H
          have A27:=Aside0.mk A270
          clear A270
          by_cases c28:t146=true
          ·subst c28
           rw [if_pos rfl] at H
           by_cases c29:((rd_T78 l1_6 x14_1).f3)=0
           ·rw [if_pos c29] at H
            have c29b0:(((rd_T78 l1_6 x14_1).f3)==0)=true:=beq_iff_eq.mpr c29
            have c29b1:(((rd_T78 l1_6 x14_1).f3) != 0)=false:=bne_eq_false_iff_eq.mpr c29
            clear c29
            have H':=Aside0.mk H
            clear H
            have hnb30:=NB145_142.out
            have hnc30:=NB142_145.out
            have hnb31:=NB145_143.out
            have hnc31:=NB143_145.out
            obtain ⟨hcz32_0,hcz32_1,hcz32_2,hcz32_3,hfz32_0,hfz32_1,hfz32_2,hfz32_3⟩:=blk4_ BK145.out
            go_wp2_with (first|(go_at_call 44;(with_reducible refine (class_within.calls ((rd_T78 l1_6 x14_1).f2) (wrap64 ((l1_5.length:Int) - 1)) true _ A27.out).mono ?_);rintro e w' ⟨rfl,⟨nd,rfl⟩⟩))
            go_meet
            case rel => exact ⟨_,(false),r3_,H',⟨by have:=HK1.out;first|omega|exact Nat.le_refl _⟩,⟨bk_⟩,⟨bk_⟩,⟨by (with_reducible repeat (first|refine blk_drewN ?_ _|refine blk_drew ?_|refine blk_alloc ?_ _));refine blk_put (cs:=#[.int .i64 ((rd_T78 l1_6 x14_1).f0),.int .i64 ((rd_T78 l1_6 x14_1).f1),.int .i64 ((rd_T78 l1_6 x14_1).f2),.int .i64 0]) ?_ 3 _ rfl;(with_reducible repeat (first|refine blk_drewN ?_ _|refine blk_drew ?_|refine blk_alloc ?_ _));refine blk_put (cs:=#[.int .i64 ((rd_T78 l1_6 x14_1).f0),.int .i64 ((rd_T78 l1_6 x14_1).f1),.int .i64 0,.int .i64 0]) ?_ 2 _ rfl;(with_reducible repeat (first|refine blk_drewN ?_ _|refine blk_drew ?_|refine blk_alloc ?_ _));refine blk_put (cs:=#[.int .i64 ((rd_T78 l1_6 x14_1).f0),.int .i64 0,.int .i64 0,.int .i64 0]) ?_ 1 _ rfl;(with_reducible repeat (first|refine blk_drewN ?_ _|refine blk_drew ?_|refine blk_alloc ?_ _));refine blk_put (cs:=#[.int .i64 0,.int .i64 0,.int .i64 0,.int .i64 0]) ?_ 0 _ rfl;(with_reducible repeat (first|refine blk_drewN ?_ _|refine blk_drew ?_|refine blk_alloc ?_ _));exact BK145.out⟩,⟨bl_⟩⟩
           ·rw [if_neg c29] at H
            have c29b0:(((rd_T78 l1_6 x14_1).f3)==0)=false:=beq_eq_false_iff_ne.mpr c29
            have c29b1:(((rd_T78 l1_6 x14_1).f3) != 0)=true:=bne_iff_ne.mpr c29
            obtain ⟨y147,hy147⟩:∃ y_:List Int,y_=(([(rd_T78 l1_6 x14_1).f3]:List Int)):=⟨_,rfl⟩
            replace H:((class_rules_class.f k1 l0_0 y147).bind fun t150 => (class_rules_method.j1 k1 (l1_5.length:Int) l1_6 (l1_6.length:Int) x14_1 (!t150) l0_0 a1_0 a1_1 a1_2 a1_3 a1_4 l1_5 l1_6 l1_7))=some r:=by first|(rw [hy147];with_reducible exact H)|(have H2_:=(Option.bind_some _ _).symm.trans H;rw [hy147];with_reducible exact H2_)|(have H2_:=(Option.bind_some _ _).symm.trans H;with_reducible exact H2_)|with_reducible exact H|(rw [hy147];exact H)|exact H
            have Ny147:=Aside0.mk hy147
            clear hy147
            replace H:=Option.bind_eq_some_iff.mp H
            obtain ⟨t150,A330,H⟩:=H
            try dsimp only at H
            have A33:=Aside0.mk A330
            clear A330
            have H':=Aside0.mk H
            clear H
            have hnb34:=NB145_142.out
            have hnc34:=NB142_145.out
            have hnb35:=NB145_143.out
            have hnc35:=NB143_145.out
            obtain ⟨hcz36_0,hcz36_1,hcz36_2,hcz36_3,hfz36_0,hfz36_1,hfz36_2,hfz36_3⟩:=blk4_ BK145.out
            go_wp2_with (first|(go_at_call 44;(with_reducible refine (class_within.calls ((rd_T78 l1_6 x14_1).f2) (wrap64 ((l1_5.length:Int) - 1)) true _ A27.out).mono ?_);rintro e w' ⟨rfl,⟨nd,rfl⟩⟩;have hnb37:=NB142_143.out;have hnc37:=NB143_142.out;have hcz38_0:w11.cell? ⟨gb142,0,none⟩=some (.slice A0_0 l0_0.length c0_0):=(blk_cell BK142.out 0).trans rfl;have hfz38_0:=blk_frozen BK142.out 0)|((with_reducible refine gate_dst (N:=50) rfl ?_);(try (refine gate_guard (by rfl) ?_;dsimp only));refine Kd.R_lit (Kd.int .i64) _ 3 ?hg (N:=50) ?hd (xs:=([(rd_T78 l1_6 x14_1).f3]:List Int)) (inner:=[.int .i64 ((rd_T78 l1_6 x14_1).f3)]) (ok:=fun _ => True) (okp:=fun _ => True) ?hr ?hp (fun _ hk => hk) trivial (Below.refl _ _) (Nat.le_refl _) (by simp) ?_;(case hd => rfl);(case hg => rfl);(case hr => first|(go_simp;done)|(go_simp;rfl));(case hp => exact (Reps.one (show Kd.M (Kd.int .i64) _ _ _ ((rd_T78 l1_6 x14_1).f3) [.int .i64 ((rd_T78 l1_6 x14_1).f3)] from rfl) (Reps.none _ _)));intro v148 w39 ho40 hb hg_ hnew_;clear hg_ hnew_;(first|rw [← Ny147.out] at ho40|(simp only [Int.reduceToNat] at ho40;rw [← Ny147.out] at ho40));have n0_:=Aside0.mk (Kd.R_lower ho40 (below_size bl_));have n1_:=Aside0.mk (blk_below (g:=gb142) (o:=.cells #[.slice A0_0 l0_0.length c0_0] 64 (0,0)) bk_ hb);have n2_:=Aside0.mk (blk_below (g:=gb143) (o:=.cells #[.int .i64 a1_0,.int .i64 a1_1,.int .i64 a1_2,.int .i64 a1_3,.int .i64 a1_4,.slice A1_5 l1_5.length c1_5,.slice (some ad144) l1_6.length c1_6,.slice A1_7 l1_7.length c1_7] 49 (0,0)) bk_ hb);have n3_:=Aside0.mk (blk_below (g:=gb145) (o:=.cells #[.int .i64 ((rd_T78 l1_6 x14_1).f0),.int .i64 ((rd_T78 l1_6 x14_1).f1),.int .i64 ((rd_T78 l1_6 x14_1).f2),.int .i64 ((rd_T78 l1_6 x14_1).f3)] 78 (0,0)) (by (with_reducible repeat (first|refine blk_drewN ?_ _|refine blk_drew ?_|refine blk_alloc ?_ _));refine blk_put (cs:=#[.int .i64 ((rd_T78 l1_6 x14_1).f0),.int .i64 ((rd_T78 l1_6 x14_1).f1),.int .i64 ((rd_T78 l1_6 x14_1).f2),.int .i64 0]) ?_ 3 _ rfl;(with_reducible repeat (first|refine blk_drewN ?_ _|refine blk_drew ?_|refine blk_alloc ?_ _));refine blk_put (cs:=#[.int .i64 ((rd_T78 l1_6 x14_1).f0),.int .i64 ((rd_T78 l1_6 x14_1).f1),.int .i64 0,.int .i64 0]) ?_ 2 _ rfl;(with_reducible repeat (first|refine blk_drewN ?_ _|refine blk_drew ?_|refine blk_alloc ?_ _));refine blk_put (cs:=#[.int .i64 ((rd_T78 l1_6 x14_1).f0),.int .i64 0,.int .i64 0,.int .i64 0]) ?_ 1 _ rfl;(with_reducible repeat (first|refine blk_drewN ?_ _|refine blk_drew ?_|refine blk_alloc ?_ _));refine blk_put (cs:=#[.int .i64 0,.int .i64 0,.int .i64 0,.int .i64 0]) ?_ 0 _ rfl;(with_reducible repeat (first|refine blk_drewN ?_ _|refine blk_drew ?_|refine blk_alloc ?_ _));exact BK145.out) hb);have n4_:=Aside0.mk (below_step bl_ hb);clear BK142;clear BK143;clear BK145;clear HB;have HO149:=n0_;have BK142:=n1_;have BK143:=n2_;have BK145:=n3_;have HB:=n4_;clear n0_ n1_ n2_ n3_ n4_;clear hb ho40;obtain ⟨Ao41,co41,eo41⟩:=Kd.R_slice HO149.out;subst eo41)|(go_at_call 25;(with_reducible refine (class_rules_class.calls k1 _ _ l0_0 _ _ y147 t150 _ ?side1 ?side2 ?side3 ?side4 A33.out).mono ?_);(case side1 => exact kc_ (Kd.C_below HR0_0.out HB.out));(case side2 => exact HC0_0.out);(case side3 => exact kc_ (Kd.R_reads' HO149.out).2.2);(case side4 => exact (Kd.R_reads' HO149.out).2.1);rintro e w42 ⟨rfl,hb⟩;have n0_:=Aside0.mk (Kd.R_below (kr_ HO149.out) hb);have n1_:=Aside0.mk (blk_below (g:=gb142) (o:=.cells #[.slice A0_0 l0_0.length c0_0] 64 (0,0)) bk_ hb);have n2_:=Aside0.mk (blk_below (g:=gb143) (o:=.cells #[.int .i64 a1_0,.int .i64 a1_1,.int .i64 a1_2,.int .i64 a1_3,.int .i64 a1_4,.slice A1_5 l1_5.length c1_5,.slice (some ad144) l1_6.length c1_6,.slice A1_7 l1_7.length c1_7] 49 (0,0)) bk_ hb);have n3_:=Aside0.mk (blk_below (g:=gb145) (o:=.cells #[.int .i64 ((rd_T78 l1_6 x14_1).f0),.int .i64 ((rd_T78 l1_6 x14_1).f1),.int .i64 ((rd_T78 l1_6 x14_1).f2),.int .i64 ((rd_T78 l1_6 x14_1).f3)] 78 (0,0)) bk_ hb);have n4_:=Aside0.mk (below_step bl_ hb);clear HO149;clear BK142;clear BK143;clear BK145;clear HB;have HO149:=n0_;have BK142:=n1_;have BK143:=n2_;have BK145:=n3_;have HB:=n4_;clear n0_ n1_ n2_ n3_ n4_;(try clear hb);(try clear hb2);(try clear hk);(try clear hi)))
            go_meet
            case rel => exact ⟨_,(!t150),r3_,H',⟨by have:=HK1.out;first|omega|exact Nat.le_refl _⟩,⟨bk_⟩,⟨bk_⟩,⟨bk_⟩,⟨bl_⟩⟩
          ·replace c28:=Bool.eq_false_iff.mpr c28
           subst c28
           rw [if_neg (show ¬ (false=true) by decide)] at H
           have H':=Aside0.mk H
           clear H
           have hnb43:=NB145_142.out
           have hnc43:=NB142_145.out
           have hnb44:=NB145_143.out
           have hnc44:=NB143_145.out
           obtain ⟨hcz45_0,hcz45_1,hcz45_2,hcz45_3,hfz45_0,hfz45_1,hfz45_2,hfz45_3⟩:=blk4_ BK145.out
           go_wp2_with (first|(go_at_call 44;(with_reducible refine (class_within.calls ((rd_T78 l1_6 x14_1).f2) (wrap64 ((l1_5.length:Int) - 1)) false _ A27.out).mono ?_);rintro e w' ⟨rfl,⟨nd,rfl⟩⟩))
           go_meet
           case rel => exact ⟨_,(true),r3_,H',⟨by have:=HK1.out;first|omega|exact Nat.le_refl _⟩,⟨bk_⟩,⟨bk_⟩,⟨by (with_reducible repeat (first|refine blk_drewN ?_ _|refine blk_drew ?_|refine blk_alloc ?_ _));refine blk_put (cs:=#[.int .i64 ((rd_T78 l1_6 x14_1).f0),.int .i64 ((rd_T78 l1_6 x14_1).f1),.int .i64 ((rd_T78 l1_6 x14_1).f2),.int .i64 0]) ?_ 3 _ rfl;(with_reducible repeat (first|refine blk_drewN ?_ _|refine blk_drew ?_|refine blk_alloc ?_ _));refine blk_put (cs:=#[.int .i64 ((rd_T78 l1_6 x14_1).f0),.int .i64 ((rd_T78 l1_6 x14_1).f1),.int .i64 0,.int .i64 0]) ?_ 2 _ rfl;(with_reducible repeat (first|refine blk_drewN ?_ _|refine blk_drew ?_|refine blk_alloc ?_ _));refine blk_put (cs:=#[.int .i64 ((rd_T78 l1_6 x14_1).f0),.int .i64 0,.int .i64 0,.int .i64 0]) ?_ 1 _ rfl;(with_reducible repeat (first|refine blk_drewN ?_ _|refine blk_drew ?_|refine blk_alloc ?_ _));refine blk_put (cs:=#[.int .i64 0,.int .i64 0,.int .i64 0,.int .i64 0]) ?_ 0 _ rfl;(with_reducible repeat (first|refine blk_drewN ?_ _|refine blk_drew ?_|refine blk_alloc ?_ _));exact BK145.out⟩,⟨bl_⟩⟩
      case rest =>
       clear HC10
       try clear c7;try clear c7b0;try clear c8;try clear c8b0;try clear c9;try clear c9b0;try clear hcz14_0;try clear hcz14_1;try clear hcz14_2;try clear hcz14_3;try clear hfz14_0;try clear hfz14_1;try clear hfz14_2;try clear hfz14_3;try clear hx144_0;try clear hx144_1;try clear hx144_2;try clear hx144_3;try clear p144;try clear q144
       obtain ⟨kq,x54_9,rfl,HA,HJ9,BK142,BK143,BK145,HB⟩:=hcut
       cases kq with
       | zero => exact absurd HA.out (by simp [class_rules_method.j1])
       | succ kj9 =>
        have H:=HA.out
        clear HA
        simp only [class_rules_method.j1] at H
        by_cases c46:x54_9=true
        ·subst c46
         rw [if_pos rfl] at H
         obtain rfl:=Option.some.inj H
         go_wp2
         go_ret
         exact ⟨ew_,bl_⟩
        ·replace c46:=Bool.eq_false_iff.mpr c46
         subst c46
         rw [if_neg (show ¬ (false=true) by decide)] at H
         have H':=Aside0.mk H
         clear H
         go_wp2
         go_roundg kj9
         case measure => have:=HK1.out;have:=HJ9.out;omega
         case rel => exact ⟨(wrap64 (x14_1 + 1)),r3_,H',⟨by have:=HK1.out;have:=HJ9.out;omega⟩,⟨bk_⟩,⟨bk_⟩,⟨bl_⟩⟩
     ·rw [if_neg c9] at H
      exact absurd H (by simp)
    ·rw [if_neg c8] at H
     exact absurd H (by simp)
   ·rw [if_neg c7] at H
    have c7b0:decide (x14_1 < (l1_6.length:Int))=false:=decide_eq_false c7
    clear c7
    replace H:=Option.bind_eq_some_iff.mp H
    obtain ⟨t151,A470,H⟩:=H
    try dsimp only at H
    have A47:=Aside0.mk A470
    clear A470
    by_cases c48:t151=true
    ·subst c48
     rw [if_pos rfl] at H
     obtain ⟨y152,hy152⟩:∃ y_:List Int,y_=(([a1_1,a1_2]:List Int)):=⟨_,rfl⟩
     replace H:((class_rules_text.f k1 l0_0 y152).bind fun t155 => (if t155=true then ((class_within.f a1_3 64).bind fun t156 => (if t156=true then ((class_within.f a1_4 64).bind fun t157 => (if t157=true then ((class_within.f (wrap64 ((l1_5.length:Int) - 1)) 4095).bind fun t158 => (if t158=true then (if (l1_7.length:Int)≤4096 then ((class_place.f k1 l0_0 (⟨#[67,111,100,101]⟩:ByteArray)).bind fun t159 => (if t159 > 0 then (if (l1_7.length:Int)=0 then (some true) else ((class_place.f k1 l0_0 (⟨#[83,116,97,99,107,77,97,112,84,97,98,108,101]⟩:ByteArray)).bind fun t160 => (some (decide (t160 > 0))))) else (some false))) else (some false)) else (some false))) else (some false))) else (some false))) else (some false)))=some r:=by first|(rw [hy152];with_reducible exact H)|(have H2_:=(Option.bind_some _ _).symm.trans H;rw [hy152];with_reducible exact H2_)|(have H2_:=(Option.bind_some _ _).symm.trans H;with_reducible exact H2_)|with_reducible exact H|(rw [hy152];exact H)|exact H
     have Ny152:=Aside0.mk hy152
     clear hy152
     replace H:=Option.bind_eq_some_iff.mp H
     obtain ⟨t155,A490,H⟩:=H
     try dsimp only at H
     have A49:=Aside0.mk A490
     clear A490
     by_cases c50:t155=true
     ·subst c50
      rw [if_pos rfl] at H
      replace H:=Option.bind_eq_some_iff.mp H
      obtain ⟨t156,A510,H⟩:=H
      try dsimp only at H
      have A51:=Aside0.mk A510
      clear A510
      by_cases c52:t156=true
      ·subst c52
       rw [if_pos rfl] at H
       replace H:=Option.bind_eq_some_iff.mp H
       obtain ⟨t157,A530,H⟩:=H
       try dsimp only at H
       have A53:=Aside0.mk A530
       clear A530
       by_cases c54:t157=true
       ·subst c54
        rw [if_pos rfl] at H
        replace H:=Option.bind_eq_some_iff.mp H
        obtain ⟨t158,A550,H⟩:=H
        try dsimp only at H
        have A55:=Aside0.mk A550
        clear A550
        by_cases c56:t158=true
        ·subst c56
         rw [if_pos rfl] at H
         by_cases c57:(l1_7.length:Int)≤4096
         ·rw [if_pos c57] at H
          have c57b0:decide ((l1_7.length:Int)≤4096)=true:=decide_eq_true c57
          have c57b1:decide (l1_7.length≤4096)=true:=decide_eq_true (by omega)
          clear c57
          replace H:=Option.bind_eq_some_iff.mp H
          obtain ⟨t159,A580,H⟩:=H
          try dsimp only at H
          have A58:=Aside0.mk A580
          clear A580
          by_cases c59:t159 > 0
          ·rw [if_pos c59] at H
           have c59b0:decide (0 < t159)=true:=decide_eq_true c59
           clear c59
           by_cases c60:(l1_7.length:Int)=0
           ·rw [if_pos c60] at H
            have c60b0:((l1_7.length:Int)==0)=true:=beq_iff_eq.mpr c60
            have c60b1:((l1_7.length:Int) != 0)=false:=bne_eq_false_iff_eq.mpr c60
            clear c60
            obtain rfl:=Option.some.inj H
            have hnb61:=NB143_142.out
            have hnc61:=NB142_143.out
            obtain ⟨hcz62_0,hcz62_1,hcz62_2,hcz62_3,hcz62_4,hcz62_5,hcz62_6,hcz62_7,hfz62_0,hfz62_1,hfz62_2,hfz62_3,hfz62_4,hfz62_5,hfz62_6,hfz62_7⟩:=blk8_ BK143.out
            go_wp2_with (first|((with_reducible refine gate_callee (f:=26) rfl ?_);refine goesL_ (some 58) rfl rfl Tryd.func26 (by kernel_rfl) rfl #[.int .i64 a1_0] rfl (by (try simp only [List.map_toArray,List.map_cons,List.map_nil]);first|done|rfl|(simp only [List.length_drop,List.length_take];rfl)) ?_;(with_reducible refine (class_flags.calls a1_0 true _ A47.out).mono ?_);rintro e w' ⟨rfl,⟨nd,rfl⟩⟩;refine ⟨_,rfl,?_⟩;have hcz63_0:wr.cell? ⟨gb142,0,none⟩=some (.slice A0_0 l0_0.length c0_0):=(blk_cell BK142.out 0).trans rfl;have hfz63_0:=blk_frozen BK142.out 0)|((with_reducible refine gate_dst (N:=65) rfl ?_);(try (refine gate_guard (by rfl) ?_;dsimp only));refine Kd.R_lit (Kd.int .i64) _ 3 ?hg (N:=65) ?hd (xs:=([a1_1,a1_2]:List Int)) (inner:=[.int .i64 a1_1,.int .i64 a1_2]) (ok:=fun _ => True) (okp:=fun _ => True) ?hr ?hp (fun _ hk => hk) trivial (Below.refl _ _) (Nat.le_refl _) (by simp) ?_;(case hd => rfl);(case hg => rfl);(case hr => first|(go_simp;done)|(go_simp;rfl));(case hp => exact (Reps.one (show Kd.M (Kd.int .i64) _ _ _ a1_1 [.int .i64 a1_1] from rfl) (Reps.one (show Kd.M (Kd.int .i64) _ _ _ a1_2 [.int .i64 a1_2] from rfl) (Reps.none _ _))));intro v153 w64 ho65 hb hg_ hnew_;clear hg_ hnew_;(first|rw [← Ny152.out] at ho65|(simp only [Int.reduceToNat] at ho65;rw [← Ny152.out] at ho65));have n0_:=Aside0.mk (Kd.R_lower ho65 (below_size bl_));have n1_:=Aside0.mk (blk_below (g:=gb142) (o:=.cells #[.slice A0_0 l0_0.length c0_0] 64 (0,0)) bk_ hb);have n2_:=Aside0.mk (blk_below (g:=gb143) (o:=.cells #[.int .i64 a1_0,.int .i64 a1_1,.int .i64 a1_2,.int .i64 a1_3,.int .i64 a1_4,.slice A1_5 l1_5.length c1_5,.slice A1_6 l1_6.length c1_6,.slice A1_7 l1_7.length c1_7] 49 (0,0)) bk_ hb);have n3_:=Aside0.mk (below_step bl_ hb);clear BK142;clear BK143;clear HB;have HO154:=n0_;have BK142:=n1_;have BK143:=n2_;have HB:=n3_;clear n0_ n1_ n2_ n3_;clear hb ho65;obtain ⟨Ao66,co66,eo66⟩:=Kd.R_slice HO154.out;subst eo66)|(go_at_call 27;(with_reducible refine (class_rules_text.calls k1 _ _ l0_0 _ _ y152 true _ ?side1 ?side2 ?side3 ?side4 A49.out).mono ?_);(case side1 => exact kc_ (Kd.C_below HR0_0.out HB.out));(case side2 => exact HC0_0.out);(case side3 => exact kc_ (Kd.R_reads' HO154.out).2.2);(case side4 => exact (Kd.R_reads' HO154.out).2.1);rintro e w67 ⟨rfl,hb⟩;have n0_:=Aside0.mk (Kd.R_below (kr_ HO154.out) hb);have n1_:=Aside0.mk (blk_below (g:=gb142) (o:=.cells #[.slice A0_0 l0_0.length c0_0] 64 (0,0)) bk_ hb);have n2_:=Aside0.mk (blk_below (g:=gb143) (o:=.cells #[.int .i64 a1_0,.int .i64 a1_1,.int .i64 a1_2,.int .i64 a1_3,.int .i64 a1_4,.slice A1_5 l1_5.length c1_5,.slice A1_6 l1_6.length c1_6,.slice A1_7 l1_7.length c1_7] 49 (0,0)) bk_ hb);have n3_:=Aside0.mk (below_step bl_ hb);clear HO154;clear BK142;clear BK143;clear HB;have HO154:=n0_;have BK142:=n1_;have BK143:=n2_;have HB:=n3_;clear n0_ n1_ n2_ n3_;(try clear hb);(try clear hb2);(try clear hk);(try clear hi);obtain ⟨hcz68_0,hcz68_1,hcz68_2,hcz68_3,hcz68_4,hcz68_5,hcz68_6,hcz68_7⟩:=blc8_ BK143.out;have hfz68_0:=blk_frozen BK143.out 0;have hfz68_1:=blk_frozen BK143.out 1;have hfz68_2:=blk_frozen BK143.out 2;have hfz68_3:=blk_frozen BK143.out 3;have hfz68_4:=blk_frozen BK143.out 4;have hfz68_5:=blk_frozen BK143.out 5;have hfz68_6:=blk_frozen BK143.out 6;have hfz68_7:=blk_frozen BK143.out 7)|(go_at_call 44;(with_reducible refine (class_within.calls a1_3 64 true _ A51.out).mono ?_);rintro e w' ⟨rfl,⟨nd,rfl⟩⟩)|(go_at_call 44;(with_reducible refine (class_within.calls a1_4 64 true _ A53.out).mono ?_);rintro e w' ⟨rfl,⟨nd,rfl⟩⟩)|(go_at_call 44;(with_reducible refine (class_within.calls (wrap64 ((l1_5.length:Int) - 1)) 4095 true _ A55.out).mono ?_);rintro e w' ⟨rfl,⟨nd,rfl⟩⟩;have hcz69_0:w67.cell? ⟨gb142,0,none⟩=some (.slice A0_0 l0_0.length c0_0):=(blk_cell BK142.out 0).trans rfl;have hfz69_0:=blk_frozen BK142.out 0)|(go_at_call 13;(with_reducible refine (class_place.calls k1 _ _ l0_0 (⟨#[67,111,100,101]⟩:ByteArray) t159 _ ?side1 ?side2 A58.out).mono ?_);(case side1 => exact kc_ (Kd.C_below HR0_0.out bl_));(case side2 => exact HC0_0.out);rintro e w' ⟨rfl,⟨nd,rfl⟩⟩))
            go_ret
            exact ⟨ew_,bl_⟩
           ·rw [if_neg c60] at H
            have c60b0:((l1_7.length:Int)==0)=false:=beq_eq_false_iff_ne.mpr c60
            have c60b1:((l1_7.length:Int) != 0)=true:=bne_iff_ne.mpr c60
            have c60b2:¬ (l1_7=[]):=fun h_ => c60 (by rw [h_];rfl)
            replace H:=Option.bind_eq_some_iff.mp H
            obtain ⟨t160,A700,H⟩:=H
            try dsimp only at H
            have A70:=Aside0.mk A700
            clear A700
            obtain rfl:=Option.some.inj H
            have hnb71:=NB143_142.out
            have hnc71:=NB142_143.out
            obtain ⟨hcz72_0,hcz72_1,hcz72_2,hcz72_3,hcz72_4,hcz72_5,hcz72_6,hcz72_7,hfz72_0,hfz72_1,hfz72_2,hfz72_3,hfz72_4,hfz72_5,hfz72_6,hfz72_7⟩:=blk8_ BK143.out
            go_wp2_with (first|((with_reducible refine gate_callee (f:=26) rfl ?_);refine goesL_ (some 58) rfl rfl Tryd.func26 (by kernel_rfl) rfl #[.int .i64 a1_0] rfl (by (try simp only [List.map_toArray,List.map_cons,List.map_nil]);first|done|rfl|(simp only [List.length_drop,List.length_take];rfl)) ?_;(with_reducible refine (class_flags.calls a1_0 true _ A47.out).mono ?_);rintro e w' ⟨rfl,⟨nd,rfl⟩⟩;refine ⟨_,rfl,?_⟩;have hcz73_0:wr.cell? ⟨gb142,0,none⟩=some (.slice A0_0 l0_0.length c0_0):=(blk_cell BK142.out 0).trans rfl;have hfz73_0:=blk_frozen BK142.out 0)|((with_reducible refine gate_dst (N:=65) rfl ?_);(try (refine gate_guard (by rfl) ?_;dsimp only));refine Kd.R_lit (Kd.int .i64) _ 3 ?hg (N:=65) ?hd (xs:=([a1_1,a1_2]:List Int)) (inner:=[.int .i64 a1_1,.int .i64 a1_2]) (ok:=fun _ => True) (okp:=fun _ => True) ?hr ?hp (fun _ hk => hk) trivial (Below.refl _ _) (Nat.le_refl _) (by simp) ?_;(case hd => rfl);(case hg => rfl);(case hr => first|(go_simp;done)|(go_simp;rfl));(case hp => exact (Reps.one (show Kd.M (Kd.int .i64) _ _ _ a1_1 [.int .i64 a1_1] from rfl) (Reps.one (show Kd.M (Kd.int .i64) _ _ _ a1_2 [.int .i64 a1_2] from rfl) (Reps.none _ _))));intro v153 w74 ho75 hb hg_ hnew_;clear hg_ hnew_;(first|rw [← Ny152.out] at ho75|(simp only [Int.reduceToNat] at ho75;rw [← Ny152.out] at ho75));have n0_:=Aside0.mk (Kd.R_lower ho75 (below_size bl_));have n1_:=Aside0.mk (blk_below (g:=gb142) (o:=.cells #[.slice A0_0 l0_0.length c0_0] 64 (0,0)) bk_ hb);have n2_:=Aside0.mk (blk_below (g:=gb143) (o:=.cells #[.int .i64 a1_0,.int .i64 a1_1,.int .i64 a1_2,.int .i64 a1_3,.int .i64 a1_4,.slice A1_5 l1_5.length c1_5,.slice A1_6 l1_6.length c1_6,.slice A1_7 l1_7.length c1_7] 49 (0,0)) bk_ hb);have n3_:=Aside0.mk (below_step bl_ hb);clear BK142;clear BK143;clear HB;have HO154:=n0_;have BK142:=n1_;have BK143:=n2_;have HB:=n3_;clear n0_ n1_ n2_ n3_;clear hb ho75;obtain ⟨Ao76,co76,eo76⟩:=Kd.R_slice HO154.out;subst eo76)|(go_at_call 27;(with_reducible refine (class_rules_text.calls k1 _ _ l0_0 _ _ y152 true _ ?side1 ?side2 ?side3 ?side4 A49.out).mono ?_);(case side1 => exact kc_ (Kd.C_below HR0_0.out HB.out));(case side2 => exact HC0_0.out);(case side3 => exact kc_ (Kd.R_reads' HO154.out).2.2);(case side4 => exact (Kd.R_reads' HO154.out).2.1);rintro e w77 ⟨rfl,hb⟩;have n0_:=Aside0.mk (Kd.R_below (kr_ HO154.out) hb);have n1_:=Aside0.mk (blk_below (g:=gb142) (o:=.cells #[.slice A0_0 l0_0.length c0_0] 64 (0,0)) bk_ hb);have n2_:=Aside0.mk (blk_below (g:=gb143) (o:=.cells #[.int .i64 a1_0,.int .i64 a1_1,.int .i64 a1_2,.int .i64 a1_3,.int .i64 a1_4,.slice A1_5 l1_5.length c1_5,.slice A1_6 l1_6.length c1_6,.slice A1_7 l1_7.length c1_7] 49 (0,0)) bk_ hb);have n3_:=Aside0.mk (below_step bl_ hb);clear HO154;clear BK142;clear BK143;clear HB;have HO154:=n0_;have BK142:=n1_;have BK143:=n2_;have HB:=n3_;clear n0_ n1_ n2_ n3_;(try clear hb);(try clear hb2);(try clear hk);(try clear hi);obtain ⟨hcz78_0,hcz78_1,hcz78_2,hcz78_3,hcz78_4,hcz78_5,hcz78_6,hcz78_7⟩:=blc8_ BK143.out;have hfz78_0:=blk_frozen BK143.out 0;have hfz78_1:=blk_frozen BK143.out 1;have hfz78_2:=blk_frozen BK143.out 2;have hfz78_3:=blk_frozen BK143.out 3;have hfz78_4:=blk_frozen BK143.out 4;have hfz78_5:=blk_frozen BK143.out 5;have hfz78_6:=blk_frozen BK143.out 6;have hfz78_7:=blk_frozen BK143.out 7)|(go_at_call 44;(with_reducible refine (class_within.calls a1_3 64 true _ A51.out).mono ?_);rintro e w' ⟨rfl,⟨nd,rfl⟩⟩)|(go_at_call 44;(with_reducible refine (class_within.calls a1_4 64 true _ A53.out).mono ?_);rintro e w' ⟨rfl,⟨nd,rfl⟩⟩)|(go_at_call 44;(with_reducible refine (class_within.calls (wrap64 ((l1_5.length:Int) - 1)) 4095 true _ A55.out).mono ?_);rintro e w' ⟨rfl,⟨nd,rfl⟩⟩;have hcz79_0:w77.cell? ⟨gb142,0,none⟩=some (.slice A0_0 l0_0.length c0_0):=(blk_cell BK142.out 0).trans rfl;have hfz79_0:=blk_frozen BK142.out 0)|(go_at_call 13;(with_reducible refine (class_place.calls k1 _ _ l0_0 (⟨#[67,111,100,101]⟩:ByteArray) t159 _ ?side1 ?side2 A58.out).mono ?_);(case side1 => exact kc_ (Kd.C_below HR0_0.out bl_));(case side2 => exact HC0_0.out);rintro e w' ⟨rfl,⟨nd,rfl⟩⟩)|(go_at_call 13;(with_reducible refine (class_place.calls k1 _ _ l0_0 (⟨#[83,116,97,99,107,77,97,112,84,97,98,108,101]⟩:ByteArray) t160 _ ?side1 ?side2 A70.out).mono ?_);(case side1 => exact kc_ (Kd.C_below HR0_0.out bl_));(case side2 => exact HC0_0.out);rintro e w' ⟨rfl,⟨nd,rfl⟩⟩))
            go_ret
            exact ⟨ew_,bl_⟩
          ·rw [if_neg c59] at H
           have c59b0:decide (0 < t159)=false:=decide_eq_false c59
           clear c59
           obtain rfl:=Option.some.inj H
           have hnb80:=NB143_142.out
           have hnc80:=NB142_143.out
           obtain ⟨hcz81_0,hcz81_1,hcz81_2,hcz81_3,hcz81_4,hcz81_5,hcz81_6,hcz81_7,hfz81_0,hfz81_1,hfz81_2,hfz81_3,hfz81_4,hfz81_5,hfz81_6,hfz81_7⟩:=blk8_ BK143.out
           go_wp2_with (first|((with_reducible refine gate_callee (f:=26) rfl ?_);refine goesL_ (some 58) rfl rfl Tryd.func26 (by kernel_rfl) rfl #[.int .i64 a1_0] rfl (by (try simp only [List.map_toArray,List.map_cons,List.map_nil]);first|done|rfl|(simp only [List.length_drop,List.length_take];rfl)) ?_;(with_reducible refine (class_flags.calls a1_0 true _ A47.out).mono ?_);rintro e w' ⟨rfl,⟨nd,rfl⟩⟩;refine ⟨_,rfl,?_⟩;have hcz82_0:wr.cell? ⟨gb142,0,none⟩=some (.slice A0_0 l0_0.length c0_0):=(blk_cell BK142.out 0).trans rfl;have hfz82_0:=blk_frozen BK142.out 0)|((with_reducible refine gate_dst (N:=65) rfl ?_);(try (refine gate_guard (by rfl) ?_;dsimp only));refine Kd.R_lit (Kd.int .i64) _ 3 ?hg (N:=65) ?hd (xs:=([a1_1,a1_2]:List Int)) (inner:=[.int .i64 a1_1,.int .i64 a1_2]) (ok:=fun _ => True) (okp:=fun _ => True) ?hr ?hp (fun _ hk => hk) trivial (Below.refl _ _) (Nat.le_refl _) (by simp) ?_;(case hd => rfl);(case hg => rfl);(case hr => first|(go_simp;done)|(go_simp;rfl));(case hp => exact (Reps.one (show Kd.M (Kd.int .i64) _ _ _ a1_1 [.int .i64 a1_1] from rfl) (Reps.one (show Kd.M (Kd.int .i64) _ _ _ a1_2 [.int .i64 a1_2] from rfl) (Reps.none _ _))));intro v153 w83 ho84 hb hg_ hnew_;clear hg_ hnew_;(first|rw [← Ny152.out] at ho84|(simp only [Int.reduceToNat] at ho84;rw [← Ny152.out] at ho84));have n0_:=Aside0.mk (Kd.R_lower ho84 (below_size bl_));have n1_:=Aside0.mk (blk_below (g:=gb142) (o:=.cells #[.slice A0_0 l0_0.length c0_0] 64 (0,0)) bk_ hb);have n2_:=Aside0.mk (blk_below (g:=gb143) (o:=.cells #[.int .i64 a1_0,.int .i64 a1_1,.int .i64 a1_2,.int .i64 a1_3,.int .i64 a1_4,.slice A1_5 l1_5.length c1_5,.slice A1_6 l1_6.length c1_6,.slice A1_7 l1_7.length c1_7] 49 (0,0)) bk_ hb);have n3_:=Aside0.mk (below_step bl_ hb);clear BK142;clear BK143;clear HB;have HO154:=n0_;have BK142:=n1_;have BK143:=n2_;have HB:=n3_;clear n0_ n1_ n2_ n3_;clear hb ho84;obtain ⟨Ao85,co85,eo85⟩:=Kd.R_slice HO154.out;subst eo85)|(go_at_call 27;(with_reducible refine (class_rules_text.calls k1 _ _ l0_0 _ _ y152 true _ ?side1 ?side2 ?side3 ?side4 A49.out).mono ?_);(case side1 => exact kc_ (Kd.C_below HR0_0.out HB.out));(case side2 => exact HC0_0.out);(case side3 => exact kc_ (Kd.R_reads' HO154.out).2.2);(case side4 => exact (Kd.R_reads' HO154.out).2.1);rintro e w86 ⟨rfl,hb⟩;have n0_:=Aside0.mk (Kd.R_below (kr_ HO154.out) hb);have n1_:=Aside0.mk (blk_below (g:=gb142) (o:=.cells #[.slice A0_0 l0_0.length c0_0] 64 (0,0)) bk_ hb);have n2_:=Aside0.mk (blk_below (g:=gb143) (o:=.cells #[.int .i64 a1_0,.int .i64 a1_1,.int .i64 a1_2,.int .i64 a1_3,.int .i64 a1_4,.slice A1_5 l1_5.length c1_5,.slice A1_6 l1_6.length c1_6,.slice A1_7 l1_7.length c1_7] 49 (0,0)) bk_ hb);have n3_:=Aside0.mk (below_step bl_ hb);clear HO154;clear BK142;clear BK143;clear HB;have HO154:=n0_;have BK142:=n1_;have BK143:=n2_;have HB:=n3_;clear n0_ n1_ n2_ n3_;(try clear hb);(try clear hb2);(try clear hk);(try clear hi);obtain ⟨hcz87_0,hcz87_1,hcz87_2,hcz87_3,hcz87_4,hcz87_5,hcz87_6,hcz87_7⟩:=blc8_ BK143.out;have hfz87_0:=blk_frozen BK143.out 0;have hfz87_1:=blk_frozen BK143.out 1;have hfz87_2:=blk_frozen BK143.out 2;have hfz87_3:=blk_frozen BK143.out 3;have hfz87_4:=blk_frozen BK143.out 4;have hfz87_5:=blk_frozen BK143.out 5;have hfz87_6:=blk_frozen BK143.out 6;have hfz87_7:=blk_frozen BK143.out 7)|(go_at_call 44;(with_reducible refine (class_within.calls a1_3 64 true _ A51.out).mono ?_);rintro e w' ⟨rfl,⟨nd,rfl⟩⟩)|(go_at_call 44;(with_reducible refine (class_within.calls a1_4 64 true _ A53.out).mono ?_);rintro e w' ⟨rfl,⟨nd,rfl⟩⟩)|(go_at_call 44;(with_reducible refine (class_within.calls (wrap64 ((l1_5.length:Int) - 1)) 4095 true _ A55.out).mono ?_);rintro e w' ⟨rfl,⟨nd,rfl⟩⟩;have hcz88_0:w86.cell? ⟨gb142,0,none⟩=some (.slice A0_0 l0_0.length c0_0):=(blk_cell BK142.out 0).trans rfl;have hfz88_0:=blk_frozen BK142.out 0)|(go_at_call 13;(with_reducible refine (class_place.calls k1 _ _ l0_0 (⟨#[67,111,100,101]⟩:ByteArray) t159 _ ?side1 ?side2 A58.out).mono ?_);(case side1 => exact kc_ (Kd.C_below HR0_0.out bl_));(case side2 => exact HC0_0.out);rintro e w' ⟨rfl,⟨nd,rfl⟩⟩))
           go_ret
           exact ⟨ew_,bl_⟩
         ·rw [if_neg c57] at H
          have c57b0:decide ((l1_7.length:Int)≤4096)=false:=decide_eq_false c57
          have c57b1:decide (l1_7.length≤4096)=false:=decide_eq_false (by omega)
          clear c57
          obtain rfl:=Option.some.inj H
          have hnb89:=NB143_142.out
          have hnc89:=NB142_143.out
          obtain ⟨hcz90_0,hcz90_1,hcz90_2,hcz90_3,hcz90_4,hcz90_5,hcz90_6,hcz90_7,hfz90_0,hfz90_1,hfz90_2,hfz90_3,hfz90_4,hfz90_5,hfz90_6,hfz90_7⟩:=blk8_ BK143.out
          go_wp2_with (first|((with_reducible refine gate_callee (f:=26) rfl ?_);refine goesL_ (some 58) rfl rfl Tryd.func26 (by kernel_rfl) rfl #[.int .i64 a1_0] rfl (by (try simp only [List.map_toArray,List.map_cons,List.map_nil]);first|done|rfl|(simp only [List.length_drop,List.length_take];rfl)) ?_;(with_reducible refine (class_flags.calls a1_0 true _ A47.out).mono ?_);rintro e w' ⟨rfl,⟨nd,rfl⟩⟩;refine ⟨_,rfl,?_⟩;have hcz91_0:wr.cell? ⟨gb142,0,none⟩=some (.slice A0_0 l0_0.length c0_0):=(blk_cell BK142.out 0).trans rfl;have hfz91_0:=blk_frozen BK142.out 0)|((with_reducible refine gate_dst (N:=65) rfl ?_);(try (refine gate_guard (by rfl) ?_;dsimp only));refine Kd.R_lit (Kd.int .i64) _ 3 ?hg (N:=65) ?hd (xs:=([a1_1,a1_2]:List Int)) (inner:=[.int .i64 a1_1,.int .i64 a1_2]) (ok:=fun _ => True) (okp:=fun _ => True) ?hr ?hp (fun _ hk => hk) trivial (Below.refl _ _) (Nat.le_refl _) (by simp) ?_;(case hd => rfl);(case hg => rfl);(case hr => first|(go_simp;done)|(go_simp;rfl));(case hp => exact (Reps.one (show Kd.M (Kd.int .i64) _ _ _ a1_1 [.int .i64 a1_1] from rfl) (Reps.one (show Kd.M (Kd.int .i64) _ _ _ a1_2 [.int .i64 a1_2] from rfl) (Reps.none _ _))));intro v153 w92 ho93 hb hg_ hnew_;clear hg_ hnew_;(first|rw [← Ny152.out] at ho93|(simp only [Int.reduceToNat] at ho93;rw [← Ny152.out] at ho93));have n0_:=Aside0.mk (Kd.R_lower ho93 (below_size bl_));have n1_:=Aside0.mk (blk_below (g:=gb142) (o:=.cells #[.slice A0_0 l0_0.length c0_0] 64 (0,0)) bk_ hb);have n2_:=Aside0.mk (blk_below (g:=gb143) (o:=.cells #[.int .i64 a1_0,.int .i64 a1_1,.int .i64 a1_2,.int .i64 a1_3,.int .i64 a1_4,.slice A1_5 l1_5.length c1_5,.slice A1_6 l1_6.length c1_6,.slice A1_7 l1_7.length c1_7] 49 (0,0)) bk_ hb);have n3_:=Aside0.mk (below_step bl_ hb);clear BK142;clear BK143;clear HB;have HO154:=n0_;have BK142:=n1_;have BK143:=n2_;have HB:=n3_;clear n0_ n1_ n2_ n3_;clear hb ho93;obtain ⟨Ao94,co94,eo94⟩:=Kd.R_slice HO154.out;subst eo94)|(go_at_call 27;(with_reducible refine (class_rules_text.calls k1 _ _ l0_0 _ _ y152 true _ ?side1 ?side2 ?side3 ?side4 A49.out).mono ?_);(case side1 => exact kc_ (Kd.C_below HR0_0.out HB.out));(case side2 => exact HC0_0.out);(case side3 => exact kc_ (Kd.R_reads' HO154.out).2.2);(case side4 => exact (Kd.R_reads' HO154.out).2.1);rintro e w95 ⟨rfl,hb⟩;have n0_:=Aside0.mk (Kd.R_below (kr_ HO154.out) hb);have n1_:=Aside0.mk (blk_below (g:=gb142) (o:=.cells #[.slice A0_0 l0_0.length c0_0] 64 (0,0)) bk_ hb);have n2_:=Aside0.mk (blk_below (g:=gb143) (o:=.cells #[.int .i64 a1_0,.int .i64 a1_1,.int .i64 a1_2,.int .i64 a1_3,.int .i64 a1_4,.slice A1_5 l1_5.length c1_5,.slice A1_6 l1_6.length c1_6,.slice A1_7 l1_7.length c1_7] 49 (0,0)) bk_ hb);have n3_:=Aside0.mk (below_step bl_ hb);clear HO154;clear BK142;clear BK143;clear HB;have HO154:=n0_;have BK142:=n1_;have BK143:=n2_;have HB:=n3_;clear n0_ n1_ n2_ n3_;(try clear hb);(try clear hb2);(try clear hk);(try clear hi);obtain ⟨hcz96_0,hcz96_1,hcz96_2,hcz96_3,hcz96_4,hcz96_5,hcz96_6,hcz96_7⟩:=blc8_ BK143.out;have hfz96_0:=blk_frozen BK143.out 0;have hfz96_1:=blk_frozen BK143.out 1;have hfz96_2:=blk_frozen BK143.out 2;have hfz96_3:=blk_frozen BK143.out 3;have hfz96_4:=blk_frozen BK143.out 4;have hfz96_5:=blk_frozen BK143.out 5;have hfz96_6:=blk_frozen BK143.out 6;have hfz96_7:=blk_frozen BK143.out 7)|(go_at_call 44;(with_reducible refine (class_within.calls a1_3 64 true _ A51.out).mono ?_);rintro e w' ⟨rfl,⟨nd,rfl⟩⟩)|(go_at_call 44;(with_reducible refine (class_within.calls a1_4 64 true _ A53.out).mono ?_);rintro e w' ⟨rfl,⟨nd,rfl⟩⟩)|(go_at_call 44;(with_reducible refine (class_within.calls (wrap64 ((l1_5.length:Int) - 1)) 4095 true _ A55.out).mono ?_);rintro e w' ⟨rfl,⟨nd,rfl⟩⟩))
          go_ret
          exact ⟨ew_,bl_⟩
        ·replace c56:=Bool.eq_false_iff.mpr c56
         subst c56
         rw [if_neg (show ¬ (false=true) by decide)] at H
         obtain rfl:=Option.some.inj H
         have hnb97:=NB143_142.out
         have hnc97:=NB142_143.out
         obtain ⟨hcz98_0,hcz98_1,hcz98_2,hcz98_3,hcz98_4,hcz98_5,hcz98_6,hcz98_7,hfz98_0,hfz98_1,hfz98_2,hfz98_3,hfz98_4,hfz98_5,hfz98_6,hfz98_7⟩:=blk8_ BK143.out
         go_wp2_with (first|((with_reducible refine gate_callee (f:=26) rfl ?_);refine goesL_ (some 58) rfl rfl Tryd.func26 (by kernel_rfl) rfl #[.int .i64 a1_0] rfl (by (try simp only [List.map_toArray,List.map_cons,List.map_nil]);first|done|rfl|(simp only [List.length_drop,List.length_take];rfl)) ?_;(with_reducible refine (class_flags.calls a1_0 true _ A47.out).mono ?_);rintro e w' ⟨rfl,⟨nd,rfl⟩⟩;refine ⟨_,rfl,?_⟩;have hcz99_0:wr.cell? ⟨gb142,0,none⟩=some (.slice A0_0 l0_0.length c0_0):=(blk_cell BK142.out 0).trans rfl;have hfz99_0:=blk_frozen BK142.out 0)|((with_reducible refine gate_dst (N:=65) rfl ?_);(try (refine gate_guard (by rfl) ?_;dsimp only));refine Kd.R_lit (Kd.int .i64) _ 3 ?hg (N:=65) ?hd (xs:=([a1_1,a1_2]:List Int)) (inner:=[.int .i64 a1_1,.int .i64 a1_2]) (ok:=fun _ => True) (okp:=fun _ => True) ?hr ?hp (fun _ hk => hk) trivial (Below.refl _ _) (Nat.le_refl _) (by simp) ?_;(case hd => rfl);(case hg => rfl);(case hr => first|(go_simp;done)|(go_simp;rfl));(case hp => exact (Reps.one (show Kd.M (Kd.int .i64) _ _ _ a1_1 [.int .i64 a1_1] from rfl) (Reps.one (show Kd.M (Kd.int .i64) _ _ _ a1_2 [.int .i64 a1_2] from rfl) (Reps.none _ _))));intro v153 w100 ho101 hb hg_ hnew_;clear hg_ hnew_;(first|rw [← Ny152.out] at ho101|(simp only [Int.reduceToNat] at ho101;rw [← Ny152.out] at ho101));have n0_:=Aside0.mk (Kd.R_lower ho101 (below_size bl_));have n1_:=Aside0.mk (blk_below (g:=gb142) (o:=.cells #[.slice A0_0 l0_0.length c0_0] 64 (0,0)) bk_ hb);have n2_:=Aside0.mk (blk_below (g:=gb143) (o:=.cells #[.int .i64 a1_0,.int .i64 a1_1,.int .i64 a1_2,.int .i64 a1_3,.int .i64 a1_4,.slice A1_5 l1_5.length c1_5,.slice A1_6 l1_6.length c1_6,.slice A1_7 l1_7.length c1_7] 49 (0,0)) bk_ hb);have n3_:=Aside0.mk (below_step bl_ hb);clear BK142;clear BK143;clear HB;have HO154:=n0_;have BK142:=n1_;have BK143:=n2_;have HB:=n3_;clear n0_ n1_ n2_ n3_;clear hb ho101;obtain ⟨Ao102,co102,eo102⟩:=Kd.R_slice HO154.out;subst eo102)|(go_at_call 27;(with_reducible refine (class_rules_text.calls k1 _ _ l0_0 _ _ y152 true _ ?side1 ?side2 ?side3 ?side4 A49.out).mono ?_);(case side1 => exact kc_ (Kd.C_below HR0_0.out HB.out));(case side2 => exact HC0_0.out);(case side3 => exact kc_ (Kd.R_reads' HO154.out).2.2);(case side4 => exact (Kd.R_reads' HO154.out).2.1);rintro e w103 ⟨rfl,hb⟩;have n0_:=Aside0.mk (Kd.R_below (kr_ HO154.out) hb);have n1_:=Aside0.mk (blk_below (g:=gb142) (o:=.cells #[.slice A0_0 l0_0.length c0_0] 64 (0,0)) bk_ hb);have n2_:=Aside0.mk (blk_below (g:=gb143) (o:=.cells #[.int .i64 a1_0,.int .i64 a1_1,.int .i64 a1_2,.int .i64 a1_3,.int .i64 a1_4,.slice A1_5 l1_5.length c1_5,.slice A1_6 l1_6.length c1_6,.slice A1_7 l1_7.length c1_7] 49 (0,0)) bk_ hb);have n3_:=Aside0.mk (below_step bl_ hb);clear HO154;clear BK142;clear BK143;clear HB;have HO154:=n0_;have BK142:=n1_;have BK143:=n2_;have HB:=n3_;clear n0_ n1_ n2_ n3_;(try clear hb);(try clear hb2);(try clear hk);(try clear hi);obtain ⟨hcz104_0,hcz104_1,hcz104_2,hcz104_3,hcz104_4,hcz104_5,hcz104_6,hcz104_7⟩:=blc8_ BK143.out;have hfz104_0:=blk_frozen BK143.out 0;have hfz104_1:=blk_frozen BK143.out 1;have hfz104_2:=blk_frozen BK143.out 2;have hfz104_3:=blk_frozen BK143.out 3;have hfz104_4:=blk_frozen BK143.out 4;have hfz104_5:=blk_frozen BK143.out 5;have hfz104_6:=blk_frozen BK143.out 6;have hfz104_7:=blk_frozen BK143.out 7)|(go_at_call 44;(with_reducible refine (class_within.calls a1_3 64 true _ A51.out).mono ?_);rintro e w' ⟨rfl,⟨nd,rfl⟩⟩)|(go_at_call 44;(with_reducible refine (class_within.calls a1_4 64 true _ A53.out).mono ?_);rintro e w' ⟨rfl,⟨nd,rfl⟩⟩)|(go_at_call 44;(with_reducible refine (class_within.calls (wrap64 ((l1_5.length:Int) - 1)) 4095 false _ A55.out).mono ?_);rintro e w' ⟨rfl,⟨nd,rfl⟩⟩))
         go_ret
         exact ⟨ew_,bl_⟩
       ·replace c54:=Bool.eq_false_iff.mpr c54
        subst c54
        rw [if_neg (show ¬ (false=true) by decide)] at H
        obtain rfl:=Option.some.inj H
        have hnb105:=NB143_142.out
        have hnc105:=NB142_143.out
        obtain ⟨hcz106_0,hcz106_1,hcz106_2,hcz106_3,hcz106_4,hcz106_5,hcz106_6,hcz106_7,hfz106_0,hfz106_1,hfz106_2,hfz106_3,hfz106_4,hfz106_5,hfz106_6,hfz106_7⟩:=blk8_ BK143.out
        go_wp2_with (first|((with_reducible refine gate_callee (f:=26) rfl ?_);refine goesL_ (some 58) rfl rfl Tryd.func26 (by kernel_rfl) rfl #[.int .i64 a1_0] rfl (by (try simp only [List.map_toArray,List.map_cons,List.map_nil]);first|done|rfl|(simp only [List.length_drop,List.length_take];rfl)) ?_;(with_reducible refine (class_flags.calls a1_0 true _ A47.out).mono ?_);rintro e w' ⟨rfl,⟨nd,rfl⟩⟩;refine ⟨_,rfl,?_⟩;have hcz107_0:wr.cell? ⟨gb142,0,none⟩=some (.slice A0_0 l0_0.length c0_0):=(blk_cell BK142.out 0).trans rfl;have hfz107_0:=blk_frozen BK142.out 0)|((with_reducible refine gate_dst (N:=65) rfl ?_);(try (refine gate_guard (by rfl) ?_;dsimp only));refine Kd.R_lit (Kd.int .i64) _ 3 ?hg (N:=65) ?hd (xs:=([a1_1,a1_2]:List Int)) (inner:=[.int .i64 a1_1,.int .i64 a1_2]) (ok:=fun _ => True) (okp:=fun _ => True) ?hr ?hp (fun _ hk => hk) trivial (Below.refl _ _) (Nat.le_refl _) (by simp) ?_;(case hd => rfl);(case hg => rfl);(case hr => first|(go_simp;done)|(go_simp;rfl));(case hp => exact (Reps.one (show Kd.M (Kd.int .i64) _ _ _ a1_1 [.int .i64 a1_1] from rfl) (Reps.one (show Kd.M (Kd.int .i64) _ _ _ a1_2 [.int .i64 a1_2] from rfl) (Reps.none _ _))));intro v153 w108 ho109 hb hg_ hnew_;clear hg_ hnew_;(first|rw [← Ny152.out] at ho109|(simp only [Int.reduceToNat] at ho109;rw [← Ny152.out] at ho109));have n0_:=Aside0.mk (Kd.R_lower ho109 (below_size bl_));have n1_:=Aside0.mk (blk_below (g:=gb142) (o:=.cells #[.slice A0_0 l0_0.length c0_0] 64 (0,0)) bk_ hb);have n2_:=Aside0.mk (blk_below (g:=gb143) (o:=.cells #[.int .i64 a1_0,.int .i64 a1_1,.int .i64 a1_2,.int .i64 a1_3,.int .i64 a1_4,.slice A1_5 l1_5.length c1_5,.slice A1_6 l1_6.length c1_6,.slice A1_7 l1_7.length c1_7] 49 (0,0)) bk_ hb);have n3_:=Aside0.mk (below_step bl_ hb);clear BK142;clear BK143;clear HB;have HO154:=n0_;have BK142:=n1_;have BK143:=n2_;have HB:=n3_;clear n0_ n1_ n2_ n3_;clear hb ho109;obtain ⟨Ao110,co110,eo110⟩:=Kd.R_slice HO154.out;subst eo110)|(go_at_call 27;(with_reducible refine (class_rules_text.calls k1 _ _ l0_0 _ _ y152 true _ ?side1 ?side2 ?side3 ?side4 A49.out).mono ?_);(case side1 => exact kc_ (Kd.C_below HR0_0.out HB.out));(case side2 => exact HC0_0.out);(case side3 => exact kc_ (Kd.R_reads' HO154.out).2.2);(case side4 => exact (Kd.R_reads' HO154.out).2.1);rintro e w111 ⟨rfl,hb⟩;have n0_:=Aside0.mk (Kd.R_below (kr_ HO154.out) hb);have n1_:=Aside0.mk (blk_below (g:=gb142) (o:=.cells #[.slice A0_0 l0_0.length c0_0] 64 (0,0)) bk_ hb);have n2_:=Aside0.mk (blk_below (g:=gb143) (o:=.cells #[.int .i64 a1_0,.int .i64 a1_1,.int .i64 a1_2,.int .i64 a1_3,.int .i64 a1_4,.slice A1_5 l1_5.length c1_5,.slice A1_6 l1_6.length c1_6,.slice A1_7 l1_7.length c1_7] 49 (0,0)) bk_ hb);have n3_:=Aside0.mk (below_step bl_ hb);clear HO154;clear BK142;clear BK143;clear HB;have HO154:=n0_;have BK142:=n1_;have BK143:=n2_;have HB:=n3_;clear n0_ n1_ n2_ n3_;(try clear hb);(try clear hb2);(try clear hk);(try clear hi);obtain ⟨hcz112_0,hcz112_1,hcz112_2,hcz112_3,hcz112_4,hcz112_5,hcz112_6,hcz112_7⟩:=blc8_ BK143.out;have hfz112_0:=blk_frozen BK143.out 0;have hfz112_1:=blk_frozen BK143.out 1;have hfz112_2:=blk_frozen BK143.out 2;have hfz112_3:=blk_frozen BK143.out 3;have hfz112_4:=blk_frozen BK143.out 4;have hfz112_5:=blk_frozen BK143.out 5;have hfz112_6:=blk_frozen BK143.out 6;have hfz112_7:=blk_frozen BK143.out 7)|(go_at_call 44;(with_reducible refine (class_within.calls a1_3 64 true _ A51.out).mono ?_);rintro e w' ⟨rfl,⟨nd,rfl⟩⟩)|(go_at_call 44;(with_reducible refine (class_within.calls a1_4 64 false _ A53.out).mono ?_);rintro e w' ⟨rfl,⟨nd,rfl⟩⟩))
        go_ret
        exact ⟨ew_,bl_⟩
      ·replace c52:=Bool.eq_false_iff.mpr c52
       subst c52
       rw [if_neg (show ¬ (false=true) by decide)] at H
       obtain rfl:=Option.some.inj H
       have hnb113:=NB143_142.out
       have hnc113:=NB142_143.out
       obtain ⟨hcz114_0,hcz114_1,hcz114_2,hcz114_3,hcz114_4,hcz114_5,hcz114_6,hcz114_7,hfz114_0,hfz114_1,hfz114_2,hfz114_3,hfz114_4,hfz114_5,hfz114_6,hfz114_7⟩:=blk8_ BK143.out
       go_wp2_with (first|((with_reducible refine gate_callee (f:=26) rfl ?_);refine goesL_ (some 58) rfl rfl Tryd.func26 (by kernel_rfl) rfl #[.int .i64 a1_0] rfl (by (try simp only [List.map_toArray,List.map_cons,List.map_nil]);first|done|rfl|(simp only [List.length_drop,List.length_take];rfl)) ?_;(with_reducible refine (class_flags.calls a1_0 true _ A47.out).mono ?_);rintro e w' ⟨rfl,⟨nd,rfl⟩⟩;refine ⟨_,rfl,?_⟩;have hcz115_0:wr.cell? ⟨gb142,0,none⟩=some (.slice A0_0 l0_0.length c0_0):=(blk_cell BK142.out 0).trans rfl;have hfz115_0:=blk_frozen BK142.out 0)|((with_reducible refine gate_dst (N:=65) rfl ?_);(try (refine gate_guard (by rfl) ?_;dsimp only));refine Kd.R_lit (Kd.int .i64) _ 3 ?hg (N:=65) ?hd (xs:=([a1_1,a1_2]:List Int)) (inner:=[.int .i64 a1_1,.int .i64 a1_2]) (ok:=fun _ => True) (okp:=fun _ => True) ?hr ?hp (fun _ hk => hk) trivial (Below.refl _ _) (Nat.le_refl _) (by simp) ?_;(case hd => rfl);(case hg => rfl);(case hr => first|(go_simp;done)|(go_simp;rfl));(case hp => exact (Reps.one (show Kd.M (Kd.int .i64) _ _ _ a1_1 [.int .i64 a1_1] from rfl) (Reps.one (show Kd.M (Kd.int .i64) _ _ _ a1_2 [.int .i64 a1_2] from rfl) (Reps.none _ _))));intro v153 w116 ho117 hb hg_ hnew_;clear hg_ hnew_;(first|rw [← Ny152.out] at ho117|(simp only [Int.reduceToNat] at ho117;rw [← Ny152.out] at ho117));have n0_:=Aside0.mk (Kd.R_lower ho117 (below_size bl_));have n1_:=Aside0.mk (blk_below (g:=gb142) (o:=.cells #[.slice A0_0 l0_0.length c0_0] 64 (0,0)) bk_ hb);have n2_:=Aside0.mk (blk_below (g:=gb143) (o:=.cells #[.int .i64 a1_0,.int .i64 a1_1,.int .i64 a1_2,.int .i64 a1_3,.int .i64 a1_4,.slice A1_5 l1_5.length c1_5,.slice A1_6 l1_6.length c1_6,.slice A1_7 l1_7.length c1_7] 49 (0,0)) bk_ hb);have n3_:=Aside0.mk (below_step bl_ hb);clear BK142;clear BK143;clear HB;have HO154:=n0_;have BK142:=n1_;have BK143:=n2_;have HB:=n3_;clear n0_ n1_ n2_ n3_;clear hb ho117;obtain ⟨Ao118,co118,eo118⟩:=Kd.R_slice HO154.out;subst eo118)|(go_at_call 27;(with_reducible refine (class_rules_text.calls k1 _ _ l0_0 _ _ y152 true _ ?side1 ?side2 ?side3 ?side4 A49.out).mono ?_);(case side1 => exact kc_ (Kd.C_below HR0_0.out HB.out));(case side2 => exact HC0_0.out);(case side3 => exact kc_ (Kd.R_reads' HO154.out).2.2);(case side4 => exact (Kd.R_reads' HO154.out).2.1);rintro e w119 ⟨rfl,hb⟩;have n0_:=Aside0.mk (Kd.R_below (kr_ HO154.out) hb);have n1_:=Aside0.mk (blk_below (g:=gb142) (o:=.cells #[.slice A0_0 l0_0.length c0_0] 64 (0,0)) bk_ hb);have n2_:=Aside0.mk (blk_below (g:=gb143) (o:=.cells #[.int .i64 a1_0,.int .i64 a1_1,.int .i64 a1_2,.int .i64 a1_3,.int .i64 a1_4,.slice A1_5 l1_5.length c1_5,.slice A1_6 l1_6.length c1_6,.slice A1_7 l1_7.length c1_7] 49 (0,0)) bk_ hb);have n3_:=Aside0.mk (below_step bl_ hb);clear HO154;clear BK142;clear BK143;clear HB;have HO154:=n0_;have BK142:=n1_;have BK143:=n2_;have HB:=n3_;clear n0_ n1_ n2_ n3_;(try clear hb);(try clear hb2);(try clear hk);(try clear hi);obtain ⟨hcz120_0,hcz120_1,hcz120_2,hcz120_3,hcz120_4,hcz120_5,hcz120_6,hcz120_7⟩:=blc8_ BK143.out;have hfz120_0:=blk_frozen BK143.out 0;have hfz120_1:=blk_frozen BK143.out 1;have hfz120_2:=blk_frozen BK143.out 2;have hfz120_3:=blk_frozen BK143.out 3;have hfz120_4:=blk_frozen BK143.out 4;have hfz120_5:=blk_frozen BK143.out 5;have hfz120_6:=blk_frozen BK143.out 6;have hfz120_7:=blk_frozen BK143.out 7)|(go_at_call 44;(with_reducible refine (class_within.calls a1_3 64 false _ A51.out).mono ?_);rintro e w' ⟨rfl,⟨nd,rfl⟩⟩))
       go_ret
       exact ⟨ew_,bl_⟩
     ·replace c50:=Bool.eq_false_iff.mpr c50
      subst c50
      rw [if_neg (show ¬ (false=true) by decide)] at H
      obtain rfl:=Option.some.inj H
      have hnb121:=NB143_142.out
      have hnc121:=NB142_143.out
      obtain ⟨hcz122_0,hcz122_1,hcz122_2,hcz122_3,hcz122_4,hcz122_5,hcz122_6,hcz122_7,hfz122_0,hfz122_1,hfz122_2,hfz122_3,hfz122_4,hfz122_5,hfz122_6,hfz122_7⟩:=blk8_ BK143.out
      go_wp2_with (first|((with_reducible refine gate_callee (f:=26) rfl ?_);refine goesL_ (some 58) rfl rfl Tryd.func26 (by kernel_rfl) rfl #[.int .i64 a1_0] rfl (by (try simp only [List.map_toArray,List.map_cons,List.map_nil]);first|done|rfl|(simp only [List.length_drop,List.length_take];rfl)) ?_;(with_reducible refine (class_flags.calls a1_0 true _ A47.out).mono ?_);rintro e w' ⟨rfl,⟨nd,rfl⟩⟩;refine ⟨_,rfl,?_⟩;have hcz123_0:wr.cell? ⟨gb142,0,none⟩=some (.slice A0_0 l0_0.length c0_0):=(blk_cell BK142.out 0).trans rfl;have hfz123_0:=blk_frozen BK142.out 0)|((with_reducible refine gate_dst (N:=65) rfl ?_);(try (refine gate_guard (by rfl) ?_;dsimp only));refine Kd.R_lit (Kd.int .i64) _ 3 ?hg (N:=65) ?hd (xs:=([a1_1,a1_2]:List Int)) (inner:=[.int .i64 a1_1,.int .i64 a1_2]) (ok:=fun _ => True) (okp:=fun _ => True) ?hr ?hp (fun _ hk => hk) trivial (Below.refl _ _) (Nat.le_refl _) (by simp) ?_;(case hd => rfl);(case hg => rfl);(case hr => first|(go_simp;done)|(go_simp;rfl));(case hp => exact (Reps.one (show Kd.M (Kd.int .i64) _ _ _ a1_1 [.int .i64 a1_1] from rfl) (Reps.one (show Kd.M (Kd.int .i64) _ _ _ a1_2 [.int .i64 a1_2] from rfl) (Reps.none _ _))));intro v153 w124 ho125 hb hg_ hnew_;clear hg_ hnew_;(first|rw [← Ny152.out] at ho125|(simp only [Int.reduceToNat] at ho125;rw [← Ny152.out] at ho125));have n0_:=Aside0.mk (Kd.R_lower ho125 (below_size bl_));have n1_:=Aside0.mk (blk_below (g:=gb142) (o:=.cells #[.slice A0_0 l0_0.length c0_0] 64 (0,0)) bk_ hb);have n2_:=Aside0.mk (blk_below (g:=gb143) (o:=.cells #[.int .i64 a1_0,.int .i64 a1_1,.int .i64 a1_2,.int .i64 a1_3,.int .i64 a1_4,.slice A1_5 l1_5.length c1_5,.slice A1_6 l1_6.length c1_6,.slice A1_7 l1_7.length c1_7] 49 (0,0)) bk_ hb);have n3_:=Aside0.mk (below_step bl_ hb);clear BK142;clear BK143;clear HB;have HO154:=n0_;have BK142:=n1_;have BK143:=n2_;have HB:=n3_;clear n0_ n1_ n2_ n3_;clear hb ho125;obtain ⟨Ao126,co126,eo126⟩:=Kd.R_slice HO154.out;subst eo126)|(go_at_call 27;(with_reducible refine (class_rules_text.calls k1 _ _ l0_0 _ _ y152 false _ ?side1 ?side2 ?side3 ?side4 A49.out).mono ?_);(case side1 => exact kc_ (Kd.C_below HR0_0.out HB.out));(case side2 => exact HC0_0.out);(case side3 => exact kc_ (Kd.R_reads' HO154.out).2.2);(case side4 => exact (Kd.R_reads' HO154.out).2.1);rintro e w127 ⟨rfl,hb⟩;have n0_:=Aside0.mk (Kd.R_below (kr_ HO154.out) hb);have n1_:=Aside0.mk (blk_below (g:=gb142) (o:=.cells #[.slice A0_0 l0_0.length c0_0] 64 (0,0)) bk_ hb);have n2_:=Aside0.mk (blk_below (g:=gb143) (o:=.cells #[.int .i64 a1_0,.int .i64 a1_1,.int .i64 a1_2,.int .i64 a1_3,.int .i64 a1_4,.slice A1_5 l1_5.length c1_5,.slice A1_6 l1_6.length c1_6,.slice A1_7 l1_7.length c1_7] 49 (0,0)) bk_ hb);have n3_:=Aside0.mk (below_step bl_ hb);clear HO154;clear BK142;clear BK143;clear HB;have HO154:=n0_;have BK142:=n1_;have BK143:=n2_;have HB:=n3_;clear n0_ n1_ n2_ n3_;(try clear hb);(try clear hb2);(try clear hk);(try clear hi)))
      go_ret
      exact ⟨ew_,bl_⟩
    ·replace c48:=Bool.eq_false_iff.mpr c48
     subst c48
     rw [if_neg (show ¬ (false=true) by decide)] at H
     obtain rfl:=Option.some.inj H
     have hnb128:=NB143_142.out
     have hnc128:=NB142_143.out
     obtain ⟨hcz129_0,hcz129_1,hcz129_2,hcz129_3,hcz129_4,hcz129_5,hcz129_6,hcz129_7,hfz129_0,hfz129_1,hfz129_2,hfz129_3,hfz129_4,hfz129_5,hfz129_6,hfz129_7⟩:=blk8_ BK143.out
     go_wp2_with (first|((with_reducible refine gate_callee (f:=26) rfl ?_);refine goesL_ (some 58) rfl rfl Tryd.func26 (by kernel_rfl) rfl #[.int .i64 a1_0] rfl (by (try simp only [List.map_toArray,List.map_cons,List.map_nil]);first|done|rfl|(simp only [List.length_drop,List.length_take];rfl)) ?_;(with_reducible refine (class_flags.calls a1_0 false _ A47.out).mono ?_);rintro e w' ⟨rfl,⟨nd,rfl⟩⟩;refine ⟨_,rfl,?_⟩))
     go_ret
     exact ⟨ew_,bl_⟩
end Go.Proofs.YtmloaijagkebpaaDoor.Px
namespace Go.Proofs.YtmloaijagkebpaaDoor.Px
open Go.RowKit Go.Extern.Stop Go.Stop Go.Extern
set_option linter.unusedVariables false
set_option linter.unusedSimpArgs false
theorem as_nil (t:Value) (w:World) :
  Calls Tryd.prog 42 #[.nilIface,t] w fun e w' => e=.returned (.bool false)∧w'=w:=by
 go_enter Tryd.func42,Tryd.ntmps42
 go_wp2
 go_ret
 exact ⟨rfl,rfl⟩
theorem as_valueOf27 (t:Addr) (w:World):(ReflectliteValue.unpack (.iface 90 (.pointer (some t)))).run Tryd.prog w
  = .ok (.agg #[.pointer (some ⟨3,90,none⟩),.pointer (some ⟨w.heap.size,0,none⟩),.int .u64 150]) (w.alloc (.cells #[.pointer (some t)] 90)):=by kernel_rfl
theorem as_type27 (a : Addr) (w : World) : (ReflectliteValue.methodAny (ReflectliteValue.valueError "reflectlite.Value.Type" 0) (fun t _ _ _ => ReflectliteType.toType t) #[.agg #[.pointer (some ⟨3, 90, none⟩), .pointer (some a), .int .u64 150]]).run Tryd.prog w
  = .ok (.iface 124 (.agg #[.pointer (some ⟨3,90,none⟩)])) w:=by kernel_rfl
theorem as_methodKind (h : Value) (w : World) : (Go.method 267 124 (.agg #[h]) "Kind").run Tryd.prog w = .ok (81, h) w := by kernel_rfl
theorem as_kind27 (w:World):((ReflectliteType.abiMethod fun t => (fun a:Nat => Value.int IntKind.u8 (a:Int)) <$> Rtype.kind t) #[.pointer (some ⟨3,90,none⟩)]).run Tryd.prog w=.ok (.int .u8 22) w:=by kernel_rfl
theorem as_kind25 (w:World):((ReflectliteType.abiMethod fun t => (fun a:Nat => Value.int IntKind.u8 (a:Int)) <$> Rtype.kind t) #[.pointer (some ⟨3,85,none⟩)]).run Tryd.prog w=.ok (.int .u8 22) w:=by kernel_rfl
theorem rlm (z:Sem Value) (f:TypeId→Addr→Nat→Nat→Sem Value) (v:Value) :
  ReflectliteValue.method z f #[v]=(do match ← ReflectliteValue.parts v with|none => z|some (t,a,fl) => f t a fl (fl % 32)):=rfl
theorem as_parts27 (a:Addr) (w:World):(ReflectliteValue.parts (.agg #[.pointer (some ⟨3,90,none⟩),.pointer (some a),.int .u64 150])).run Tryd.prog w=.ok (some (90,a,150)) w:=by kernel_rfl
theorem as_isNil27 (a p:Addr) (W:World) (ha:W.cell? a=some (.pointer (some p))) :
  (ReflectliteValue.method (ReflectliteValue.valueError "reflectlite.Value.IsNil" 0) ReflectliteValue.isNil #[.agg #[.pointer (some ⟨3, 90, none⟩), .pointer (some a), .int .u64 150]]).run Tryd.prog W = .ok (.bool false) W := by
 rw [rlm]
 simp only [Sem.run_bind,as_parts27,Result.andThen]
 simp [ReflectliteValue.isNil,loadVar,isAgg,underlying,Tryd.underlying90,ha,Result.andThen]
theorem as_methodElem (h : Value) (w : World) : (Go.method 267 124 (.agg #[h]) "Elem").run Tryd.prog w = .ok (93, .agg #[h]) w := by kernel_rfl
theorem as_methodImplements (h : Value) (w : World) : (Go.method 267 124 (.agg #[h]) "Implements").run Tryd.prog w = .ok (94, .agg #[h]) w := by kernel_rfl
theorem as_methodAssignableTo (h : Value) (w : World) : (Go.method 267 124 (.agg #[h]) "AssignableTo").run Tryd.prog w = .ok (91, .agg #[h]) w := by kernel_rfl
theorem as_elem27 (w:World):(ReflectliteType.method ReflectliteType.elem #[.agg #[.pointer (some ⟨3,90,none⟩)]]).run Tryd.prog w=.ok (.iface 124 (.agg #[.pointer (some ⟨3,85,none⟩)])) w:=by kernel_rfl
theorem as_implements25 (w : World) : (ReflectliteType.relation "Implements" ReflectliteType.implements_ #[.agg #[.pointer (some ⟨3, 85, none⟩)], .iface 124 (.agg #[.pointer (some ⟨3, 88, none⟩)])]).run Tryd.prog w = .ok (.bool true) w := by kernel_rfl
theorem as_typeOf25 (v:Value) (w:World):(ReflectliteType.typeOf #[.iface 85 v]).run Tryd.prog w=.ok (.iface 124 (.agg #[.pointer (some ⟨3,85,none⟩)])) w:=by kernel_rfl
theorem as_assignable25 (w : World) : (ReflectliteType.relation "AssignableTo" ReflectliteType.assignableTo #[.agg #[.pointer (some ⟨3, 85, none⟩)], .iface 124 (.agg #[.pointer (some ⟨3, 85, none⟩)])]).run Tryd.prog w = .ok (.bool true) w := by kernel_rfl
theorem as_valueOf25 (e:Addr) (w:World):(ReflectliteValue.unpack (.iface 85 (.pointer (some e)))).run Tryd.prog w
  = .ok (.agg #[.pointer (some ⟨3,85,none⟩),.pointer (some ⟨w.heap.size,0,none⟩),.int .u64 150]) (w.alloc (.cells #[.pointer (some e)] 85)):=by kernel_rfl
theorem as_elemOf27 (w:World):(Rtype.elem? 90).run Tryd.prog w=.ok (some 85) w:=by kernel_rfl
theorem as_mk25 (p:Addr) (w:World):(ReflectliteValue.mk 85 p ReflectliteValue.flagAddr).run Tryd.prog w=.ok (.agg #[.pointer (some ⟨3,85,none⟩),.pointer (some p),.int .u64 406]) w:=by kernel_rfl
theorem as_elemV27 (a p:Addr) (W:World) (ha:W.cell? a=some (.pointer (some p))) :
  (ReflectliteValue.method (ReflectliteValue.valueError "reflectlite.Value.Elem" 0) ReflectliteValue.elem #[.agg #[.pointer (some ⟨3, 90, none⟩), .pointer (some a), .int .u64 150]]).run Tryd.prog W
   = .ok (.agg #[.pointer (some ⟨3,85,none⟩),.pointer (some p),.int .u64 406]) W:=by
 rw [rlm]
 simp only [Sem.run_bind,as_parts27,Result.andThen]
 simp [ReflectliteValue.elem,loadVar,isAgg,underlying,Tryd.underlying90,ha,Result.andThen,as_elemOf27,as_mk25]
theorem rls (v x:Value):ReflectliteValue.set #[v,x]=(do
  let (some (dst,a,fl),some (src,b,_)):=(← ReflectliteValue.parts v,← ReflectliteValue.parts x)
   | unsupported (.noEntry "extern/(internal/reflectlite.Value).Set.zeroValue")
  if fl / ReflectliteValue.flagAddr % 2 == 0 then unsupported (.noEntry "extern/(internal/reflectlite.Value).Set.unaddressable")
  let val ← loadVar src b
  if ← Rtype.directlyAssignable dst src then storeVar dst a val
  else if ← Rtype.implements dst src then
   if (← Rtype.kind src)==20 then
    match val with
    | .nilIface => unsupported (.noEntry "extern/reflectlite: a nil value of one interface type handed on as a value of another")
    | _ => storeVar dst a val
   else storeVar dst a (.iface src val)
  else panicString ("reflectlite.Set: value of type " ++ (← Rtype.spelt src) ++ " is not assignable to type " ++ (← Rtype.spelt dst))
  pure (.tuple #[])):=rfl
theorem as_parts25a (a:Addr) (w:World):(ReflectliteValue.parts (.agg #[.pointer (some ⟨3,85,none⟩),.pointer (some a),.int .u64 406])).run Tryd.prog w=.ok (some (85,a,406)) w:=by kernel_rfl
theorem as_parts25 (a:Addr) (w:World):(ReflectliteValue.parts (.agg #[.pointer (some ⟨3,85,none⟩),.pointer (some a),.int .u64 150])).run Tryd.prog w=.ok (some (85,a,150)) w:=by kernel_rfl
theorem as_direct25 (w:World):(Rtype.directlyAssignable 85 85).run Tryd.prog w=.ok true w:=by kernel_rfl
theorem as_set25 (ta b e:Addr) (old:Value) (W:World) (hb:W.cell? b=some (.pointer (some e))) (ht:W.cell? ta=some old) (hf:W.frozen? ta=false) :
  (ReflectliteValue.set #[.agg #[.pointer (some ⟨3,85,none⟩),.pointer (some ta),.int .u64 406],.agg #[.pointer (some ⟨3,85,none⟩),.pointer (some b),.int .u64 150]]).run Tryd.prog W
   = .ok (.tuple #[]) (W.setCell ta (.pointer (some e))):=by
 rw [rls]
 simp only [Sem.run_bind,as_parts25a,as_parts25,Result.andThen]
 simp [ReflectliteValue.flagAddr,loadVar,isAgg,underlying,Tryd.underlying85,hb,Result.andThen,as_direct25,storeVar,Value.cells,storeCells,Addr.add]
 rw [run_store Tryd.prog W ta _ _ (by rfl)]
 simp [ht,hf]
set_option maxHeartbeats 4000000 in
theorem as_hit (e t:Addr) (old:Value) (w:World) (hg:w.cell? ⟨0,0,none⟩=some (.iface 124 (.agg #[.pointer (some ⟨3,88,none⟩)]))) (ht0:w.cell? t=some old) (hf0:w.frozen? t=false) :
  Calls Tryd.prog 42 #[.iface 85 (.pointer (some e)),.iface 90 (.pointer (some t))] w fun ev w' => ev=.returned (.bool true)∧w'=((((w.alloc (.cells #[.pointer (some t)] 90)).alloc (.cells #[.pointer (some ⟨3,90,none⟩),.pointer (some ⟨w.heap.size,0,none⟩),.int .u64 150] 106)).alloc (.cells #[.pointer (some ⟨3,90,none⟩),.pointer (some ⟨w.heap.size,0,none⟩),.int .u64 150] 106)).alloc (.cells #[.pointer (some e)] 85)).setCell t (.pointer (some e)):=by
 have h6:=@run_callFunc_extern Tryd.prog 55 _ (fun args => ReflectliteValue.unpack (args.getD 0 (.tuple #[]))) Tryd.func55 (by kernel_rfl) (by kernel_rfl) (by kernel_rfl) (by kernel_rfl)
 have h7 := @run_callFunc_extern Tryd.prog 56 _ (ReflectliteValue.methodAny (ReflectliteValue.valueError "reflectlite.Value.Type" 0) (fun t _ _ _ => ReflectliteType.toType t)) Tryd.func56 (by kernel_rfl) (by kernel_rfl) (by kernel_rfl) (by kernel_rfl)
 have h8 := @run_callFunc_extern Tryd.prog 57 _ (ReflectliteValue.method (ReflectliteValue.valueError "reflectlite.Value.IsNil" 0) ReflectliteValue.isNil) Tryd.func57 (by kernel_rfl) (by kernel_rfl) (by kernel_rfl) (by kernel_rfl)
 have h27:=@run_callFunc_extern Tryd.prog 81 _ (ReflectliteType.abiMethod fun t => do pure (.int .u8 (← Rtype.kind t))) Tryd.func81 (by kernel_rfl) (by kernel_rfl) (by kernel_rfl) (by kernel_rfl)
 have h37:=@run_callFunc_extern Tryd.prog 93 _ (ReflectliteType.method ReflectliteType.elem) Tryd.func93 (by kernel_rfl) (by kernel_rfl) (by kernel_rfl) (by kernel_rfl)
 have h38 := @run_callFunc_extern Tryd.prog 94 _ (ReflectliteType.relation "Implements" ReflectliteType.implements_) Tryd.func94 (by kernel_rfl) (by kernel_rfl) (by kernel_rfl) (by kernel_rfl)
 have h10:=@run_callFunc_extern Tryd.prog 64 _ ReflectliteType.typeOf Tryd.func64 (by kernel_rfl) (by kernel_rfl) (by kernel_rfl) (by kernel_rfl)
 have h35 := @run_callFunc_extern Tryd.prog 91 _ (ReflectliteType.relation "AssignableTo" ReflectliteType.assignableTo) Tryd.func91 (by kernel_rfl) (by kernel_rfl) (by kernel_rfl) (by kernel_rfl)
 have h11 := @run_callFunc_extern Tryd.prog 65 _ (ReflectliteValue.method (ReflectliteValue.valueError "reflectlite.Value.Elem" 0) ReflectliteValue.elem) Tryd.func65 (by kernel_rfl) (by kernel_rfl) (by kernel_rfl) (by kernel_rfl)
 have h12:=@run_callFunc_extern Tryd.prog 66 _ ReflectliteValue.set Tryd.func66 (by kernel_rfl) (by kernel_rfl) (by kernel_rfl) (by kernel_rfl)
 have tO:=as_typeOf25
 have mA:=as_methodAssignableTo
 have a25:=as_assignable25
 have v25:=as_valueOf25
 have f6:=as_valueOf27
 have f7:=as_type27
 have mK:=as_methodKind
 have mE:=as_methodElem
 have mI:=as_methodImplements
 have k27:=as_kind27
 have k25:=as_kind25
 have e27:=as_elem27
 have i25:=as_implements25
 have n8:=as_isNil27 ⟨w.heap.size,0,none⟩ t ((w.alloc (.cells #[.pointer (some t)] 90)).alloc (.cells #[.pointer (some ⟨3,90,none⟩),.pointer (some ⟨w.heap.size,0,none⟩),.int .u64 150] 106)) (by simp)
 have hlt:0 < w.heap.size:=by
  rcases Nat.lt_or_ge 0 w.heap.size with h|h
  ·exact h
  ·simp [World.cell?,Array.getElem?_eq_none h] at hg
 have hg2:((w.alloc (.cells #[.pointer (some t)] 90)).alloc (.cells #[.pointer (some ⟨3,90,none⟩),.pointer (some ⟨w.heap.size,0,none⟩),.int .u64 150] 106)).cell? ⟨0,0,none⟩=some (.iface 124 (.agg #[.pointer (some ⟨3,88,none⟩)])):=by
  rw [World.cell?_alloc_lt _ _ ⟨0,0,none⟩ (by simp <;> omega),World.cell?_alloc_lt _ _ ⟨0,0,none⟩ hlt];exact hg
 have htl:t.block < w.heap.size:=by
  rcases Nat.lt_or_ge t.block w.heap.size with h|h
  ·exact h
  ·simp [World.cell?,Array.getElem?_eq_none h] at ht0
 have el:=as_elemV27 ⟨w.heap.size,0,none⟩ t (((w.alloc (.cells #[.pointer (some t)] 90)).alloc (.cells #[.pointer (some ⟨3,90,none⟩),.pointer (some ⟨w.heap.size,0,none⟩),.int .u64 150] 106)).alloc (.cells #[.pointer (some ⟨3,90,none⟩),.pointer (some ⟨w.heap.size,0,none⟩),.int .u64 150] 106)) (by rw [World.cell?_alloc_lt _ _ ⟨w.heap.size,0,none⟩ (by simp <;> omega)];simp)
 have st:=as_set25 t ⟨w.heap.size + 1 + 1 + 1,0,none⟩ e old ((((w.alloc (.cells #[.pointer (some t)] 90)).alloc (.cells #[.pointer (some ⟨3,90,none⟩),.pointer (some ⟨w.heap.size,0,none⟩),.int .u64 150] 106)).alloc (.cells #[.pointer (some ⟨3,90,none⟩),.pointer (some ⟨w.heap.size,0,none⟩),.int .u64 150] 106)).alloc (.cells #[.pointer (some e)] 85))
  (by rw [World.cell?_alloc_at _ _ _ _ (by simp)];rfl)
  (by rw [World.cell?_alloc_lt _ _ t (by simp <;> omega),World.cell?_alloc_lt _ _ t (by simp <;> omega),World.cell?_alloc_lt _ _ t (by simp <;> omega),World.cell?_alloc_lt _ _ t htl];exact ht0)
  (by rw [World.frozen?_alloc_old _ _ t (by simp <;> omega),World.frozen?_alloc_old _ _ t (by simp <;> omega),World.frozen?_alloc_old _ _ t (by simp <;> omega),World.frozen?_alloc_old _ _ t (Nat.ne_of_lt htl)];exact hf0)
 go_enter Tryd.func42,Tryd.ntmps42
 go_wp2
 refine wp_loop_rounds 1 ?_
 rw [rounds_succ]
 go_wp2
 go_ret
 exact ⟨rfl,rfl⟩
end Go.Proofs.YtmloaijagkebpaaDoor.Px
namespace Go.Proofs.YtmloaijagkebpaaDoor.Px
open Go.RowKit Go.Proofs.YtmloaijagkebpaaDoorW.PrintWords Go.Proofs.YtmloaijagkebpaaDoorW.PrintLast Go.Proofs.YtmloaijagkebpaaDoorW.PrintMore
attribute [local go_sem] max2_int min2_int max_two min_two max_three min_three max_four min_four
set_option linter.unusedVariables false
set_option linter.unusedSimpArgs false
def text_split.f (a0:Int):Option (Int × Int):=if a0 < 65536 then (some (0,a0)) else (some (wrap32 (55296 + ((wrap32 (a0 - 65536)) / 1024)),wrap32 (56320 + (Go.bits .and .i32 (wrap32 (a0 - 65536)) 1023))))
set_option maxHeartbeats 80000000 in
set_option maxRecDepth 100000 in
theorem text_split.calls (a0:Int) (r1:Int) (r2:Int) (w:World) (h:text_split.f a0=some (r1,r2)) :
  Calls Tryd.prog 46 #[.int .i32 a0] w fun e w' => e=.returned (.tuple #[.int .i32 r1,.int .i32 r2])∧Drawn0 w w':=by
 have H:(if a0 < 65536 then (some (0,a0)) else (some (wrap32 (55296 + ((wrap32 (a0 - 65536)) / 1024)),wrap32 (56320 + (Go.bits .and .i32 (wrap32 (a0 - 65536)) 1023)))))=some (r1,r2):=h
 clear h
 by_cases c2:a0 < 65536
 ·rw [if_pos c2] at H
  have c2b0:decide (a0 < 65536)=true:=decide_eq_true c2
  clear c2
  simp only [Option.some.injEq,Prod.mk.injEq] at H
  obtain ⟨rfl,rfl⟩:=H
  go_enter Tryd.func46,Tryd.ntmps46
  go_wp2
  go_ret2
  exact ⟨by first|rfl|(simp;done)|(simp [*];done),by repeat (first|exact Drawn0.refl _|apply Drawn0.step)⟩
 ·rw [if_neg c2] at H
  have c2b0:decide (a0 < 65536)=false:=decide_eq_false c2
  clear c2
  simp only [Option.some.injEq,Prod.mk.injEq] at H
  obtain ⟨rfl,rfl⟩:=H
  go_enter Tryd.func46,Tryd.ntmps46
  go_wp2
  go_ret2
  exact ⟨by first|rfl|(simp;done)|(simp [*];done),by repeat (first|exact Drawn0.refl _|apply Drawn0.step)⟩
def text_unit.j0:Nat→List Int→Int→Bool→Option (List Int)
 | 0,_,_,_ => none
 | k + 1,x0,x1,x5 => if x5=true then (if x0.length < 140737488355328 then (some (x0++[(x1) % 256])) else (none)) else (if x1 < 2048 then ((some (([Go.bits .or .u8 192 ((x1 / 64) % 256),Go.bits .or .u8 128 ((Go.bits .and .i32 x1 63) % 256)]:List Int):List Int)).bind fun y104 => (if x0.length + y104.length < 140737488355328 then (some (x0++y104)) else (none))) else ((some (([Go.bits .or .u8 224 ((x1 / 4096) % 256),Go.bits .or .u8 128 ((Go.bits .and .i32 (x1 / 64) 63) % 256),Go.bits .or .u8 128 ((Go.bits .and .i32 x1 63) % 256)]:List Int):List Int)).bind fun y110 => (if x0.length + y110.length < 140737488355328 then (some (x0++y110)) else (none))))
def text_unit.f (k:Nat) (l0:List Int) (a1:Int):Option (List Int):=if a1 > 0 then (text_unit.j0 k l0 a1 (decide (a1 < 128))) else (text_unit.j0 k l0 a1 false)
theorem text_unit.mono_l:∀ k,(∀ y0 y1 y2,LeO (text_unit.j0 k y0 y1 y2) (text_unit.j0 (k + 1) y0 y1 y2))
 | 0 => fun _ _ _ r h => by simp [text_unit.j0] at h
 | k + 1 => by
  have ih0:=text_unit.mono_l k
  ·intro y0 y1 y2
   unfold text_unit.j0
   repeat' first
   | (with_reducible exact ih0 _ _ _)
   | (with_reducible exact LeO.refl _)
   | (with_reducible exact LeO.none _)
   | (with_reducible refine LeO.ite ?_ ?_)
   | (with_reducible refine LeO.bind ?_ (fun _ => ?_))
   | exact ih0 _ _ _
   | exact LeO.none _
   | refine LeO.ite ?_ ?_
   | refine LeO.bind ?_ (fun _ => ?_)
theorem text_unit.mono:∀ a0 a1 k,LeO (text_unit.f k a0 a1) (text_unit.f (k + 1) a0 a1):=by
 intro a0 a1 k
 have ih0:=text_unit.mono_l k
 unfold text_unit.f
 repeat' first
   | (with_reducible exact ih0 _ _ _)
   | (with_reducible exact LeO.refl _)
   | (with_reducible exact LeO.none _)
   | (with_reducible refine LeO.ite ?_ ?_)
   | (with_reducible refine LeO.bind ?_ (fun _ => ?_))
   | exact ih0 _ _ _
   | exact LeO.none _
   | refine LeO.ite ?_ ?_
   | refine LeO.bind ?_ (fun _ => ?_)
set_option maxHeartbeats 80000000 in
set_option maxRecDepth 100000 in
theorem text_unit.calls (k:Nat) (P0_:Nat→Prop) (u9000_:Value) (l0:List Int) (a1:Int) (r:List Int) (w0 w:World) (hB:Below w0.heap.size w0 w) (ho0:Kd.R (Kd.int .u8) 5 w w0.heap.size P0_ u9000_ l0) (h:text_unit.f k l0 a1=some r) :
  Calls Tryd.prog 47 #[u9000_,.int .i32 a1] w fun e w' => ∃ v0_:Value,e=.returned (v0_)∧Kd.R (Kd.int .u8) 5 w' w0.heap.size (fun k_ => (P0_ k_ ∨ w.heap.size≤k_)) v0_ r∧Below w0.heap.size w0 w'∧Kept w w' (fun k_ => P0_ k_):=by
 have HO0:=Aside0.mk (show Kd.R (Kd.int .u8) 5 w w0.heap.size (fun k_ => (P0_ k_ ∨ w.heap.size≤k_)) u9000_ l0 from Kd.R_mono ho0 (fun k_ hk => (.inl hk)))
 have HK:=Aside0.mk (Kept.refl w (fun k_ => P0_ k_))
 have HW0:=Aside0.mk hB.size
 have HB:=Aside0.mk hB
 clear hB
 have H:(if a1 > 0 then (text_unit.j0 k l0 a1 (decide (a1 < 128))) else (text_unit.j0 k l0 a1 false))=some r:=h
 clear h
 have HC3:=Aside0.mk H
 clear H
 go_enter Tryd.func47,Tryd.ntmps47
 go_upto_region 1 with (fail)
 go_cut [5] (fun v5 wc => ∃ (kq:Nat) (x5_2:Bool),v5=.bool x5_2∧Aside0 (text_unit.j0 kq l0 a1 x5_2=some r)∧Aside0 (kq≤k)∧Aside0 (Kd.R (Kd.int .u8) 5 wc w0.heap.size (fun k_ => (P0_ k_ ∨ w.heap.size≤k_)) u9000_ l0)∧Aside0 (Kept w wc (fun k_ => P0_ k_))∧Aside0 (Below w0.heap.size w0 wc))
 case first =>
  have H:=HC3.out
  clear HC3
  by_cases c4:a1 > 0
  ·rw [if_pos c4] at H
   have c4b0:decide (0 < a1)=true:=decide_eq_true c4
   clear c4
   (first|rw [c4b0]|(simp only [i64_w,i32_w];rw [c4b0])|skip)
   have H':=Aside0.mk H
   clear H
   go_wp2
   go_meet
   case rel => exact ⟨_,(decide (a1 < 128)),r3_,H',⟨by first|omega|exact Nat.le_refl _⟩,⟨kr_ HO0.out⟩,⟨by repeat (first|(with_reducible first|exact HK.out|apply Kept.alloc|apply Kept.drewN|apply Kept.drew)|exact HK.out)⟩,⟨bl_⟩⟩
  ·rw [if_neg c4] at H
   have c4b0:decide (0 < a1)=false:=decide_eq_false c4
   clear c4
   (first|rw [c4b0]|(simp only [i64_w,i32_w];rw [c4b0])|skip)
   have H':=Aside0.mk H
   clear H
   go_wp2
   go_meet
   case rel => exact ⟨_,(false),r3_,H',⟨by first|omega|exact Nat.le_refl _⟩,⟨kr_ HO0.out⟩,⟨by repeat (first|(with_reducible first|exact HK.out|apply Kept.alloc|apply Kept.drewN|apply Kept.drew)|exact HK.out)⟩,⟨bl_⟩⟩
 case rest =>
  clear HC3
  obtain ⟨kq,x5_2,rfl,HA,HJ2,HO_0,HK,HB⟩:=hcut
  cases kq with
  | zero => exact absurd HA.out (by simp [text_unit.j0])
  | succ kj2 =>
   have H:=HA.out
   clear HA
   simp only [text_unit.j0] at H
   by_cases c5:x5_2=true
   ·subst c5
    rw [if_pos rfl] at H
    by_cases c6:l0.length < 140737488355328
    ·rw [if_pos c6] at H
     have LMc6:=Aside0.mk c6
     clear c6
     obtain ⟨y101,hy101⟩:∃ y_:List Int,y_=(l0++[(a1) % 256]):=⟨_,rfl⟩
     replace H:(some y101)=some r:=by first|(rw [hy101];with_reducible exact H)|(have H2_:=(Option.bind_some _ _).symm.trans H;rw [hy101];with_reducible exact H2_)|(have H2_:=(Option.bind_some _ _).symm.trans H;with_reducible exact H2_)|with_reducible exact H|(rw [hy101];exact H)|exact H
     have Ny101:=Aside0.mk hy101
     clear hy101
     obtain rfl:=Option.some.inj H
     go_wp2_with (first|((with_reducible refine gate_builtin (b:=.append) (xs:=#[.tmp 12,.tmp 15]) rfl ?_);at_builtin;refine Kd.R_append (Kd.int .u8) (w0:=w0) w0.heap.size rfl (.tmp 12) (.tmp 15) 27 5 (.int .u8 0) 1 rfl Tryd.underlying27 info5 rfl (by decide) (by omega) u9000_ l0 ((a1) % 256) [.int .u8 ((a1) % 256)] (fun k_ => (P0_ k_ ∨ w.heap.size≤k_)) (fun _ => False) rfl rfl ?aP (fun _ hk => hk.elim) ?aF ?aO ?aB ?aS ?aL ?_;(case aP => exact rfl);(case aB => exact bl_);(case aF => exact (fun k_ hk => (.inr (Nat.le_trans (by first|exact HK.out.1|exact (show Kept w _ (fun k_ => P0_ k_) from by repeat (first|(with_reducible first|exact HK.out|apply Kept.alloc|apply Kept.drewN|apply Kept.drew)|exact HK.out)).1) hk))));(case aO => exact (kr_ HO_0.out));(case aS => exact (below_size bl_));(case aL => have:=LMc6.out;omega);intro v102 w7 ho hb hg hat;rw [← Ny101.out] at ho;have n0_:=Aside0.mk (hb);have n1_:=Aside0.mk (Kept.of_grown (S:=(fun k_ => P0_ k_)) hg (by repeat (first|(with_reducible first|exact HK.out|apply Kept.alloc|apply Kept.drewN|apply Kept.drew)|exact HK.out)) (fun k_ e_ => (HO_0.out.1 k_ e_)));have n2_:=Aside0.mk (ho);clear HB;clear HK;clear HO_0;have HB:=n0_;have HK:=n1_;have HO103:=n2_;clear n0_ n1_ n2_;clear ho hb hg hat))
     go_ret
     exact ⟨_,ew_,kr_ HO103.out,bl_,by repeat (first|(with_reducible first|exact HK.out|apply Kept.alloc|apply Kept.drewN|apply Kept.drew)|exact HK.out)⟩
    ·rw [if_neg c6] at H
     exact absurd H (by simp)
   ·replace c5:=Bool.eq_false_iff.mpr c5
    subst c5
    rw [if_neg (show ¬ (false=true) by decide)] at H
    by_cases c8:a1 < 2048
    ·rw [if_pos c8] at H
     have c8b0:decide (a1 < 2048)=true:=decide_eq_true c8
     clear c8
     obtain ⟨y104,hy104⟩:∃ y_:List Int,y_=(([Go.bits .or .u8 192 ((a1 / 64) % 256),Go.bits .or .u8 128 ((Go.bits .and .i32 a1 63) % 256)]:List Int)):=⟨_,rfl⟩
     replace H:(if l0.length + y104.length < 140737488355328 then (some (l0++y104)) else (none))=some r:=by first|(rw [hy104];with_reducible exact H)|(have H2_:=(Option.bind_some _ _).symm.trans H;rw [hy104];with_reducible exact H2_)|(have H2_:=(Option.bind_some _ _).symm.trans H;with_reducible exact H2_)|with_reducible exact H|(rw [hy104];exact H)|exact H
     have Ny104:=Aside0.mk hy104
     clear hy104
     by_cases c9:l0.length + y104.length < 140737488355328
     ·rw [if_pos c9] at H
      have LMc9:=Aside0.mk c9
      clear c9
      obtain ⟨y107,hy107⟩:∃ y_:List Int,y_=(l0++y104):=⟨_,rfl⟩
      replace H:(some y107)=some r:=by first|(rw [hy107];with_reducible exact H)|(have H2_:=(Option.bind_some _ _).symm.trans H;rw [hy107];with_reducible exact H2_)|(have H2_:=(Option.bind_some _ _).symm.trans H;with_reducible exact H2_)|with_reducible exact H|(rw [hy107];exact H)|exact H
      have Ny107:=Aside0.mk hy107
      clear hy107
      obtain rfl:=Option.some.inj H
      go_wp2_with (first|((with_reducible refine gate_dst (N:=29) rfl ?_);refine Kd.R_lit (Kd.int .u8) _ 5 ?hg (N:=29) ?hd (xs:=([Go.bits .or .u8 192 ((a1 / 64) % 256),Go.bits .or .u8 128 ((Go.bits .and .i32 a1 63) % 256)]:List Int)) (inner:=[.int .u8 (Go.bits .or .u8 192 ((a1 / 64) % 256)),.int .u8 (Go.bits .or .u8 128 ((Go.bits .and .i32 a1 63) % 256))]) (ok:=fun _ => True) (okp:=fun _ => True) ?hr ?hp (fun _ hk => hk) trivial (Below.refl _ _) (Nat.le_refl _) (by simp) ?_;(case hd => rfl);(case hg => rfl);(case hr => first|(go_simp;done)|(go_simp;rfl));(case hp => exact (Reps.one (show Kd.M (Kd.int .u8) _ _ _ (Go.bits .or .u8 192 ((a1 / 64) % 256)) [.int .u8 (Go.bits .or .u8 192 ((a1 / 64) % 256))] from rfl) (Reps.one (show Kd.M (Kd.int .u8) _ _ _ (Go.bits .or .u8 128 ((Go.bits .and .i32 a1 63) % 256)) [.int .u8 (Go.bits .or .u8 128 ((Go.bits .and .i32 a1 63) % 256))] from rfl) (Reps.none _ _))));intro v105 w10 ho11 hb hg_ hnew_;clear hg_ hnew_;(first|rw [← Ny104.out] at ho11|(simp only [Int.reduceToNat] at ho11;rw [← Ny104.out] at ho11));have n0_:=Aside0.mk (Kd.R_elder' (kr_ HO_0.out) (Kd.R_base ho11) hb);have n1_:=Aside0.mk (Kd.R_lower (Kd.R_new' (Kd.R_newM (M:=fun k_ => (P0_ k_ ∨ w.heap.size≤k_)) ho11 (by first|exact HK.out.1|exact (show Kept w _ (fun k_ => P0_ k_) from by repeat (first|(with_reducible first|exact HK.out|apply Kept.alloc|apply Kept.drewN|apply Kept.drew)|exact HK.out)).1) (fun k_ h_ => .inr h_)) (Kd.R_lt (kr_ HO_0.out))) (below_size bl_));have n2_:=Aside0.mk (Kept.below (S:=(fun k_ => P0_ k_)) (by repeat (first|(with_reducible first|exact HK.out|apply Kept.alloc|apply Kept.drewN|apply Kept.drew)|exact HK.out)) hb);have n3_:=Aside0.mk (below_step bl_ hb);clear HO_0;clear HK;clear HB;have HO_0:=n0_;have HO106:=n1_;have HK:=n2_;have HB:=n3_;clear n0_ n1_ n2_ n3_;clear hb ho11;obtain ⟨Ao13,co13,eo13⟩:=Kd.R_slice HO106.out;subst eo13)|((with_reducible refine gate_builtin (b:=.append) (xs:=#[.tmp 20,.tmp 29]) rfl ?_);at_builtin;refine Kd.R_append_rows (Kd.int .u8) (w0:=w0) w0.heap.size rfl (.tmp 20) (.tmp 29) 27 5 (.int .u8 0) 1 rfl Tryd.underlying27 info5 rfl (by decide) (by omega) u9000_ l0 y104 _ _ _ (fun k_ => (P0_ k_ ∨ w.heap.size≤k_)∧some k_ ≠ (.slice Ao13 y104.length co13:Value).ownBlock) (fun _ => False) rfl rfl ?aO ?aR (fun _ _ h => h) (fun _ h => h.elim) ?aF ?aB ?aS ?aL ?_;(case aR => exact kc_ (Kd.R_reads' HO106.out).2.2);(case aB => exact bl_);(case aF => exact (fun k_ hk => ⟨(.inr (Nat.le_trans (by first|exact HK.out.1|exact (show Kept w _ (fun k_ => P0_ k_) from by repeat (first|(with_reducible first|exact HK.out|apply Kept.alloc|apply Kept.drewN|apply Kept.drew)|exact HK.out)).1) hk)),Kd.fresh' (Kd.R_lt (kr_ HO106.out)) k_ hk⟩));(case aO => exact (kr_ HO_0.out));(case aS => exact (below_size bl_));(case aL => have:=LMc9.out;omega);intro v108 w12 ho hb hg hat;rw [← Ny107.out] at ho;have n0_:=Aside0.mk (Kd.R_after (ok:=(fun k_ => (P0_ k_ ∨ w.heap.size≤k_))) (by (with_reducible repeat (first|apply Kd.R_alloc|apply Kd.R_drewN|apply Kd.R_drew));exact Kd.R_mono HO106.out (fun _ hk => ⟨hk.1.1,hk.2⟩)) hg hat);have n1_:=Aside0.mk (hb);have n2_:=Aside0.mk (Kept.of_grown (S:=(fun k_ => P0_ k_)) hg (by repeat (first|(with_reducible first|exact HK.out|apply Kept.alloc|apply Kept.drewN|apply Kept.drew)|exact HK.out)) (fun k_ e_ => (HO_0.out.1 k_ e_).1));have n3_:=Aside0.mk (ho);clear HO106;clear HB;clear HK;clear HO_0;have HO106:=n0_;have HB:=n1_;have HK:=n2_;have HO109:=n3_;clear n0_ n1_ n2_ n3_;clear ho hb hg hat))
      go_ret
      exact ⟨_,ew_,by (with_reducible repeat (first|apply Kd.R_alloc|apply Kd.R_drewN|apply Kd.R_drew));exact Kd.R_mono HO109.out (fun _ hk => hk.1),bl_,by repeat (first|(with_reducible first|exact HK.out|apply Kept.alloc|apply Kept.drewN|apply Kept.drew)|exact HK.out)⟩
     ·rw [if_neg c9] at H
      exact absurd H (by simp)
    ·rw [if_neg c8] at H
     have c8b0:decide (a1 < 2048)=false:=decide_eq_false c8
     clear c8
     obtain ⟨y110,hy110⟩:∃ y_:List Int,y_=(([Go.bits .or .u8 224 ((a1 / 4096) % 256),Go.bits .or .u8 128 ((Go.bits .and .i32 (a1 / 64) 63) % 256),Go.bits .or .u8 128 ((Go.bits .and .i32 a1 63) % 256)]:List Int)):=⟨_,rfl⟩
     replace H:(if l0.length + y110.length < 140737488355328 then (some (l0++y110)) else (none))=some r:=by first|(rw [hy110];with_reducible exact H)|(have H2_:=(Option.bind_some _ _).symm.trans H;rw [hy110];with_reducible exact H2_)|(have H2_:=(Option.bind_some _ _).symm.trans H;with_reducible exact H2_)|with_reducible exact H|(rw [hy110];exact H)|exact H
     have Ny110:=Aside0.mk hy110
     clear hy110
     by_cases c14:l0.length + y110.length < 140737488355328
     ·rw [if_pos c14] at H
      have LMc14:=Aside0.mk c14
      clear c14
      obtain ⟨y113,hy113⟩:∃ y_:List Int,y_=(l0++y110):=⟨_,rfl⟩
      replace H:(some y113)=some r:=by first|(rw [hy113];with_reducible exact H)|(have H2_:=(Option.bind_some _ _).symm.trans H;rw [hy113];with_reducible exact H2_)|(have H2_:=(Option.bind_some _ _).symm.trans H;with_reducible exact H2_)|with_reducible exact H|(rw [hy113];exact H)|exact H
      have Ny113:=Aside0.mk hy113
      clear hy113
      obtain rfl:=Option.some.inj H
      go_wp2_with (first|((with_reducible refine gate_dst (N:=45) rfl ?_);refine Kd.R_lit (Kd.int .u8) _ 5 ?hg (N:=45) ?hd (xs:=([Go.bits .or .u8 224 ((a1 / 4096) % 256),Go.bits .or .u8 128 ((Go.bits .and .i32 (a1 / 64) 63) % 256),Go.bits .or .u8 128 ((Go.bits .and .i32 a1 63) % 256)]:List Int)) (inner:=[.int .u8 (Go.bits .or .u8 224 ((a1 / 4096) % 256)),.int .u8 (Go.bits .or .u8 128 ((Go.bits .and .i32 (a1 / 64) 63) % 256)),.int .u8 (Go.bits .or .u8 128 ((Go.bits .and .i32 a1 63) % 256))]) (ok:=fun _ => True) (okp:=fun _ => True) ?hr ?hp (fun _ hk => hk) trivial (Below.refl _ _) (Nat.le_refl _) (by simp) ?_;(case hd => rfl);(case hg => rfl);(case hr => first|(go_simp;done)|(go_simp;rfl));(case hp => exact (Reps.one (show Kd.M (Kd.int .u8) _ _ _ (Go.bits .or .u8 224 ((a1 / 4096) % 256)) [.int .u8 (Go.bits .or .u8 224 ((a1 / 4096) % 256))] from rfl) (Reps.one (show Kd.M (Kd.int .u8) _ _ _ (Go.bits .or .u8 128 ((Go.bits .and .i32 (a1 / 64) 63) % 256)) [.int .u8 (Go.bits .or .u8 128 ((Go.bits .and .i32 (a1 / 64) 63) % 256))] from rfl) (Reps.one (show Kd.M (Kd.int .u8) _ _ _ (Go.bits .or .u8 128 ((Go.bits .and .i32 a1 63) % 256)) [.int .u8 (Go.bits .or .u8 128 ((Go.bits .and .i32 a1 63) % 256))] from rfl) (Reps.none _ _)))));intro v111 w15 ho16 hb hg_ hnew_;clear hg_ hnew_;(first|rw [← Ny110.out] at ho16|(simp only [Int.reduceToNat] at ho16;rw [← Ny110.out] at ho16));have n0_:=Aside0.mk (Kd.R_elder' (kr_ HO_0.out) (Kd.R_base ho16) hb);have n1_:=Aside0.mk (Kd.R_lower (Kd.R_new' (Kd.R_newM (M:=fun k_ => (P0_ k_ ∨ w.heap.size≤k_)) ho16 (by first|exact HK.out.1|exact (show Kept w _ (fun k_ => P0_ k_) from by repeat (first|(with_reducible first|exact HK.out|apply Kept.alloc|apply Kept.drewN|apply Kept.drew)|exact HK.out)).1) (fun k_ h_ => .inr h_)) (Kd.R_lt (kr_ HO_0.out))) (below_size bl_));have n2_:=Aside0.mk (Kept.below (S:=(fun k_ => P0_ k_)) (by repeat (first|(with_reducible first|exact HK.out|apply Kept.alloc|apply Kept.drewN|apply Kept.drew)|exact HK.out)) hb);have n3_:=Aside0.mk (below_step bl_ hb);clear HO_0;clear HK;clear HB;have HO_0:=n0_;have HO112:=n1_;have HK:=n2_;have HB:=n3_;clear n0_ n1_ n2_ n3_;clear hb ho16;obtain ⟨Ao18,co18,eo18⟩:=Kd.R_slice HO112.out;subst eo18)|((with_reducible refine gate_builtin (b:=.append) (xs:=#[.tmp 31,.tmp 45]) rfl ?_);at_builtin;refine Kd.R_append_rows (Kd.int .u8) (w0:=w0) w0.heap.size rfl (.tmp 31) (.tmp 45) 27 5 (.int .u8 0) 1 rfl Tryd.underlying27 info5 rfl (by decide) (by omega) u9000_ l0 y110 _ _ _ (fun k_ => (P0_ k_ ∨ w.heap.size≤k_)∧some k_ ≠ (.slice Ao18 y110.length co18:Value).ownBlock) (fun _ => False) rfl rfl ?aO ?aR (fun _ _ h => h) (fun _ h => h.elim) ?aF ?aB ?aS ?aL ?_;(case aR => exact kc_ (Kd.R_reads' HO112.out).2.2);(case aB => exact bl_);(case aF => exact (fun k_ hk => ⟨(.inr (Nat.le_trans (by first|exact HK.out.1|exact (show Kept w _ (fun k_ => P0_ k_) from by repeat (first|(with_reducible first|exact HK.out|apply Kept.alloc|apply Kept.drewN|apply Kept.drew)|exact HK.out)).1) hk)),Kd.fresh' (Kd.R_lt (kr_ HO112.out)) k_ hk⟩));(case aO => exact (kr_ HO_0.out));(case aS => exact (below_size bl_));(case aL => have:=LMc14.out;omega);intro v114 w17 ho hb hg hat;rw [← Ny113.out] at ho;have n0_:=Aside0.mk (Kd.R_after (ok:=(fun k_ => (P0_ k_ ∨ w.heap.size≤k_))) (by (with_reducible repeat (first|apply Kd.R_alloc|apply Kd.R_drewN|apply Kd.R_drew));exact Kd.R_mono HO112.out (fun _ hk => ⟨hk.1.1,hk.2⟩)) hg hat);have n1_:=Aside0.mk (hb);have n2_:=Aside0.mk (Kept.of_grown (S:=(fun k_ => P0_ k_)) hg (by repeat (first|(with_reducible first|exact HK.out|apply Kept.alloc|apply Kept.drewN|apply Kept.drew)|exact HK.out)) (fun k_ e_ => (HO_0.out.1 k_ e_).1));have n3_:=Aside0.mk (ho);clear HO112;clear HB;clear HK;clear HO_0;have HO112:=n0_;have HB:=n1_;have HK:=n2_;have HO115:=n3_;clear n0_ n1_ n2_ n3_;clear ho hb hg hat))
      go_ret
      exact ⟨_,ew_,by (with_reducible repeat (first|apply Kd.R_alloc|apply Kd.R_drewN|apply Kd.R_drew));exact Kd.R_mono HO115.out (fun _ hk => hk.1),bl_,by repeat (first|(with_reducible first|exact HK.out|apply Kept.alloc|apply Kept.drewN|apply Kept.drew)|exact HK.out)⟩
     ·rw [if_neg c14] at H
      exact absurd H (by simp)
end Go.Proofs.YtmloaijagkebpaaDoor.Px
namespace Go.Proofs.YtmloaijagkebpaaDoor.Px
open Go.RowKit Go.Proofs.YtmloaijagkebpaaDoorW.PrintWords Go.Proofs.YtmloaijagkebpaaDoorW.PrintLast Go.Proofs.YtmloaijagkebpaaDoorW.PrintMore
set_option linter.unusedVariables false
set_option linter.unusedSimpArgs false
def text_Encode.one (k:Nat) (b:List Int) (c:Int):Option (List Int) :=
 (text_split.f c).bind fun t => if t.1=0 then text_unit.f k b t.2 else (text_unit.f k b t.1).bind fun b1 => text_unit.f k b1 t.2
def text_Encode.l0:Nat→ByteArray→Nat→List Int→Option (List Int × Int)
 | 0,_,_,_ => none
 | k + 1,s,p,b => if p < s.size then (text_Encode.one k b ((Utf8.decode s p).1:Int)).bind fun b1 => text_Encode.l0 k s (p + (Utf8.decode s p).2) b1 else some (b,0)
def text_Encode.f (k:Nat) (a0:ByteArray):Option (List Int × Int) :=
 if a0.size≤9223372036854775807 then (if Lib.validD a0.data.toList=true then text_Encode.l0 k a0 0 [] else some ([],20)) else none
theorem text_Encode.mono_one (k:Nat) (b:List Int) (c:Int):LeO (text_Encode.one k b c) (text_Encode.one (k + 1) b c):=by
 unfold text_Encode.one
 refine LeO.bind (LeO.refl _) (fun _ => LeO.ite (text_unit.mono _ _ _) (LeO.bind (text_unit.mono _ _ _) (fun _ => text_unit.mono _ _ _)))
theorem text_Encode.mono_l:∀ k s p b,LeO (text_Encode.l0 k s p b) (text_Encode.l0 (k + 1) s p b)
 | 0 => fun _ _ _ r h => by simp [text_Encode.l0] at h
 | k + 1 => fun s p b => by
  unfold text_Encode.l0
  exact LeO.ite (LeO.bind (text_Encode.mono_one _ _ _) (fun _ => text_Encode.mono_l k _ _ _)) (LeO.refl _)
theorem text_Encode.mono:∀ a0 k,LeO (text_Encode.f k a0) (text_Encode.f (k + 1) a0):=by
 intro a0 k
 unfold text_Encode.f
 exact LeO.ite (LeO.ite (text_Encode.mono_l _ _ _ _) (LeO.refl _)) (LeO.refl _)
theorem text_Encode.width (s:ByteArray) (pos:Nat) (h:pos < s.size):1≤(Utf8.decode s pos).2:=by
 by_cases ha:(s[pos]'h).toNat < 128
 ·rw [decode_ascii s pos h ha];exact Nat.le_refl _
 ·exact (decode_high s pos h (by omega)).2
theorem R_iterAt {w:World} {base:Nat} {v:Value} {xs:List Int} {k:Nat} {s:ByteArray} {p:Nat} (h:Kd.R (Kd.int .u8) 5 w base (fun _ => True) v xs) (hk:w.heap[k]?=some (.stringIter s p)) (p':Nat) :
  Kd.R (Kd.int .u8) 5 (w.iterAt k s p') base (fun _ => True) v xs:=by
 refine Kd.R_step (Kd.R_mono (Kd.R_bound h) (fun _ hk => hk.2)) (fun j hj _ => ?_) |> fun z => Kd.R_mono z (fun _ _ => trivial)
 obtain ⟨_,_,q,_,cells,hc⟩:=hj
 refine Lib.iterAt_other w k j s p' ?_
 rintro rfl
 rw [hk] at hc
 cases hc
theorem R_noIter {w:World} {base:Nat} {ok:Nat→Prop} {v:Value} {xs:List Int} {it:Nat} {s:ByteArray} {p:Nat} (h:Kd.R (Kd.int .u8) 5 w base ok v xs) (hk:w.heap[it]?=some (.stringIter s p)) :
  Kd.R (Kd.int .u8) 5 w base (fun k => k ≠ it) v xs:=by
 refine Kd.R_mono (Kd.R_bound h) (fun j hj => ?_)
 obtain ⟨_,_,_,q,_,cells,hc⟩:=hj
 rintro rfl
 rw [hk] at hc
 cases hc
theorem valid_calls (s:ByteArray) (w:World) (hs:s.size≤9223372036854775807) (hG:GG w) :
  Calls Tryd.prog 45 #[.string s] w fun e w' => e=.returned (.bool (Lib.validD s.data.toList))∧Below w.heap.size w w' :=
 Any.utf8_ValidString Tryd.laysValid s w hs hG.tabs
theorem R_mk (w w1:World) (h:w.heap.size≤w1.heap.size) (s:ByteArray):Kd.R (Kd.int .u8) 5 ((w1.alloc (.cells #[] 5)).iter s 0) w.heap.size (fun _ => True) (.slice (some ⟨w1.heap.size,0,none⟩) 0 0) []:=by
 have h1:=World.ownsRow_lit (base:=w.heap.size) (e:=5) (size:=1) w1 #[] 0 h (by simp [maxLen]) (by simp)
 have h2:Kd.R (Kd.int .u8) 5 (w1.alloc (.cells #[] 5)) w.heap.size (fun _ => True) (.slice (some ⟨w1.heap.size,0,none⟩) 0 0) [] :=
  ⟨fun _ _ => trivial,[],by simp only [List.length_nil];exact (by simpa using h1:World.ownsRow _ _ _ 1 _ 0 []),Reps.none _ _⟩
 exact Kd.R_below h2 (((Below.refl _ _).alloc (Nat.le_refl _) _))
set_option maxHeartbeats 4000000 in
set_option maxRecDepth 100000 in
theorem text_Encode.calls (k:Nat) (a0:ByteArray) (r1:List Int) (r2:Int) (w:World) (hG:Aside0 (GG w)) (h:text_Encode.f k a0=some (r1,r2)) :
  Calls Tryd.prog 31 #[.string a0] w fun e w' => ∃ v0_:Value,e=.returned (.tuple #[v0_,.int .i64 r2])∧Kd.R (Kd.int .u8) 5 w' w.heap.size (fun _ => True) v0_ r1∧Below w.heap.size w w':=by
 unfold text_Encode.f at h
 by_cases hs:a0.size≤9223372036854775807
 ·rw [if_pos hs] at h
  have cV:=valid_calls a0 w hs hG.out
  by_cases hv:Lib.validD a0.data.toList=true
  ·rw [if_pos hv] at h
   rw [hv] at cV
   have H0:=Aside0.mk h
   clear h hv hs
   go_enter Tryd.func31,Tryd.ntmps31
   go_wp2_with (go_at_call 45;refine cV.mono ?_;rintro e w1 ⟨rfl,hb1⟩)
   have hz1:w.heap.size≤w1.heap.size:=hb1.size
   go_loopg [4] k (fun kq v wr => ∃ (pos:Nat) (b:List Int),Aside0 (text_Encode.l0 kq a0 pos b=some (r1,r2))∧Aside0 (kq≤k)∧Aside0 (Kd.R (Kd.int .u8) 5 wr w.heap.size (fun _ => True) v b)∧Aside0 (wr.heap[w1.heap.size + 1]?=some (.stringIter a0 pos))∧Aside0 (Below w.heap.size w wr))
   case atStart =>
    refine ⟨0,[],H0,⟨Nat.le_refl _⟩,⟨R_mk w w1 hz1 a0⟩,⟨?_⟩,⟨below_then hb1 hz1 (((Below.refl _ w1).alloc (Nat.le_refl _) _).alloc (by simp) _)⟩⟩
    have:=World.iter_heap (w1.alloc (.cells #[] 5)) a0 0
    simpa using this
   case round =>
    obtain ⟨pos,b,HA,HK,HR,HI,HB⟩:=hrel
    cases gk with
    | zero => exact absurd HA.out (by simp [text_Encode.l0])
    | succ k1 =>
    have hlt:w1.heap.size + 1 < wr.heap.size:=(Array.getElem?_eq_some_iff.1 HI.out).1
    have H:=HA.out
    clear HA
    simp only [text_Encode.l0] at H
    by_cases hp:pos < a0.size
    ·rw [if_pos hp] at H
     replace H:=Option.bind_eq_some_iff.mp H
     obtain ⟨b1,h1,H⟩:=H
     have H':=Aside0.mk H
     clear H
     unfold text_Encode.one at h1
     replace h1:=Option.bind_eq_some_iff.mp h1
     obtain ⟨⟨t1,t2⟩,hsp,h1⟩:=h1
     have HS:=Aside0.mk hsp
     clear hsp
     have hnx:∀ ty,(Instr.next (.pointer (some ⟨w1.heap.size + 1,0,none⟩)) true ty).run Tryd.prog wr=_:=fun ty => Lib.run_next_any_at wr (w1.heap.size + 1) a0 pos ty HI.out hp
     have hz:w.heap.size≤wr.heap.size:=HB.out.size
     by_cases hc:t1=0
     ·rw [if_pos hc] at h1
      have hc0:(t1 != 0)=false:=bne_eq_false_iff_eq.mpr hc
      clear hc
      have H1:=Aside0.mk h1
      clear h1
      go_wp2_with fail
      refine (text_split.calls _ t1 t2 _ HS.out).mono ?_
      rintro e w' ⟨rfl,⟨⟨nd,rfl⟩⟩⟩
      go_wp2_with fail
      refine (text_unit.calls k1 (fun j => j ≠ w1.heap.size + 1) _ b t2 b1 w _ ?side1 ?side2 H1.out).mono ?_
      case side1 => exact pw_below_drewN (Lib.below_iterAt HB.out (by omega) _ _) _
      case side2 => exact R_noIter (Kd.R_drewN (R_iterAt HR.out HI.out _) _) (Lib.iterAt_heap _ _ _ _ _ HI.out)
      rintro e w2 ⟨v1,rfl,ho,hb2,hk2⟩
      have hi2:w2.heap[w1.heap.size + 1]?=some (.stringIter a0 (pos + (Utf8.decode a0 pos).2)):=(hk2.2 _ (by simpa [Lib.iterAt_size] using hlt) (by simp)).trans (Lib.iterAt_heap _ _ _ _ _ HI.out)
      go_wp2
      go_roundg k1
      case measure => have:=HK.out;omega
      case rel => exact ⟨_,b1,H',⟨by have:=HK.out;omega⟩,⟨Kd.R_mono ho (fun _ _ => trivial)⟩,⟨hi2⟩,⟨hb2⟩⟩
     ·rw [if_neg hc] at h1
      replace h1:=Option.bind_eq_some_iff.mp h1
      obtain ⟨b2,h2,h1⟩:=h1
      have hc0:(t1 != 0)=true:=bne_iff_ne.mpr hc
      clear hc
      have H1:=Aside0.mk h1
      have H2:=Aside0.mk h2
      clear h1 h2
      go_wp2_with fail
      refine (text_split.calls _ t1 t2 _ HS.out).mono ?_
      rintro e w' ⟨rfl,⟨⟨nd,rfl⟩⟩⟩
      go_wp2_with fail
      refine (text_unit.calls k1 (fun j => j ≠ w1.heap.size + 1) _ b t1 b2 w _ ?side1 ?side2 H2.out).mono ?_
      case side1 => exact pw_below_drewN (Lib.below_iterAt HB.out (by omega) _ _) _
      case side2 => exact R_noIter (Kd.R_drewN (R_iterAt HR.out HI.out _) _) (Lib.iterAt_heap _ _ _ _ _ HI.out)
      rintro e w2 ⟨v1,rfl,ho,hb2,hk2⟩
      have hi2:=Aside0.mk (show w2.heap[w1.heap.size + 1]?=some (.stringIter a0 (pos + (Utf8.decode a0 pos).2)) from (hk2.2 _ (by simpa [Lib.iterAt_size] using hlt) (by simp)).trans (Lib.iterAt_heap _ _ _ _ _ HI.out))
      have ho2:=Aside0.mk ho
      clear hk2 ho
      go_wp2_with fail
      refine (text_unit.calls k1 (fun j => j ≠ w1.heap.size + 1) _ b2 t2 b1 w _ ?side1 ?side2 H1.out).mono ?_
      case side1 => exact hb2
      case side2 => exact R_noIter ho2.out hi2.out
      rintro e w3 ⟨v2,rfl,ho,hb3,hk3⟩
      have hi3:=(hk3.2 _ (Array.getElem?_eq_some_iff.1 hi2.out).1 (by simp)).trans hi2.out
      go_wp2
      go_roundg k1
      case measure => have:=HK.out;omega
      case rel => exact ⟨_,b1,H',⟨by have:=HK.out;omega⟩,⟨Kd.R_mono ho (fun _ _ => trivial)⟩,⟨hi3⟩,⟨hb3⟩⟩
    ·rw [if_neg hp] at H
     simp only [Option.some.injEq,Prod.mk.injEq] at H
     obtain ⟨rfl,rfl⟩:=H
     have hnx:∀ ty,(Instr.next (.pointer (some ⟨w1.heap.size + 1,0,none⟩)) true ty).run Tryd.prog wr=_:=fun ty => Lib.run_next_end_at wr (w1.heap.size + 1) a0 pos ty HI.out hp
     go_wp2
     go_ret2
     exact ⟨_,rfl,HR.out,HB.out⟩
  ·rw [if_neg hv] at h
   have hv':Lib.validD a0.data.toList=false:=by simpa using hv
   rw [hv'] at cV
   simp only [Option.some.injEq,Prod.mk.injEq] at h
   obtain ⟨rfl,rfl⟩:=h
   clear hv hv' hs
   go_enter Tryd.func31,Tryd.ntmps31
   go_wp2_with (go_at_call 45;refine cV.mono ?_;rintro e w1 ⟨rfl,hb1⟩)
   go_ret2
   exact ⟨_,rfl,Kd.R_nil _ _ _ _ _,hb1⟩
 ·rw [if_neg hs] at h
  exact absurd h (by simp)
end Go.Proofs.YtmloaijagkebpaaDoor.Px
namespace Go.Proofs.YtmloaijagkebpaaDoor.Px
open Go.RowKit Go.Proofs.YtmloaijagkebpaaDoorW.PrintWords Go.Proofs.YtmloaijagkebpaaDoorW.PrintLast Go.Proofs.YtmloaijagkebpaaDoorW.PrintMore
attribute [local go_sem] max2_int min2_int max_two min_two max_three min_three max_four min_four
set_option linter.unusedVariables false
set_option linter.unusedSimpArgs false
mutual
def pool_leads.j0:Nat→List (S60)→Int→Bool→Int→ByteArray→Int→Int→Int→Option (Bool)
 | 0,_,_,_,_,_,_,_,_ => none
 | k + 1,x0,x6,x7,x121000,x121001,x121002,x121003,x121004 => if x7=true then (some true) else (if x6=3 then (some ((wrap64 (wrap32 (x121002)))==x121002)) else (if x6=7 then ((pool_is.f x0 x121003 1).bind fun t121 => (some t121)) else (if x6=12 then ((pool_is.f x0 x121003 1).bind fun t122 => (if t122=true then ((pool_is.f x0 x121004 1).bind fun t123 => (some t123)) else (some false))) else (if x6=9 then (pool_leads.j1 k x0 (x6==9) x121000 x121001 x121002 x121003 x121004) else (pool_leads.j1 k x0 (x6==10) x121000 x121001 x121002 x121003 x121004)))))
def pool_leads.j1:Nat→List (S60)→Bool→Int→ByteArray→Int→Int→Int→Option (Bool)
 | 0,_,_,_,_,_,_,_ => none
 | k + 1,x0,x37,x121000,x121001,x121002,x121003,x121004 => if x37=true then ((pool_is.f x0 x121003 7).bind fun t124 => (if t124=true then ((pool_is.f x0 x121004 12).bind fun t125 => (some t125)) else (some false))) else (some false)
end
def pool_leads.f (k:Nat) (l0:List (S60)) (a1_0:Int) (a1_1:ByteArray) (a1_2:Int) (a1_3:Int) (a1_4:Int):Option (Bool):=if a1_0=1 then (pool_leads.j0 k l0 a1_0 (a1_0==1) a1_0 a1_1 a1_2 a1_3 a1_4) else (pool_leads.j0 k l0 a1_0 (a1_0==5) a1_0 a1_1 a1_2 a1_3 a1_4)
theorem pool_leads.mono_l:∀ k,(∀ y0 y1 y2 y3 y4 y5 y6 y7,LeO (pool_leads.j0 k y0 y1 y2 y3 y4 y5 y6 y7) (pool_leads.j0 (k + 1) y0 y1 y2 y3 y4 y5 y6 y7))∧(∀ y0 y1 y2 y3 y4 y5 y6,LeO (pool_leads.j1 k y0 y1 y2 y3 y4 y5 y6) (pool_leads.j1 (k + 1) y0 y1 y2 y3 y4 y5 y6))
 | 0 => ⟨fun _ _ _ _ _ _ _ _ r h => by simp [pool_leads.j0] at h,fun _ _ _ _ _ _ _ r h => by simp [pool_leads.j1] at h⟩
 | k + 1 => by
  obtain ⟨ih0,ih1⟩:=pool_leads.mono_l k
  refine ⟨?_,?_⟩
  ·intro y0 y1 y2 y3 y4 y5 y6 y7
   unfold pool_leads.j0
   repeat' first
   | (with_reducible exact ih0 _ _ _ _ _ _ _ _)
   | (with_reducible exact ih1 _ _ _ _ _ _ _)
   | (with_reducible exact LeO.refl _)
   | (with_reducible exact LeO.none _)
   | (with_reducible refine LeO.ite ?_ ?_)
   | (with_reducible refine LeO.bind ?_ (fun _ => ?_))
   | exact ih0 _ _ _ _ _ _ _ _
   | exact ih1 _ _ _ _ _ _ _
   | exact LeO.none _
   | refine LeO.ite ?_ ?_
   | refine LeO.bind ?_ (fun _ => ?_)
  ·intro y0 y1 y2 y3 y4 y5 y6
   unfold pool_leads.j1
   repeat' first
   | (with_reducible exact ih0 _ _ _ _ _ _ _ _)
   | (with_reducible exact ih1 _ _ _ _ _ _ _)
   | (with_reducible exact LeO.refl _)
   | (with_reducible exact LeO.none _)
   | (with_reducible refine LeO.ite ?_ ?_)
   | (with_reducible refine LeO.bind ?_ (fun _ => ?_))
   | exact ih0 _ _ _ _ _ _ _ _
   | exact ih1 _ _ _ _ _ _ _
   | exact LeO.none _
   | refine LeO.ite ?_ ?_
   | refine LeO.bind ?_ (fun _ => ?_)
theorem pool_leads.mono:∀ a0 a1 a2 a3 a4 a5 k,LeO (pool_leads.f k a0 a1 a2 a3 a4 a5) (pool_leads.f (k + 1) a0 a1 a2 a3 a4 a5):=by
 intro a0 a1 a2 a3 a4 a5 k
 obtain ⟨ih0,ih1⟩:=pool_leads.mono_l k
 unfold pool_leads.f
 repeat' first
   | (with_reducible exact ih0 _ _ _ _ _ _ _ _)
   | (with_reducible exact ih1 _ _ _ _ _ _ _)
   | (with_reducible exact LeO.refl _)
   | (with_reducible exact LeO.none _)
   | (with_reducible refine LeO.ite ?_ ?_)
   | (with_reducible refine LeO.bind ?_ (fun _ => ?_))
   | exact ih0 _ _ _ _ _ _ _ _
   | exact ih1 _ _ _ _ _ _ _
   | exact LeO.none _
   | refine LeO.ite ?_ ?_
   | refine LeO.bind ?_ (fun _ => ?_)
set_option maxHeartbeats 80000000 in
set_option maxRecDepth 100000 in
theorem pool_leads.calls (k:Nat) (A0:Option Addr) (c0:Nat) (l0:List (S60)) (a1_0:Int) (a1_1:ByteArray) (a1_2:Int) (a1_3:Int) (a1_4:Int) (r:Bool) (w:World) (hr0:Kd.C k60 w A0 l0.length l0) (hc0:l0.length≤c0) (h:pool_leads.f k l0 a1_0 a1_1 a1_2 a1_3 a1_4=some r) :
  Calls Tryd.prog 60 #[.slice A0 l0.length c0,.agg #[.int .i64 a1_0,.string a1_1,.int .i64 a1_2,.int .i64 a1_3,.int .i64 a1_4]] w fun e w' => e=.returned (.bool r)∧Below w.heap.size w w':=by
 have hu60:=Tryd.underlying60
 have HR0:=Aside0.mk hr0
 have HC0:=Aside0.mk hc0
 clear hr0 hc0
 have HB:=Aside0.mk (Below.refl w.heap.size w)
 have H:(if a1_0=1 then (pool_leads.j0 k l0 a1_0 (a1_0==1) a1_0 a1_1 a1_2 a1_3 a1_4) else (pool_leads.j0 k l0 a1_0 (a1_0==5) a1_0 a1_1 a1_2 a1_3 a1_4))=some r:=h
 clear h
 have HC3:=Aside0.mk H
 clear H
 go_enter Tryd.func60,Tryd.ntmps60
 go_upto_if 7 with (first|((with_reducible refine gate_dst (N:=3) rfl ?_);refine box_event ?hg (N:=3) ?hd (cs:=#[.int .i64 a1_0,.string a1_1,.int .i64 a1_2,.int .i64 a1_3,.int .i64 a1_4]) (t:=60) ?hr ?_;(case hd => rfl);(case hg => rfl);(case hr => first|(go_simp;done)|(go_simp;rfl));intro gb120 hg w4 hbox hb;have n0_:=Aside0.mk (below_step bl_ hb);have n1_:=Aside0.mk (hbox);have n2_:=Aside0.mk ((by rw [hg];exact (below_size bl_):w.heap.size≤gb120));have n3_:=Aside0.mk ((by rw [hg];exact (below_size bl_):w.heap.size≤gb120));clear HB;have HB:=n0_;have BK120:=n1_;have GW120:=n2_;have GE120:=n3_;clear n0_ n1_ n2_ n3_;clear hb hbox hg;obtain ⟨hcz5_0,hcz5_1,hcz5_2,hcz5_3,hcz5_4⟩:=blc5_ BK120.out;have hfz5_0:=blk_frozen BK120.out 0;have hfz5_1:=blk_frozen BK120.out 1;have hfz5_2:=blk_frozen BK120.out 2;have hfz5_3:=blk_frozen BK120.out 3;have hfz5_4:=blk_frozen BK120.out 4))
 (try simp only [Act.put,List.setIfInBounds_toArray,List.set_cons_zero,List.set_cons_succ])
 go_cut [7] (fun v7 wc => ∃ (kq:Nat) (x7_2:Bool),v7=.bool x7_2∧Aside0 (pool_leads.j0 kq l0 a1_0 x7_2 a1_0 a1_1 a1_2 a1_3 a1_4=some r)∧Aside0 (kq≤k)∧Aside0 (wc.heap[gb120]?=some (.cells #[.int .i64 a1_0,.string a1_1,.int .i64 a1_2,.int .i64 a1_3,.int .i64 a1_4] 60 (0,0)))∧Aside0 (Below w.heap.size w wc))
 case first =>
  have H:=HC3.out
  clear HC3
  by_cases c6:a1_0=1
  ·rw [if_pos c6] at H
   have c6b0:(a1_0==1)=true:=beq_iff_eq.mpr c6
   have c6b1:(a1_0 != 1)=false:=bne_eq_false_iff_eq.mpr c6
   clear c6
   (first|rw [c6b0]|(simp only [i64_w,i32_w];rw [c6b0])|skip)
   have H':=Aside0.mk H
   clear H
   go_wp2
   go_meet
   case rel => exact ⟨_,((a1_0==1)),r3_,H',⟨by first|omega|exact Nat.le_refl _⟩,⟨bk_⟩,⟨bl_⟩⟩
  ·rw [if_neg c6] at H
   have c6b0:(a1_0==1)=false:=beq_eq_false_iff_ne.mpr c6
   have c6b1:(a1_0 != 1)=true:=bne_iff_ne.mpr c6
   (first|rw [c6b0]|(simp only [i64_w,i32_w];rw [c6b0])|skip)
   have H':=Aside0.mk H
   clear H
   go_wp2
   go_meet
   case rel => exact ⟨_,((a1_0==5)),r3_,H',⟨by first|omega|exact Nat.le_refl _⟩,⟨bk_⟩,⟨bl_⟩⟩
 case rest =>
  clear HC3
  try clear hcz5_0;try clear hcz5_1;try clear hcz5_2;try clear hcz5_3;try clear hcz5_4;try clear hfz5_0;try clear hfz5_1;try clear hfz5_2;try clear hfz5_3;try clear hfz5_4
  obtain ⟨kq,x7_2,rfl,HA,HJ2,BK120,HB⟩:=hcut
  cases kq with
  | zero => exact absurd HA.out (by simp [pool_leads.j0])
  | succ kj2 =>
   have H:=HA.out
   clear HA
   simp only [pool_leads.j0] at H
   by_cases c7:x7_2=true
   ·subst c7
    rw [if_pos rfl] at H
    obtain rfl:=Option.some.inj H
    go_wp2
    go_ret
    exact ⟨ew_,bl_⟩
   ·replace c7:=Bool.eq_false_iff.mpr c7
    subst c7
    rw [if_neg (show ¬ (false=true) by decide)] at H
    by_cases c8:a1_0=3
    ·rw [if_pos c8] at H
     have c8b0:(a1_0==3)=true:=beq_iff_eq.mpr c8
     have c8b1:(a1_0 != 3)=false:=bne_eq_false_iff_eq.mpr c8
     clear c8
     obtain rfl:=Option.some.inj H
     obtain ⟨hcz9_0,hcz9_1,hcz9_2,hcz9_3,hcz9_4,hfz9_0,hfz9_1,hfz9_2,hfz9_3,hfz9_4⟩:=blk5_ BK120.out
     go_wp2
     go_ret
     exact ⟨ew_,bl_⟩
    ·rw [if_neg c8] at H
     have c8b0:(a1_0==3)=false:=beq_eq_false_iff_ne.mpr c8
     have c8b1:(a1_0 != 3)=true:=bne_iff_ne.mpr c8
     by_cases c10:a1_0=7
     ·rw [if_pos c10] at H
      have c10b0:(a1_0==7)=true:=beq_iff_eq.mpr c10
      have c10b1:(a1_0 != 7)=false:=bne_eq_false_iff_eq.mpr c10
      clear c10
      replace H:=Option.bind_eq_some_iff.mp H
      obtain ⟨t121,A110,H⟩:=H
      try dsimp only at H
      have A11:=Aside0.mk A110
      clear A110
      obtain rfl:=Option.some.inj H
      obtain ⟨hcz12_0,hcz12_1,hcz12_2,hcz12_3,hcz12_4,hfz12_0,hfz12_1,hfz12_2,hfz12_3,hfz12_4⟩:=blk5_ BK120.out
      go_wp2_with (first|(refine callA_ (f:=49) (some 24) Tryd.func49 #[.slice A0 l0.length c0,.int .i64 a1_3,.int .i64 1] ?_;(with_reducible refine (pool_is.calls _ _ l0 a1_3 1 t121 _ ?side1 ?side2 A11.out).mono ?_);(case side1 => exact kc_ (Kd.C_below HR0.out HB.out));(case side2 => exact HC0.out);rintro e w' ⟨rfl,⟨nd,rfl⟩⟩;refine ⟨_,rfl,?_⟩))
      go_ret
      exact ⟨ew_,bl_⟩
     ·rw [if_neg c10] at H
      have c10b0:(a1_0==7)=false:=beq_eq_false_iff_ne.mpr c10
      have c10b1:(a1_0 != 7)=true:=bne_iff_ne.mpr c10
      by_cases c13:a1_0=12
      ·rw [if_pos c13] at H
       have c13b0:(a1_0==12)=true:=beq_iff_eq.mpr c13
       have c13b1:(a1_0 != 12)=false:=bne_eq_false_iff_eq.mpr c13
       clear c13
       replace H:=Option.bind_eq_some_iff.mp H
       obtain ⟨t122,A140,H⟩:=H
       try dsimp only at H
       have A14:=Aside0.mk A140
       clear A140
       by_cases c15:t122=true
       ·subst c15
        rw [if_pos rfl] at H
        replace H:=Option.bind_eq_some_iff.mp H
        obtain ⟨t123,A160,H⟩:=H
        try dsimp only at H
        have A16:=Aside0.mk A160
        clear A160
        obtain rfl:=Option.some.inj H
        obtain ⟨hcz17_0,hcz17_1,hcz17_2,hcz17_3,hcz17_4,hfz17_0,hfz17_1,hfz17_2,hfz17_3,hfz17_4⟩:=blk5_ BK120.out
        go_wp2_with (first|(refine callA_ (f:=49) (some 30) Tryd.func49 #[.slice A0 l0.length c0,.int .i64 a1_3,.int .i64 1] ?_;(with_reducible refine (pool_is.calls _ _ l0 a1_3 1 true _ ?side1 ?side2 A14.out).mono ?_);(case side1 => exact kc_ (Kd.C_below HR0.out HB.out));(case side2 => exact HC0.out);rintro e w' ⟨rfl,⟨nd,rfl⟩⟩;refine ⟨_,rfl,?_⟩)|(go_at_call 49;(with_reducible refine (pool_is.calls _ _ l0 a1_4 1 t123 _ ?side1 ?side2 A16.out).mono ?_);(case side1 => exact kc_ (Kd.C_below HR0.out bl_));(case side2 => exact HC0.out);rintro e w' ⟨rfl,⟨nd,rfl⟩⟩))
        go_ret
        exact ⟨ew_,bl_⟩
       ·replace c15:=Bool.eq_false_iff.mpr c15
        subst c15
        rw [if_neg (show ¬ (false=true) by decide)] at H
        obtain rfl:=Option.some.inj H
        obtain ⟨hcz18_0,hcz18_1,hcz18_2,hcz18_3,hcz18_4,hfz18_0,hfz18_1,hfz18_2,hfz18_3,hfz18_4⟩:=blk5_ BK120.out
        go_wp2_with (first|(refine callA_ (f:=49) (some 30) Tryd.func49 #[.slice A0 l0.length c0,.int .i64 a1_3,.int .i64 1] ?_;(with_reducible refine (pool_is.calls _ _ l0 a1_3 1 false _ ?side1 ?side2 A14.out).mono ?_);(case side1 => exact kc_ (Kd.C_below HR0.out HB.out));(case side2 => exact HC0.out);rintro e w' ⟨rfl,⟨nd,rfl⟩⟩;refine ⟨_,rfl,?_⟩))
        go_ret
        exact ⟨ew_,bl_⟩
      ·rw [if_neg c13] at H
       have c13b0:(a1_0==12)=false:=beq_eq_false_iff_ne.mpr c13
       have c13b1:(a1_0 != 12)=true:=bne_iff_ne.mpr c13
       have HC19:=Aside0.mk H
       clear H
       go_upto_if 37 with (fail)
       go_cut [37] (fun v37 wc => ∃ (kq:Nat) (x37_18:Bool),v37=.bool x37_18∧Aside0 (pool_leads.j1 kq l0 x37_18 a1_0 a1_1 a1_2 a1_3 a1_4=some r)∧Aside0 (kq≤kj2)∧Aside0 (wc.heap[gb120]?=some (.cells #[.int .i64 a1_0,.string a1_1,.int .i64 a1_2,.int .i64 a1_3,.int .i64 a1_4] 60 (0,0)))∧Aside0 (Below w.heap.size w wc))
       case first =>
        have H:=HC19.out
        clear HC19
        by_cases c20:a1_0=9
        ·rw [if_pos c20] at H
         have c20b0:(a1_0==9)=true:=beq_iff_eq.mpr c20
         have c20b1:(a1_0 != 9)=false:=bne_eq_false_iff_eq.mpr c20
         clear c20
         (first|rw [c20b0]|(simp only [i64_w,i32_w];rw [c20b0])|skip)
         have H':=Aside0.mk H
         clear H
         go_wp2
         go_meet
         case rel => exact ⟨_,((a1_0==9)),r3_,H',⟨by have:=HJ2.out;first|omega|exact Nat.le_refl _⟩,⟨bk_⟩,⟨bl_⟩⟩
        ·rw [if_neg c20] at H
         have c20b0:(a1_0==9)=false:=beq_eq_false_iff_ne.mpr c20
         have c20b1:(a1_0 != 9)=true:=bne_iff_ne.mpr c20
         (first|rw [c20b0]|(simp only [i64_w,i32_w];rw [c20b0])|skip)
         have H':=Aside0.mk H
         clear H
         go_wp2
         go_meet
         case rel => exact ⟨_,((a1_0==10)),r3_,H',⟨by have:=HJ2.out;first|omega|exact Nat.le_refl _⟩,⟨bk_⟩,⟨bl_⟩⟩
       case rest =>
        clear HC19
        try clear c7;try clear c8;try clear c8b0;try clear c8b1;try clear c10;try clear c10b0;try clear c10b1;try clear c13;try clear c13b0;try clear c13b1
        obtain ⟨kq,x37_18,rfl,HA,HJ18,BK120,HB⟩:=hcut
        cases kq with
        | zero => exact absurd HA.out (by simp [pool_leads.j1])
        | succ kj18 =>
         have H:=HA.out
         clear HA
         simp only [pool_leads.j1] at H
         by_cases c21:x37_18=true
         ·subst c21
          rw [if_pos rfl] at H
          replace H:=Option.bind_eq_some_iff.mp H
          obtain ⟨t124,A220,H⟩:=H
          try dsimp only at H
          have A22:=Aside0.mk A220
          clear A220
          by_cases c23:t124=true
          ·subst c23
           rw [if_pos rfl] at H
           replace H:=Option.bind_eq_some_iff.mp H
           obtain ⟨t125,A240,H⟩:=H
           try dsimp only at H
           have A24:=Aside0.mk A240
           clear A240
           obtain rfl:=Option.some.inj H
           obtain ⟨hcz25_0,hcz25_1,hcz25_2,hcz25_3,hcz25_4,hfz25_0,hfz25_1,hfz25_2,hfz25_3,hfz25_4⟩:=blk5_ BK120.out
           go_wp2_with (first|(refine callA_ (f:=49) (some 43) Tryd.func49 #[.slice A0 l0.length c0,.int .i64 a1_3,.int .i64 7] ?_;(with_reducible refine (pool_is.calls _ _ l0 a1_3 7 true _ ?side1 ?side2 A22.out).mono ?_);(case side1 => exact kc_ (Kd.C_below HR0.out HB.out));(case side2 => exact HC0.out);rintro e w' ⟨rfl,⟨nd,rfl⟩⟩;refine ⟨_,rfl,?_⟩)|(go_at_call 49;(with_reducible refine (pool_is.calls _ _ l0 a1_4 12 t125 _ ?side1 ?side2 A24.out).mono ?_);(case side1 => exact kc_ (Kd.C_below HR0.out bl_));(case side2 => exact HC0.out);rintro e w' ⟨rfl,⟨nd,rfl⟩⟩))
           go_ret
           exact ⟨ew_,bl_⟩
          ·replace c23:=Bool.eq_false_iff.mpr c23
           subst c23
           rw [if_neg (show ¬ (false=true) by decide)] at H
           obtain rfl:=Option.some.inj H
           obtain ⟨hcz26_0,hcz26_1,hcz26_2,hcz26_3,hcz26_4,hfz26_0,hfz26_1,hfz26_2,hfz26_3,hfz26_4⟩:=blk5_ BK120.out
           go_wp2_with (first|(refine callA_ (f:=49) (some 43) Tryd.func49 #[.slice A0 l0.length c0,.int .i64 a1_3,.int .i64 7] ?_;(with_reducible refine (pool_is.calls _ _ l0 a1_3 7 false _ ?side1 ?side2 A22.out).mono ?_);(case side1 => exact kc_ (Kd.C_below HR0.out HB.out));(case side2 => exact HC0.out);rintro e w' ⟨rfl,⟨nd,rfl⟩⟩;refine ⟨_,rfl,?_⟩))
           go_ret
           exact ⟨ew_,bl_⟩
         ·replace c21:=Bool.eq_false_iff.mpr c21
          subst c21
          rw [if_neg (show ¬ (false=true) by decide)] at H
          obtain rfl:=Option.some.inj H
          go_wp2
          go_ret
          exact ⟨ew_,bl_⟩
end Go.Proofs.YtmloaijagkebpaaDoor.Px
