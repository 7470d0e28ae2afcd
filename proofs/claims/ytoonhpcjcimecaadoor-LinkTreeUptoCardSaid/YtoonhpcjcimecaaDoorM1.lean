/- What the bound on bulk gives. -/
/- What the package-level variables hold, as a fact of the world that stays as the world grows: unicode/utf8's tables; errors.errorType, the handle of 'error'; internal/bytealg.MaxLen holds some int. -/
/- Small laws for the rows: what the bound on bulk gives; a slice of whole numbers, as the walks want it; what the listed tables and errors.errorType give. -/
/- What a type's reading as data gives of a value: a value of the printed kinds, well formed, no bulkier than the datum. -/
/- What the struct types' readings give (by rowgen.py). -/
/- link: kinds of what a program's entries hold; an element's cell set; where a program stands. -/
/- link.Program: what is told of a program that is made: none, has, Len, Name, Super, Find. -/
/- link.Program.Sub: is a class below another one? -/
/- Byte arrays as lists: small laws for the plain laws. -/
/- strings.Cut: what it computes, by the shelf's contract. -/
/- Plain law of descriptors: what a descriptor's beginning is ('kFieldV'), and that the program's and the reference's Field both come to it. -/
/- errors.As at the target that pool.Check hands it: the worked example toyas, turned to this program. -/
import Derived.Test.YtoonhpcjcimecaaDoorRows
import Derived.Test.YtoonhpcjcimecaaDoorProg
import Derived.Below
import Derived.Deep.Draws
import Derived.Deep.AppendLies
import Derived.Maps.AppendAt
import Derived.OwnWalk
import Derived.Laws.BytesArg
import Derived.Laws.MakeOwn
import Derived.Laws.OwnMore
import Derived.Deep.OwnRows
import Derived.Tactics
import Derived.Lib.ConvBytes
import Derived.Laws.Slices
import Derived.WalkKit
import Derived.KernelRfl
import Derived.RowKit3
import Derived.Deep.LoopGhost
import Derived.Deep.QuietTactic
import Derived.BigQuiet
import Derived.WideLaws
import Derived.Deep.DeepCutAuto
import Derived.Deep.CutBlock
import Derived.Deep.RegionHeld3
import Derived.Laws.Rows
import Derived.Lib.AppendStr
import Derived.ArgAppend
import Derived.Laws.IdiomCopy
import Derived.OrdersHeld
import Derived.Laws.BitsLemmas
import Derived.RowKit
import Derived.Test.YtoonhpcjcimecaaDoorWWords
import Derived.Test.YtoonhpcjcimecaaDoorWLast
import Derived.Test.YtoonhpcjcimecaaDoorWTab
import Derived.Test.YtoonhpcjcimecaaDoorWFour
import Derived.Test.YtoonhpcjcimecaaDoorWQPut
import Derived.Test.YtoonhpcjcimecaaDoorWApart
import Derived.Test.YtoonhpcjcimecaaDoorWArr
import Derived.Test.YtoonhpcjcimecaaDoorWZeros
import Derived.Test.YtoonhpcjcimecaaDoorWFoot
import Derived.Test.YtoonhpcjcimecaaDoorWKept
import Derived.Test.YtoonhpcjcimecaaDoorWShare
import Derived.Test.YtoonhpcjcimecaaDoorWN
import Derived.Test.YtoonhpcjcimecaaDoorWFootNe
import Derived.Test.YtoonhpcjcimecaaDoorWAt
import Derived.Test.YtoonhpcjcimecaaDoorWEqStruct
import Derived.Test.YtoonhpcjcimecaaDoorWRepsOne
import Derived.Test.YtoonhpcjcimecaaDoorWInv
import Derived.Test.YtoonhpcjcimecaaDoorWInvWords
import Derived.Test.YtoonhpcjcimecaaDoorWGuard
import Derived.Test.YtoonhpcjcimecaaDoorWNEv
import Derived.Test.YtoonhpcjcimecaaDoorWMore
import Derived.Test.YtoonhpcjcimecaaDoorShelf
import Derived.Shelf.Unicode.DecodeSlow
import Derived.Lib.ValidU
import Derived.Test.YtoonhpcjcimecaaDoorWSized
import Derived.ProofKit
import Derived.OpenShut
import Derived.ShutString
import Derived.Lib.LaidU8T
import Derived.Lib.LaidIn
import Derived.PinnedBridge
import Derived.MakeChecks
import Derived.LaidSub
import Derived.LaidHandle
import Derived.ChangeArms
import Derived.ChangeOld
import Derived.Maps.OwnSet
import Derived.Maps.OwnOps
import Derived.StringKeys
import Derived.Lib.IndexBytes
import Derived.Lib.IndexMore
import Derived.Lib.Strings
import Derived.LaidEql
import Derived.Stop.Asserts
import Derived.RowKitTokens
namespace Go.Proofs.YtoonhpcjcimecaaDoor.Px
set_option linter.unusedVariables false
theorem bulk_one {H : Type} (d : DataW H) : 1 ≤ Rows.uptoBulk d := by
  cases d with
  | lit l => cases l <;> simp [Rows.uptoBulk]
  | nil => simp [Rows.uptoBulk]
  | ptr d => simp [Rows.uptoBulk]
  | slice elems spare => simp [Rows.uptoBulk]
  | agg parts => simp [Rows.uptoBulk]
  | iface t d => simp [Rows.uptoBulk]
  | map entries => simp [Rows.uptoBulk]
  | held h => simp [Rows.uptoBulk]
theorem bulk_part_le {H : Type} {d : DataW H} {l : List (DataW H)} (h : d ∈ l) : Rows.uptoBulk d ≤ Rows.uptoBulkAll l := by
  induction l with
  | nil => cases h
  | cons x r ih =>
    simp only [Rows.uptoBulkAll]
    rcases List.mem_cons.1 h with e | e
    · subst e; omega
    · have := ih e; omega
theorem bulk_length {H : Type} (l : List (DataW H)) : l.length ≤ Rows.uptoBulkAll l := by
  induction l with
  | nil => simp [Rows.uptoBulkAll]
  | cons x r ih => have := bulk_one x; simp only [Rows.uptoBulkAll, List.length_cons]; omega
theorem bulk_part {H : Type} {ds gs : List (DataW H)} {d : DataW H} (hk : Rows.uptoSmall H (ds ++ gs) = true) (hm : d ∈ ds) : Rows.uptoBulk d ≤ 1048576 := by
  have h : Rows.uptoBulkAll (ds ++ gs) ≤ 1048576 := of_decide_eq_true hk
  exact Nat.le_trans (bulk_part_le (List.mem_append_left _ hm)) h
end Go.Proofs.YtoonhpcjcimecaaDoor.Px
namespace Go.Proofs.YtoonhpcjcimecaaDoor.Px
open Go.RowKit Go.Proofs.YtoonhpcjcimecaaDoorW.PrintWords Go.Proofs.YtoonhpcjcimecaaDoorW.PrintLast Go.Proofs.YtoonhpcjcimecaaDoorW.PrintMore
attribute [local go_sem] max2_int min2_int max_two min_two max_three min_three max_four min_four
set_option linter.unusedVariables false
set_option linter.unusedSimpArgs false
def errW:Option Int→Value
 | none => .nilIface
 | some c => .iface 0 (.int .i64 c)
theorem errW_none:errW none=.nilIface:=rfl
theorem errW_some (c:Int):errW (some c)=.iface 0 (.int .i64 c):=rfl
theorem info5:(Tryd.prog.info? 5).map (fun i => (i.zero,i.size,i.bytes))=some (some (.int .u8 0),1,1):=by kernel_rfl
theorem info78:(Tryd.prog.info? 78).map (fun i => (i.zero,i.size,i.bytes))=some (some (.agg #[(.int .i64 0),(.string ⟨#[]⟩),(.int .i64 0),(.int .i64 0),(.int .i64 0)]),5,48):=by kernel_rfl
theorem info86:(Tryd.prog.info? 86).map (fun i => (i.zero,i.size,i.bytes))=some (some (.agg #[(.string ⟨#[]⟩),(.string ⟨#[]⟩),(.bool false)]),3,40):=by kernel_rfl
theorem info108:(Tryd.prog.info? 108).map (fun i => (i.zero,i.size,i.bytes))=some (some (.agg #[(.int .i64 0),(.string ⟨#[]⟩),(.int .i64 0),(.int .i64 0),(.int .i64 0)]),5,48):=by kernel_rfl
structure S86 where
 f0:ByteArray
 f1:ByteArray
 f2:Bool
def z86:S86:=⟨(⟨#[]⟩:ByteArray),(⟨#[]⟩:ByteArray),false⟩
def k86:Kd S86:=Kd.iso (Kd.pair Kd.string (Kd.pair Kd.string Kd.bool)) (fun x:S86 => (x.f0,x.f1,x.f2))
theorem k86_open {w:World} {x:S86} {cs:List Value} (h:k86.K w x cs):cs=[.string x.f0,.string x.f1,.bool x.f2]:=by
 obtain ⟨_,_,rfl,rfl,⟨_,_,rfl,rfl,rfl⟩⟩:=h
 exact rfl
theorem k86_mkM (w:World) (base:Nat) (ok:Nat→Prop) (x:S86) :k86.M w base ok x [.string x.f0,.string x.f1,.bool x.f2]:=⟨[.string x.f0],[.string x.f1,.bool x.f2],rfl,rfl,⟨[.string x.f1],[.bool x.f2],rfl,rfl,rfl⟩⟩
def rd_T86 (xs:List S86) (i:Int):S86:=xs.getD i.toNat z86
theorem at_T86 {w:World} {A:Option Addr} {n:Nat} {xs:List S86} (h:Kd.C k86 w A n xs) (i:Int) (h0:0≤i) (h1:i < n):∃ ad ,A=some ad∧w.cell? (ad.add (i.toNat * 3))=some (.string (rd_T86 xs i).f0)∧w.cell? ⟨(ad.add (i.toNat * 3)).block,(ad.add (i.toNat * 3)).off + 1,none⟩=some (.string (rd_T86 xs i).f1)∧w.cell? ⟨(ad.add (i.toNat * 3)).block,(ad.add (i.toNat * 3)).off + 2,none⟩=some (.bool (rd_T86 xs i).f2):=by
 obtain ⟨ad,c,e,_,hK,hc0⟩:=Kd.C_get h z86 i h0 h1
 have hc:∀ j u,c[j]?=some u→w.cell? (ad.add (i.toNat * 3 + j))=some u:=hc0
 obtain rfl:=k86_open hK
 exact ⟨ad,e,hc 0 _ rfl,by rw [← add_field _ _ 1 (by omega)];exact hc 1 _ rfl,by rw [← add_field _ _ 2 (by omega)];exact hc 2 _ rfl⟩
structure S78 where
 f0:Int
 f1:ByteArray
 f2:Int
 f3:Int
 f4:Int
def z78:S78:=⟨(0:Int),(⟨#[]⟩:ByteArray),(0:Int),(0:Int),(0:Int)⟩
def k78:Kd S78:=Kd.iso (Kd.pair (Kd.int .i64) (Kd.pair Kd.string (Kd.pair (Kd.int .i64) (Kd.pair (Kd.int .i64) (Kd.int .i64))))) (fun x:S78 => (x.f0,x.f1,x.f2,x.f3,x.f4))
theorem k78_open {w:World} {x:S78} {cs:List Value} (h:k78.K w x cs):cs=[.int .i64 x.f0,.string x.f1,.int .i64 x.f2,.int .i64 x.f3,.int .i64 x.f4]:=by
 obtain ⟨_,_,rfl,rfl,⟨_,_,rfl,rfl,⟨_,_,rfl,rfl,⟨_,_,rfl,rfl,rfl⟩⟩⟩⟩:=h
 exact rfl
theorem k78_mkM (w:World) (base:Nat) (ok:Nat→Prop) (x:S78) :k78.M w base ok x [.int .i64 x.f0,.string x.f1,.int .i64 x.f2,.int .i64 x.f3,.int .i64 x.f4]:=⟨[.int .i64 x.f0],[.string x.f1,.int .i64 x.f2,.int .i64 x.f3,.int .i64 x.f4],rfl,rfl,⟨[.string x.f1],[.int .i64 x.f2,.int .i64 x.f3,.int .i64 x.f4],rfl,rfl,⟨[.int .i64 x.f2],[.int .i64 x.f3,.int .i64 x.f4],rfl,rfl,⟨[.int .i64 x.f3],[.int .i64 x.f4],rfl,rfl,rfl⟩⟩⟩⟩
def rd_T78 (xs:List S78) (i:Int):S78:=xs.getD i.toNat z78
theorem at_T78 {w:World} {A:Option Addr} {n:Nat} {xs:List S78} (h:Kd.C k78 w A n xs) (i:Int) (h0:0≤i) (h1:i < n):∃ ad ,A=some ad∧w.cell? (ad.add (i.toNat * 5))=some (.int .i64 (rd_T78 xs i).f0)∧w.cell? ⟨(ad.add (i.toNat * 5)).block,(ad.add (i.toNat * 5)).off + 1,none⟩=some (.string (rd_T78 xs i).f1)∧w.cell? ⟨(ad.add (i.toNat * 5)).block,(ad.add (i.toNat * 5)).off + 2,none⟩=some (.int .i64 (rd_T78 xs i).f2)∧w.cell? ⟨(ad.add (i.toNat * 5)).block,(ad.add (i.toNat * 5)).off + 3,none⟩=some (.int .i64 (rd_T78 xs i).f3)∧w.cell? ⟨(ad.add (i.toNat * 5)).block,(ad.add (i.toNat * 5)).off + 4,none⟩=some (.int .i64 (rd_T78 xs i).f4):=by
 obtain ⟨ad,c,e,_,hK,hc0⟩:=Kd.C_get h z78 i h0 h1
 have hc:∀ j u,c[j]?=some u→w.cell? (ad.add (i.toNat * 5 + j))=some u:=hc0
 obtain rfl:=k78_open hK
 exact ⟨ad,e,hc 0 _ rfl,by rw [← add_field _ _ 1 (by omega)];exact hc 1 _ rfl,by rw [← add_field _ _ 2 (by omega)];exact hc 2 _ rfl,by rw [← add_field _ _ 3 (by omega)];exact hc 3 _ rfl,by rw [← add_field _ _ 4 (by omega)];exact hc 4 _ rfl⟩
structure S108 where
 f0:Int
 f1:ByteArray
 f2:Int
 f3:Int
 f4:Int
def z108:S108:=⟨(0:Int),(⟨#[]⟩:ByteArray),(0:Int),(0:Int),(0:Int)⟩
def k108:Kd S108:=Kd.iso (Kd.pair (Kd.int .i64) (Kd.pair Kd.string (Kd.pair (Kd.int .i64) (Kd.pair (Kd.int .i64) (Kd.int .i64))))) (fun x:S108 => (x.f0,x.f1,x.f2,x.f3,x.f4))
theorem k108_open {w:World} {x:S108} {cs:List Value} (h:k108.K w x cs):cs=[.int .i64 x.f0,.string x.f1,.int .i64 x.f2,.int .i64 x.f3,.int .i64 x.f4]:=by
 obtain ⟨_,_,rfl,rfl,⟨_,_,rfl,rfl,⟨_,_,rfl,rfl,⟨_,_,rfl,rfl,rfl⟩⟩⟩⟩:=h
 exact rfl
theorem k108_mkM (w:World) (base:Nat) (ok:Nat→Prop) (x:S108) :k108.M w base ok x [.int .i64 x.f0,.string x.f1,.int .i64 x.f2,.int .i64 x.f3,.int .i64 x.f4]:=⟨[.int .i64 x.f0],[.string x.f1,.int .i64 x.f2,.int .i64 x.f3,.int .i64 x.f4],rfl,rfl,⟨[.string x.f1],[.int .i64 x.f2,.int .i64 x.f3,.int .i64 x.f4],rfl,rfl,⟨[.int .i64 x.f2],[.int .i64 x.f3,.int .i64 x.f4],rfl,rfl,⟨[.int .i64 x.f3],[.int .i64 x.f4],rfl,rfl,rfl⟩⟩⟩⟩
def rd_T108 (xs:List S108) (i:Int):S108:=xs.getD i.toNat z108
theorem at_T108 {w:World} {A:Option Addr} {n:Nat} {xs:List S108} (h:Kd.C k108 w A n xs) (i:Int) (h0:0≤i) (h1:i < n):∃ ad ,A=some ad∧w.cell? (ad.add (i.toNat * 5))=some (.int .i64 (rd_T108 xs i).f0)∧w.cell? ⟨(ad.add (i.toNat * 5)).block,(ad.add (i.toNat * 5)).off + 1,none⟩=some (.string (rd_T108 xs i).f1)∧w.cell? ⟨(ad.add (i.toNat * 5)).block,(ad.add (i.toNat * 5)).off + 2,none⟩=some (.int .i64 (rd_T108 xs i).f2)∧w.cell? ⟨(ad.add (i.toNat * 5)).block,(ad.add (i.toNat * 5)).off + 3,none⟩=some (.int .i64 (rd_T108 xs i).f3)∧w.cell? ⟨(ad.add (i.toNat * 5)).block,(ad.add (i.toNat * 5)).off + 4,none⟩=some (.int .i64 (rd_T108 xs i).f4):=by
 obtain ⟨ad,c,e,_,hK,hc0⟩:=Kd.C_get h z108 i h0 h1
 have hc:∀ j u,c[j]?=some u→w.cell? (ad.add (i.toNat * 5 + j))=some u:=hc0
 obtain rfl:=k108_open hK
 exact ⟨ad,e,hc 0 _ rfl,by rw [← add_field _ _ 1 (by omega)];exact hc 1 _ rfl,by rw [← add_field _ _ 2 (by omega)];exact hc 2 _ rfl,by rw [← add_field _ _ 3 (by omega)];exact hc 3 _ rfl,by rw [← add_field _ _ 4 (by omega)];exact hc 4 _ rfl⟩
structure S120 where
 f0:Int
 f1:Int
 f2:Int
 f3:Int
def z120:S120:=⟨(0:Int),(0:Int),(0:Int),(0:Int)⟩
def k120:Kd S120:=Kd.iso (Kd.pair (Kd.int .i64) (Kd.pair (Kd.int .i64) (Kd.pair (Kd.int .i64) (Kd.int .i64)))) (fun x:S120 => (x.f0,x.f1,x.f2,x.f3))
theorem k120_open {w:World} {x:S120} {cs:List Value} (h:k120.K w x cs):cs=[.int .i64 x.f0,.int .i64 x.f1,.int .i64 x.f2,.int .i64 x.f3]:=by
 obtain ⟨_,_,rfl,rfl,⟨_,_,rfl,rfl,⟨_,_,rfl,rfl,rfl⟩⟩⟩:=h
 exact rfl
theorem k120_mkM (w:World) (base:Nat) (ok:Nat→Prop) (x:S120) :k120.M w base ok x [.int .i64 x.f0,.int .i64 x.f1,.int .i64 x.f2,.int .i64 x.f3]:=⟨[.int .i64 x.f0],[.int .i64 x.f1,.int .i64 x.f2,.int .i64 x.f3],rfl,rfl,⟨[.int .i64 x.f1],[.int .i64 x.f2,.int .i64 x.f3],rfl,rfl,⟨[.int .i64 x.f2],[.int .i64 x.f3],rfl,rfl,rfl⟩⟩⟩
def rd_T120 (xs:List S120) (i:Int):S120:=xs.getD i.toNat z120
theorem at_T120 {w:World} {A:Option Addr} {n:Nat} {xs:List S120} (h:Kd.C k120 w A n xs) (i:Int) (h0:0≤i) (h1:i < n):∃ ad ,A=some ad∧w.cell? (ad.add (i.toNat * 4))=some (.int .i64 (rd_T120 xs i).f0)∧w.cell? ⟨(ad.add (i.toNat * 4)).block,(ad.add (i.toNat * 4)).off + 1,none⟩=some (.int .i64 (rd_T120 xs i).f1)∧w.cell? ⟨(ad.add (i.toNat * 4)).block,(ad.add (i.toNat * 4)).off + 2,none⟩=some (.int .i64 (rd_T120 xs i).f2)∧w.cell? ⟨(ad.add (i.toNat * 4)).block,(ad.add (i.toNat * 4)).off + 3,none⟩=some (.int .i64 (rd_T120 xs i).f3):=by
 obtain ⟨ad,c,e,_,hK,hc0⟩:=Kd.C_get h z120 i h0 h1
 have hc:∀ j u,c[j]?=some u→w.cell? (ad.add (i.toNat * 4 + j))=some u:=hc0
 obtain rfl:=k120_open hK
 exact ⟨ad,e,hc 0 _ rfl,by rw [← add_field _ _ 1 (by omega)];exact hc 1 _ rfl,by rw [← add_field _ _ 2 (by omega)];exact hc 2 _ rfl,by rw [← add_field _ _ 3 (by omega)];exact hc 3 _ rfl⟩
structure S97 where
 f0:Int
 f1:Int
 f2:Int
 f3:Int
 f4:Int
 f5:(List Int)
 f6:(List S120)
 f7:(List Int)
def z97:S97:=⟨(0:Int),(0:Int),(0:Int),(0:Int),(0:Int),([]:List Int),([]:List S120),([]:List Int)⟩
def k97:Kd S97:=Kd.iso (Kd.pair (Kd.int .i64) (Kd.pair (Kd.int .i64) (Kd.pair (Kd.int .i64) (Kd.pair (Kd.int .i64) (Kd.pair (Kd.int .i64) (Kd.pair (Kd.slice 5 (Kd.int .u8)) (Kd.pair (Kd.slice 120 k120) (Kd.slice 5 (Kd.int .u8))))))))) (fun x:S97 => (x.f0,x.f1,x.f2,x.f3,x.f4,x.f5,x.f6,x.f7))
theorem k97_open {w:World} {x:S97} {cs:List Value} (h:k97.K w x cs):∃ A5 c5 A6 c6 A7 c7,cs=[.int .i64 x.f0,.int .i64 x.f1,.int .i64 x.f2,.int .i64 x.f3,.int .i64 x.f4,.slice A5 x.f5.length c5,.slice A6 x.f6.length c6,.slice A7 x.f7.length c7]∧x.f5.length≤c5∧(Kd.int .u8).C w A5 x.f5.length x.f5∧x.f6.length≤c6∧k120.C w A6 x.f6.length x.f6∧x.f7.length≤c7∧(Kd.int .u8).C w A7 x.f7.length x.f7:=by
 obtain ⟨_,_,rfl,rfl,⟨_,_,rfl,rfl,⟨_,_,rfl,rfl,⟨_,_,rfl,rfl,⟨_,_,rfl,rfl,⟨_,_,rfl,⟨A5,c5,rfl,l5,g5⟩,⟨_,_,rfl,⟨A6,c6,rfl,l6,g6⟩,⟨A7,c7,rfl,l7,g7⟩⟩⟩⟩⟩⟩⟩⟩:=h
 exact ⟨A5,c5,A6,c6,A7,c7,rfl,l5,g5,l6,g6,l7,g7⟩
theorem k97_mkM (w:World) (base:Nat) (ok:Nat→Prop) (x:S97) {v5:Value} (g5:(Kd.int .u8).R 5 w base ok v5 x.f5) {v6:Value} (g6:k120.R 120 w base ok v6 x.f6) {v7:Value} (g7:(Kd.int .u8).R 5 w base ok v7 x.f7):k97.M w base ok x [.int .i64 x.f0,.int .i64 x.f1,.int .i64 x.f2,.int .i64 x.f3,.int .i64 x.f4,v5,v6,v7]:=⟨[.int .i64 x.f0],[.int .i64 x.f1,.int .i64 x.f2,.int .i64 x.f3,.int .i64 x.f4,v5,v6,v7],rfl,rfl,⟨[.int .i64 x.f1],[.int .i64 x.f2,.int .i64 x.f3,.int .i64 x.f4,v5,v6,v7],rfl,rfl,⟨[.int .i64 x.f2],[.int .i64 x.f3,.int .i64 x.f4,v5,v6,v7],rfl,rfl,⟨[.int .i64 x.f3],[.int .i64 x.f4,v5,v6,v7],rfl,rfl,⟨[.int .i64 x.f4],[v5,v6,v7],rfl,rfl,⟨[v5],[v6,v7],rfl,⟨v5,rfl,g5⟩,⟨[v6],[v7],rfl,⟨v6,rfl,g6⟩,⟨v7,rfl,g7⟩⟩⟩⟩⟩⟩⟩⟩
def rd_T97 (xs:List S97) (i:Int):S97:=xs.getD i.toNat z97
theorem at_T97 {w:World} {A:Option Addr} {n:Nat} {xs:List S97} (h:Kd.C k97 w A n xs) (i:Int) (h0:0≤i) (h1:i < n):∃ ad A5 c5 A6 c6 A7 c7,A=some ad∧w.cell? (ad.add (i.toNat * 8))=some (.int .i64 (rd_T97 xs i).f0)∧w.cell? ⟨(ad.add (i.toNat * 8)).block,(ad.add (i.toNat * 8)).off + 1,none⟩=some (.int .i64 (rd_T97 xs i).f1)∧w.cell? ⟨(ad.add (i.toNat * 8)).block,(ad.add (i.toNat * 8)).off + 2,none⟩=some (.int .i64 (rd_T97 xs i).f2)∧w.cell? ⟨(ad.add (i.toNat * 8)).block,(ad.add (i.toNat * 8)).off + 3,none⟩=some (.int .i64 (rd_T97 xs i).f3)∧w.cell? ⟨(ad.add (i.toNat * 8)).block,(ad.add (i.toNat * 8)).off + 4,none⟩=some (.int .i64 (rd_T97 xs i).f4)∧w.cell? ⟨(ad.add (i.toNat * 8)).block,(ad.add (i.toNat * 8)).off + 5,none⟩=some (.slice A5 (rd_T97 xs i).f5.length c5)∧w.cell? ⟨(ad.add (i.toNat * 8)).block,(ad.add (i.toNat * 8)).off + 6,none⟩=some (.slice A6 (rd_T97 xs i).f6.length c6)∧w.cell? ⟨(ad.add (i.toNat * 8)).block,(ad.add (i.toNat * 8)).off + 7,none⟩=some (.slice A7 (rd_T97 xs i).f7.length c7)∧(rd_T97 xs i).f5.length≤c5∧(Kd.int .u8).C w A5 (rd_T97 xs i).f5.length (rd_T97 xs i).f5∧(rd_T97 xs i).f6.length≤c6∧k120.C w A6 (rd_T97 xs i).f6.length (rd_T97 xs i).f6∧(rd_T97 xs i).f7.length≤c7∧(Kd.int .u8).C w A7 (rd_T97 xs i).f7.length (rd_T97 xs i).f7:=by
 obtain ⟨ad,c,e,_,hK,hc0⟩:=Kd.C_get h z97 i h0 h1
 have hc:∀ j u,c[j]?=some u→w.cell? (ad.add (i.toNat * 8 + j))=some u:=hc0
 obtain ⟨A5,c5,A6,c6,A7,c7,rfl,l5,g5,l6,g6,l7,g7⟩:=k97_open hK
 exact ⟨ad,A5,c5,A6,c6,A7,c7,e,hc 0 _ rfl,by rw [← add_field _ _ 1 (by omega)];exact hc 1 _ rfl,by rw [← add_field _ _ 2 (by omega)];exact hc 2 _ rfl,by rw [← add_field _ _ 3 (by omega)];exact hc 3 _ rfl,by rw [← add_field _ _ 4 (by omega)];exact hc 4 _ rfl,by rw [← add_field _ _ 5 (by omega)];exact hc 5 _ rfl,by rw [← add_field _ _ 6 (by omega)];exact hc 6 _ rfl,by rw [← add_field _ _ 7 (by omega)];exact hc 7 _ rfl,l5,g5,l6,g6,l7,g7⟩
structure S102 where
 f0:Int
 f1:Int
 f2:Int
def z102:S102:=⟨(0:Int),(0:Int),(0:Int)⟩
def k102:Kd S102:=Kd.iso (Kd.pair (Kd.int .i64) (Kd.pair (Kd.int .i64) (Kd.int .i64))) (fun x:S102 => (x.f0,x.f1,x.f2))
theorem k102_open {w:World} {x:S102} {cs:List Value} (h:k102.K w x cs):cs=[.int .i64 x.f0,.int .i64 x.f1,.int .i64 x.f2]:=by
 obtain ⟨_,_,rfl,rfl,⟨_,_,rfl,rfl,rfl⟩⟩:=h
 exact rfl
theorem k102_mkM (w:World) (base:Nat) (ok:Nat→Prop) (x:S102) :k102.M w base ok x [.int .i64 x.f0,.int .i64 x.f1,.int .i64 x.f2]:=⟨[.int .i64 x.f0],[.int .i64 x.f1,.int .i64 x.f2],rfl,rfl,⟨[.int .i64 x.f1],[.int .i64 x.f2],rfl,rfl,rfl⟩⟩
def rd_T102 (xs:List S102) (i:Int):S102:=xs.getD i.toNat z102
theorem at_T102 {w:World} {A:Option Addr} {n:Nat} {xs:List S102} (h:Kd.C k102 w A n xs) (i:Int) (h0:0≤i) (h1:i < n):∃ ad ,A=some ad∧w.cell? (ad.add (i.toNat * 3))=some (.int .i64 (rd_T102 xs i).f0)∧w.cell? ⟨(ad.add (i.toNat * 3)).block,(ad.add (i.toNat * 3)).off + 1,none⟩=some (.int .i64 (rd_T102 xs i).f1)∧w.cell? ⟨(ad.add (i.toNat * 3)).block,(ad.add (i.toNat * 3)).off + 2,none⟩=some (.int .i64 (rd_T102 xs i).f2):=by
 obtain ⟨ad,c,e,_,hK,hc0⟩:=Kd.C_get h z102 i h0 h1
 have hc:∀ j u,c[j]?=some u→w.cell? (ad.add (i.toNat * 3 + j))=some u:=hc0
 obtain rfl:=k102_open hK
 exact ⟨ad,e,hc 0 _ rfl,by rw [← add_field _ _ 1 (by omega)];exact hc 1 _ rfl,by rw [← add_field _ _ 2 (by omega)];exact hc 2 _ rfl⟩
structure S43 where
 f0:(List S108)
 f1:Int
 f2:Int
 f3:(List S102)
 f4:(List S97)
def z43:S43:=⟨([]:List S108),(0:Int),(0:Int),([]:List S102),([]:List S97)⟩
def k43:Kd S43:=Kd.iso (Kd.pair (Kd.slice 108 k108) (Kd.pair (Kd.int .i64) (Kd.pair (Kd.int .i64) (Kd.pair (Kd.slice 102 k102) (Kd.slice 97 k97))))) (fun x:S43 => (x.f0,x.f1,x.f2,x.f3,x.f4))
theorem k43_open {w:World} {x:S43} {cs:List Value} (h:k43.K w x cs):∃ A0 c0 A3 c3 A4 c4,cs=[.slice A0 x.f0.length c0,.int .i64 x.f1,.int .i64 x.f2,.slice A3 x.f3.length c3,.slice A4 x.f4.length c4]∧x.f0.length≤c0∧k108.C w A0 x.f0.length x.f0∧x.f3.length≤c3∧k102.C w A3 x.f3.length x.f3∧x.f4.length≤c4∧k97.C w A4 x.f4.length x.f4:=by
 obtain ⟨_,_,rfl,⟨A0,c0,rfl,l0,g0⟩,⟨_,_,rfl,rfl,⟨_,_,rfl,rfl,⟨_,_,rfl,⟨A3,c3,rfl,l3,g3⟩,⟨A4,c4,rfl,l4,g4⟩⟩⟩⟩⟩:=h
 exact ⟨A0,c0,A3,c3,A4,c4,rfl,l0,g0,l3,g3,l4,g4⟩
theorem k43_openM {w:World} {base:Nat} {ok:Nat→Prop} {x:S43} {cs:List Value} (h:k43.M w base ok x cs):∃ v0 v3 v4,cs=[v0,.int .i64 x.f1,.int .i64 x.f2,v3,v4]∧k108.R 108 w base ok v0 x.f0∧k102.R 102 w base ok v3 x.f3∧k97.R 97 w base ok v4 x.f4:=by
 obtain ⟨_,_,rfl,⟨v0,rfl,g0⟩,⟨_,_,rfl,rfl,⟨_,_,rfl,rfl,⟨_,_,rfl,⟨v3,rfl,g3⟩,⟨v4,rfl,g4⟩⟩⟩⟩⟩:=h
 exact ⟨v0,v3,v4,rfl,g0,g3,g4⟩
theorem k43_mkM (w:World) (base:Nat) (ok:Nat→Prop) (x:S43) {v0:Value} (g0:k108.R 108 w base ok v0 x.f0) {v3:Value} (g3:k102.R 102 w base ok v3 x.f3) {v4:Value} (g4:k97.R 97 w base ok v4 x.f4):k43.M w base ok x [v0,.int .i64 x.f1,.int .i64 x.f2,v3,v4]:=⟨[v0],[.int .i64 x.f1,.int .i64 x.f2,v3,v4],rfl,⟨v0,rfl,g0⟩,⟨[.int .i64 x.f1],[.int .i64 x.f2,v3,v4],rfl,rfl,⟨[.int .i64 x.f2],[v3,v4],rfl,rfl,⟨[v3],[v4],rfl,⟨v3,rfl,g3⟩,⟨v4,rfl,g4⟩⟩⟩⟩⟩
def rd_T43 (xs:List S43) (i:Int):S43:=xs.getD i.toNat z43
theorem at_T43 {w:World} {A:Option Addr} {n:Nat} {xs:List S43} (h:Kd.C k43 w A n xs) (i:Int) (h0:0≤i) (h1:i < n):∃ ad A0 c0 A3 c3 A4 c4,A=some ad∧w.cell? (ad.add (i.toNat * 5))=some (.slice A0 (rd_T43 xs i).f0.length c0)∧w.cell? ⟨(ad.add (i.toNat * 5)).block,(ad.add (i.toNat * 5)).off + 1,none⟩=some (.int .i64 (rd_T43 xs i).f1)∧w.cell? ⟨(ad.add (i.toNat * 5)).block,(ad.add (i.toNat * 5)).off + 2,none⟩=some (.int .i64 (rd_T43 xs i).f2)∧w.cell? ⟨(ad.add (i.toNat * 5)).block,(ad.add (i.toNat * 5)).off + 3,none⟩=some (.slice A3 (rd_T43 xs i).f3.length c3)∧w.cell? ⟨(ad.add (i.toNat * 5)).block,(ad.add (i.toNat * 5)).off + 4,none⟩=some (.slice A4 (rd_T43 xs i).f4.length c4)∧(rd_T43 xs i).f0.length≤c0∧k108.C w A0 (rd_T43 xs i).f0.length (rd_T43 xs i).f0∧(rd_T43 xs i).f3.length≤c3∧k102.C w A3 (rd_T43 xs i).f3.length (rd_T43 xs i).f3∧(rd_T43 xs i).f4.length≤c4∧k97.C w A4 (rd_T43 xs i).f4.length (rd_T43 xs i).f4:=by
 obtain ⟨ad,c,e,_,hK,hc0⟩:=Kd.C_get h z43 i h0 h1
 have hc:∀ j u,c[j]?=some u→w.cell? (ad.add (i.toNat * 5 + j))=some u:=hc0
 obtain ⟨A0,c0,A3,c3,A4,c4,rfl,l0,g0,l3,g3,l4,g4⟩:=k43_open hK
 exact ⟨ad,A0,c0,A3,c3,A4,c4,e,hc 0 _ rfl,by rw [← add_field _ _ 1 (by omega)];exact hc 1 _ rfl,by rw [← add_field _ _ 2 (by omega)];exact hc 2 _ rfl,by rw [← add_field _ _ 3 (by omega)];exact hc 3 _ rfl,by rw [← add_field _ _ 4 (by omega)];exact hc 4 _ rfl,l0,g0,l3,g3,l4,g4⟩
structure S74 where
 f0:ByteArray
 f1:ByteArray
def z74:S74:=⟨(⟨#[]⟩:ByteArray),(⟨#[]⟩:ByteArray)⟩
def k74:Kd S74:=Kd.iso (Kd.pair Kd.string Kd.string) (fun x:S74 => (x.f0,x.f1))
theorem k74_open {w:World} {x:S74} {cs:List Value} (h:k74.K w x cs):cs=[.string x.f0,.string x.f1]:=by
 obtain ⟨_,_,rfl,rfl,rfl⟩:=h
 exact rfl
theorem k74_mkM (w:World) (base:Nat) (ok:Nat→Prop) (x:S74) :k74.M w base ok x [.string x.f0,.string x.f1]:=⟨[.string x.f0],[.string x.f1],rfl,rfl,rfl⟩
def rd_T74 (xs:List S74) (i:Int):S74:=xs.getD i.toNat z74
theorem at_T74 {w:World} {A:Option Addr} {n:Nat} {xs:List S74} (h:Kd.C k74 w A n xs) (i:Int) (h0:0≤i) (h1:i < n):∃ ad ,A=some ad∧w.cell? (ad.add (i.toNat * 2))=some (.string (rd_T74 xs i).f0)∧w.cell? ⟨(ad.add (i.toNat * 2)).block,(ad.add (i.toNat * 2)).off + 1,none⟩=some (.string (rd_T74 xs i).f1):=by
 obtain ⟨ad,c,e,_,hK,hc0⟩:=Kd.C_get h z74 i h0 h1
 have hc:∀ j u,c[j]?=some u→w.cell? (ad.add (i.toNat * 2 + j))=some u:=hc0
 obtain rfl:=k74_open hK
 exact ⟨ad,e,hc 0 _ rfl,by rw [← add_field _ _ 1 (by omega)];exact hc 1 _ rfl⟩
theorem bl_ {w W:World} (h:Below w.heap.size w W:=by repeat (first|(with_reducible first|(refine Aside0.out ?_;assumption)|apply below_alloc|apply pw_below_drewN|apply below_drew1|refine below_set ?_ (Aside0.out (by assumption)))|(refine Aside0.out ?_;assumption))):Below w.heap.size w W:=h
theorem bk_ {w:World} {g:Nat} {o:Obj} (h:w.heap[g]?=some o:=by (repeat (first|(with_reducible (refine Aside0.out ?_;assumption))|(with_reducible refine blk_drewN ?_ _)|(with_reducible refine blk_drew ?_)|(with_reducible refine blk_alloc ?_ _)|refine blk_far ?_ (Aside0.out (by assumption)) _))):w.heap[g]?=some o:=h
theorem kr_ {p q:Prop} (h0:p) (h:p→q:=by (intro h_;(with_reducible repeat (first|apply Kd.R_alloc|apply Kd.R_drewN|apply Kd.R_drew|apply Kd.S_alloc|apply Kd.S_drewN|apply Kd.S_drew));exact h_)):q:=h h0
theorem kc_ {p q:Prop} (h0:p) (h:p→q:=by (intro h_;repeat (first|exact h_|(with_reducible refine Kd.C_alloc ?_ _)|(with_reducible refine Kd.C_drewN ?_ _)|(with_reducible refine Kd.C_drew ?_)))):q:=h h0
theorem od_ {p:Prop} [Decidable p] (h:decide p=true:=by first|(with_reducible assumption)|assumption):p:=of_decide_eq_true h
theorem hb_ {w W:World} {q:Addr} {v:Value} (h:Aside0 (Below w.heap.size w W)) (hx:w.cell? q=some v):W.cell? q=some v:=(h.out.cell (World.block_lt_of_cell? w _ hx)).trans hx
theorem ew_ {p:Prop} (h:p:=by first|rfl|(simp [errW_none,errW_some] <;> rfl)|(simp [*,errW_none,errW_some] <;> rfl)):p:=h
theorem r3_ {p:Prop} (h:p:=by first|rfl|(simp;done)|(simp [*];done)):p:=h
theorem callA_ {P:Program} {ops:Array Oper} {Q:Exit→Act→World→Prop} {rest:List Oper} {oi:Oper} {a:Act} {w:World} {f:FuncId} {fn:Func} {ars:Array Operand} {ts:Array TypeId} (N:Option Tmp) (hf:P.funcs[f]?=some fn) (args:Array Value)
  (h:Calls P f args w fun e w' => ∃ v,e=.returned v∧wpList P ops Q rest (a.put N v) w') (hop:oi.op=.call { callee:=.value (.func f),args:=ars,argTypes:=ts }:=by with_reducible rfl) (hd:oi.dst=N:=by rfl) (hg:oi.guard=none:=by rfl)
  (hname : (fn.name == "runtime.NumGoroutine") = false := by kernel_rfl) (hb : fn.body.isSome = true := by rfl) (hargs : ars.map a.eval = args := by (try simp only [List.map_toArray, List.map_cons, List.map_nil]); first | done | rfl | (simp only [List.length_drop, List.length_take]; rfl)) : wpList P ops Q (oi :: rest) a w :=
 goesL_ N hd hg hf hname hb args hop hargs h
theorem blk3_ {w:World} {g t:Nat} {v0 v1 v2:Value} (h:w.heap[g]?=some (.cells #[v0,v1,v2] t (0,0))):w.cell? ⟨g,0,none⟩=some v0∧w.cell? ⟨g,1,none⟩=some v1∧w.cell? ⟨g,2,none⟩=some v2∧w.frozen? ⟨g,0,none⟩=false∧w.frozen? ⟨g,1,none⟩=false∧w.frozen? ⟨g,2,none⟩=false :=
 ⟨(blk_cell h 0).trans rfl,(blk_cell h 1).trans rfl,(blk_cell h 2).trans rfl,blk_frozen h 0,blk_frozen h 1,blk_frozen h 2⟩
theorem blk4_ {w:World} {g t:Nat} {v0 v1 v2 v3:Value} (h:w.heap[g]?=some (.cells #[v0,v1,v2,v3] t (0,0))):w.cell? ⟨g,0,none⟩=some v0∧w.cell? ⟨g,1,none⟩=some v1∧w.cell? ⟨g,2,none⟩=some v2∧w.cell? ⟨g,3,none⟩=some v3∧w.frozen? ⟨g,0,none⟩=false∧w.frozen? ⟨g,1,none⟩=false∧w.frozen? ⟨g,2,none⟩=false∧w.frozen? ⟨g,3,none⟩=false :=
 ⟨(blk_cell h 0).trans rfl,(blk_cell h 1).trans rfl,(blk_cell h 2).trans rfl,(blk_cell h 3).trans rfl,blk_frozen h 0,blk_frozen h 1,blk_frozen h 2,blk_frozen h 3⟩
theorem blk5_ {w:World} {g t:Nat} {v0 v1 v2 v3 v4:Value} (h:w.heap[g]?=some (.cells #[v0,v1,v2,v3,v4] t (0,0))):w.cell? ⟨g,0,none⟩=some v0∧w.cell? ⟨g,1,none⟩=some v1∧w.cell? ⟨g,2,none⟩=some v2∧w.cell? ⟨g,3,none⟩=some v3∧w.cell? ⟨g,4,none⟩=some v4∧w.frozen? ⟨g,0,none⟩=false∧w.frozen? ⟨g,1,none⟩=false∧w.frozen? ⟨g,2,none⟩=false∧w.frozen? ⟨g,3,none⟩=false∧w.frozen? ⟨g,4,none⟩=false :=
 ⟨(blk_cell h 0).trans rfl,(blk_cell h 1).trans rfl,(blk_cell h 2).trans rfl,(blk_cell h 3).trans rfl,(blk_cell h 4).trans rfl,blk_frozen h 0,blk_frozen h 1,blk_frozen h 2,blk_frozen h 3,blk_frozen h 4⟩
theorem blk8_ {w:World} {g t:Nat} {v0 v1 v2 v3 v4 v5 v6 v7:Value} (h:w.heap[g]?=some (.cells #[v0,v1,v2,v3,v4,v5,v6,v7] t (0,0))):w.cell? ⟨g,0,none⟩=some v0∧w.cell? ⟨g,1,none⟩=some v1∧w.cell? ⟨g,2,none⟩=some v2∧w.cell? ⟨g,3,none⟩=some v3∧w.cell? ⟨g,4,none⟩=some v4∧w.cell? ⟨g,5,none⟩=some v5∧w.cell? ⟨g,6,none⟩=some v6∧w.cell? ⟨g,7,none⟩=some v7∧w.frozen? ⟨g,0,none⟩=false∧w.frozen? ⟨g,1,none⟩=false∧w.frozen? ⟨g,2,none⟩=false∧w.frozen? ⟨g,3,none⟩=false∧w.frozen? ⟨g,4,none⟩=false∧w.frozen? ⟨g,5,none⟩=false∧w.frozen? ⟨g,6,none⟩=false∧w.frozen? ⟨g,7,none⟩=false :=
 ⟨(blk_cell h 0).trans rfl,(blk_cell h 1).trans rfl,(blk_cell h 2).trans rfl,(blk_cell h 3).trans rfl,(blk_cell h 4).trans rfl,(blk_cell h 5).trans rfl,(blk_cell h 6).trans rfl,(blk_cell h 7).trans rfl,blk_frozen h 0,blk_frozen h 1,blk_frozen h 2,blk_frozen h 3,blk_frozen h 4,blk_frozen h 5,blk_frozen h 6,blk_frozen h 7⟩
theorem st3_ {w:World} {g t:Nat} {v0 v1 v2 u0 u1 u2:Value} (h0:w.heap[g]?=some (.cells #[v0,v1,v2] t (0,0))):(((w.setCell ⟨g,0,none⟩ u0).setCell ⟨g,1,none⟩ u1).setCell ⟨g,2,none⟩ u2).heap[g]?=some (.cells #[u0,u1,u2] t (0,0)):=by
 have h1:(w.setCell ⟨g,0,none⟩ u0).heap[g]?=some (.cells #[u0,v1,v2] t (0,0)):=blk_put h0 0 u0 rfl
 have h2:((w.setCell ⟨g,0,none⟩ u0).setCell ⟨g,1,none⟩ u1).heap[g]?=some (.cells #[u0,u1,v2] t (0,0)):=blk_put h1 1 u1 rfl
 have h3:(((w.setCell ⟨g,0,none⟩ u0).setCell ⟨g,1,none⟩ u1).setCell ⟨g,2,none⟩ u2).heap[g]?=some (.cells #[u0,u1,u2] t (0,0)):=blk_put h2 2 u2 rfl
 exact h3
theorem st5_ {w:World} {g t:Nat} {v0 v1 v2 v3 v4 u0 u1 u2 u3 u4:Value} (h0:w.heap[g]?=some (.cells #[v0,v1,v2,v3,v4] t (0,0))):(((((w.setCell ⟨g,0,none⟩ u0).setCell ⟨g,1,none⟩ u1).setCell ⟨g,2,none⟩ u2).setCell ⟨g,3,none⟩ u3).setCell ⟨g,4,none⟩ u4).heap[g]?=some (.cells #[u0,u1,u2,u3,u4] t (0,0)):=by
 have h1:(w.setCell ⟨g,0,none⟩ u0).heap[g]?=some (.cells #[u0,v1,v2,v3,v4] t (0,0)):=blk_put h0 0 u0 rfl
 have h2:((w.setCell ⟨g,0,none⟩ u0).setCell ⟨g,1,none⟩ u1).heap[g]?=some (.cells #[u0,u1,v2,v3,v4] t (0,0)):=blk_put h1 1 u1 rfl
 have h3:(((w.setCell ⟨g,0,none⟩ u0).setCell ⟨g,1,none⟩ u1).setCell ⟨g,2,none⟩ u2).heap[g]?=some (.cells #[u0,u1,u2,v3,v4] t (0,0)):=blk_put h2 2 u2 rfl
 have h4:((((w.setCell ⟨g,0,none⟩ u0).setCell ⟨g,1,none⟩ u1).setCell ⟨g,2,none⟩ u2).setCell ⟨g,3,none⟩ u3).heap[g]?=some (.cells #[u0,u1,u2,u3,v4] t (0,0)):=blk_put h3 3 u3 rfl
 have h5:(((((w.setCell ⟨g,0,none⟩ u0).setCell ⟨g,1,none⟩ u1).setCell ⟨g,2,none⟩ u2).setCell ⟨g,3,none⟩ u3).setCell ⟨g,4,none⟩ u4).heap[g]?=some (.cells #[u0,u1,u2,u3,u4] t (0,0)):=blk_put h4 4 u4 rfl
 exact h5
theorem st8_ {w:World} {g t:Nat} {v0 v1 v2 v3 v4 v5 v6 v7 u0 u1 u2 u3 u4 u5 u6 u7:Value} (h0:w.heap[g]?=some (.cells #[v0,v1,v2,v3,v4,v5,v6,v7] t (0,0))):((((((((w.setCell ⟨g,0,none⟩ u0).setCell ⟨g,1,none⟩ u1).setCell ⟨g,2,none⟩ u2).setCell ⟨g,3,none⟩ u3).setCell ⟨g,4,none⟩ u4).setCell ⟨g,5,none⟩ u5).setCell ⟨g,6,none⟩ u6).setCell ⟨g,7,none⟩ u7).heap[g]?=some (.cells #[u0,u1,u2,u3,u4,u5,u6,u7] t (0,0)):=by
 have h1:(w.setCell ⟨g,0,none⟩ u0).heap[g]?=some (.cells #[u0,v1,v2,v3,v4,v5,v6,v7] t (0,0)):=blk_put h0 0 u0 rfl
 have h2:((w.setCell ⟨g,0,none⟩ u0).setCell ⟨g,1,none⟩ u1).heap[g]?=some (.cells #[u0,u1,v2,v3,v4,v5,v6,v7] t (0,0)):=blk_put h1 1 u1 rfl
 have h3:(((w.setCell ⟨g,0,none⟩ u0).setCell ⟨g,1,none⟩ u1).setCell ⟨g,2,none⟩ u2).heap[g]?=some (.cells #[u0,u1,u2,v3,v4,v5,v6,v7] t (0,0)):=blk_put h2 2 u2 rfl
 have h4:((((w.setCell ⟨g,0,none⟩ u0).setCell ⟨g,1,none⟩ u1).setCell ⟨g,2,none⟩ u2).setCell ⟨g,3,none⟩ u3).heap[g]?=some (.cells #[u0,u1,u2,u3,v4,v5,v6,v7] t (0,0)):=blk_put h3 3 u3 rfl
 have h5:(((((w.setCell ⟨g,0,none⟩ u0).setCell ⟨g,1,none⟩ u1).setCell ⟨g,2,none⟩ u2).setCell ⟨g,3,none⟩ u3).setCell ⟨g,4,none⟩ u4).heap[g]?=some (.cells #[u0,u1,u2,u3,u4,v5,v6,v7] t (0,0)):=blk_put h4 4 u4 rfl
 have h6:((((((w.setCell ⟨g,0,none⟩ u0).setCell ⟨g,1,none⟩ u1).setCell ⟨g,2,none⟩ u2).setCell ⟨g,3,none⟩ u3).setCell ⟨g,4,none⟩ u4).setCell ⟨g,5,none⟩ u5).heap[g]?=some (.cells #[u0,u1,u2,u3,u4,u5,v6,v7] t (0,0)):=blk_put h5 5 u5 rfl
 have h7:(((((((w.setCell ⟨g,0,none⟩ u0).setCell ⟨g,1,none⟩ u1).setCell ⟨g,2,none⟩ u2).setCell ⟨g,3,none⟩ u3).setCell ⟨g,4,none⟩ u4).setCell ⟨g,5,none⟩ u5).setCell ⟨g,6,none⟩ u6).heap[g]?=some (.cells #[u0,u1,u2,u3,u4,u5,u6,v7] t (0,0)):=blk_put h6 6 u6 rfl
 have h8:((((((((w.setCell ⟨g,0,none⟩ u0).setCell ⟨g,1,none⟩ u1).setCell ⟨g,2,none⟩ u2).setCell ⟨g,3,none⟩ u3).setCell ⟨g,4,none⟩ u4).setCell ⟨g,5,none⟩ u5).setCell ⟨g,6,none⟩ u6).setCell ⟨g,7,none⟩ u7).heap[g]?=some (.cells #[u0,u1,u2,u3,u4,u5,u6,u7] t (0,0)):=blk_put h7 7 u7 rfl
 exact h8
end Go.Proofs.YtoonhpcjcimecaaDoor.Px
namespace Go.Proofs.YtoonhpcjcimecaaDoor.Px
open Go.RowKit Go.Proofs.YtoonhpcjcimecaaDoorW.PrintWords Go.Proofs.YtoonhpcjcimecaaDoorW.PrintLast Go.Proofs.YtoonhpcjcimecaaDoorW.PrintMore
structure GG (w:World):Prop where mk ::
 tabs:Lib.Utf8Tabs (Tryd.laysValid_ren.g 3) (Tryd.laysValid_ren.g 4) w
 et:w.cell? ⟨0,0,none⟩=some (.iface 151 (.agg #[.pointer (some ⟨4,113,none⟩)]))
 maxLen:∃ m,w.cell? ⟨Tryd.laysM145_ren.g 1,0,none⟩=some (.int .i64 m)
theorem GG.below {w w':World} (h:GG w) (hb:Below w.heap.size w w'):GG w':=by
 obtain ⟨m,hm⟩:=h.maxLen
 exact ⟨Utf8Tabs_below h.tabs hb,pw_cell_below hb h.et,m,pw_cell_below hb hm⟩
end Go.Proofs.YtoonhpcjcimecaaDoor.Px
namespace Go.Proofs.YtoonhpcjcimecaaDoor.Px
open Go.RowKit Go.ChangeShapes Go.WideShapes Go.ChangeAt Go.Lib Go.Proofs.YtoonhpcjcimecaaDoorW.PrintWords Go.Proofs.YtoonhpcjcimecaaDoorW.PrintLast Go.Proofs.YtoonhpcjcimecaaDoorW.PrintMore
set_option linter.unusedVariables false
theorem laid_et : Tryd.prog.globalNamed "errors.errorType" = some 0 := by kernel_rfl
theorem laid_rt : (Tryd.prog.cutTypes.find? (·.1 == "internal/reflectlite.rtype")).map (·.2) = some 151 := by kernel_rfl
theorem laid_oneRow : ((List.range 208).filter fun t => Tryd.prog.rowNamed t [101, 114, 114, 111, 114]) = [113] := by kernel_rfl
theorem laid_size : Tryd.prog.types.size = 208 := by kernel_rfl
theorem GG.of_laid {l : List (String × DataW Unit)} {W : World} (h : laidMetH Tryd.prog l W) (h1 : ("unicode/utf8.acceptRanges", Rows.laid_unicode_utf8_acceptRanges) ∈ l) (h2 : ("unicode/utf8.first", Rows.laid_unicode_utf8_first) ∈ l) (h3 : ("errors.errorType", Rows.laid_errors_errorType) ∈ l) (hS : W.ShapedOpen Tryd.prog) : GG W := by
  obtain ⟨hp, hh⟩ := laidMetH_iff.1 h
  refine ⟨utf8Tabs_of_readsT (U8Types.of196 Tryd.laysValid) ⟨by kernel_rfl, by kernel_rfl, by kernel_rfl, by kernel_rfl, by kernel_rfl, by kernel_rfl, by kernel_rfl⟩ (by have := Lib.laidMet.reads hp (List.mem_filter.2 ⟨h2, by kernel_rfl⟩); unfold Rows.laid_unicode_utf8_first at this; rw [Pinned.utf8First_eq] at this; exact this) (Lib.laidMet.reads hp (List.mem_filter.2 ⟨h1, by kernel_rfl⟩)), ?_, Tryd.laysM145.s1_3 W hS⟩
  obtain ⟨name, u, ty, e1, e2, e3, e4, e5⟩ := hh _ (List.mem_filter.2 ⟨h3, by kernel_rfl⟩)
  have en : name = [101, 114, 114, 111, 114] := (Option.some.inj e1).symm
  subst en
  obtain rfl := Option.some.inj (laid_rt.symm.trans e2)
  have hm : ty ∈ (List.range 208).filter fun t => Tryd.prog.rowNamed t [101, 114, 114, 111, 114] := List.mem_filter.2 ⟨List.mem_range.2 (by rw [← laid_size]; exact e3), e4⟩
  rw [laid_oneRow] at hm
  obtain rfl := List.mem_singleton.1 hm
  have hh : typeHandle Tryd.prog 113 = .pointer (some ⟨4, 113, none⟩) := by kernel_rfl
  rw [hh] at e5
  simpa using World.var?_cell laid_et e5 0
end Go.Proofs.YtoonhpcjcimecaaDoor.Px
namespace Go.Proofs.YtoonhpcjcimecaaDoor.Px
open Go.RowKit Go.ChangeShapes Go.WideShapes Go.ChangeAt Go.Proofs.YtoonhpcjcimecaaDoorW.PrintWords Go.Proofs.YtoonhpcjcimecaaDoorW.PrintLast Go.Proofs.YtoonhpcjcimecaaDoorW.PrintMore
set_option linter.unusedVariables false
def Fits {α:Type} {H:Type} (enc:TypeId × Value→H) (P:Program) (W:World) (t:TypeId) (d:Kd α) (Q:Nat→α→Prop):Prop :=
 ∀ (fuel:Nat) (cs:List Value) (x:DataW H) (p:List MemPlace),DataW.trod enc P W 0 (fun _ => true) true fuel t cs=some (x,p)→∃ a:α,d.K W a cs∧Q (Rows.uptoBulk x) a
section
variable {α β:Type} {H:Type} {enc:TypeId × Value→H} {P:Program} {W:World} {t e:TypeId}
def Qint (k:IntKind) (_:Nat) (a:Int):Prop:=(Lit.int k a).wf=true
def Qbool (_:Nat) (_:Bool):Prop:=True
def Qstr (b:Nat) (a:ByteArray):Prop:=a.size < b
theorem Qint.mono (k:IntKind):∀ b b' a,b≤b'→Qint k b a→Qint k b' a:=fun _ _ _ _ h => h
theorem Qbool.mono:∀ b b' a,b≤b'→Qbool b a→Qbool b' a:=fun _ _ _ _ h => h
theorem Qstr.mono:∀ b b' a,b≤b'→Qstr b a→Qstr b' a:=fun _ _ _ h1 h2 => Nat.lt_of_lt_of_le h2 h1
theorem Fits.int {k:IntKind} (ht:P.underlying t=some (.int k)):Fits enc P W t (Kd.int k) (Qint k):=by
 intro fuel cs x p h
 obtain ⟨n,hc,hx,hw⟩:=DataW.trod_int ht h
 exact ⟨n,hc,hw⟩
theorem Fits.bool (ht:P.underlying t=some .bool):Fits enc P W t Kd.bool Qbool:=by
 intro fuel cs x p h
 obtain ⟨b,hc,hx⟩:=DataW.trod_bool ht h
 exact ⟨b,hc,trivial⟩
theorem Fits.string (ht:P.underlying t=some .string):Fits enc P W t Kd.string Qstr:=by
 intro fuel cs x p h
 obtain ⟨s,hc,hx⟩:=DataW.trod_string ht h
 refine ⟨s,hc,?_⟩
 unfold Qstr
 have hx:=(Prod.mk.inj hx.1).1
 subst hx
 simp only [Rows.uptoBulk]
 have e:s.data.toList.length=s.size:=by rw [Array.length_toList];rfl
 omega
theorem fits_add (a:Addr) (x j:Nat):(a.add x).add j=a.add (x + j):=by
 unfold Addr.add
 by_cases h1:x=0 <;> by_cases h2:j=0 <;> simp [h1,h2,Nat.add_assoc]
def QAll (Q:Nat→α→Prop) (b:Nat) (l:List α):Prop:=l.length < b∧∀ x ∈ l,Q b x
theorem QAll.mono {Q:Nat→α→Prop} (hQ:∀ b b' a,b≤b'→Q b a→Q b' a):∀ b b' l,b≤b'→QAll Q b l→QAll Q b' l:=fun b b' l h hq => ⟨Nat.lt_of_lt_of_le hq.1 h,fun x hx => hQ _ _ _ h (hq.2 x hx)⟩
theorem Fits.slice {d:Kd α} {Q:Nat→α→Prop} (hQ:∀ b b' a,b≤b'→Q b a→Q b' a) (ht:P.underlying t=some (.slice e)) (hsz:P.cellsOf e=d.sz) (hd:Fits enc P W e d Q):Fits enc P W t (Kd.slice e d) (QAll Q):=by
 intro fuel cs x p h
 rcases DataW.trod_slice ht h with ⟨hcs,hx⟩|⟨a,len,cap,elems,rest,n,_,hcs,hx,_,hl,hm,hlen,hel,_,_⟩
 ·refine ⟨[],⟨none,0,hcs,Nat.le_refl _,rfl,by simp,fun hh => absurd hh (by simp)⟩,?_,fun y hy => by cases hy⟩
  exact bulk_one x
 ·have hx1:=(Prod.mk.inj hx).1
  have each:∀ i,i < len→∃ y:α,∃ c:List Value,d.K W y c∧c.length=d.sz∧(∀ j u,c[j]?=some u→W.cell? (a.add (i * d.sz + j))=some u)∧Q (Rows.uptoBulk x) y:=by
   intro i hi
   have h1:=hel i hi
   obtain ⟨z,hz⟩:∃ z,elems[i]?=some z:=⟨elems[i]'(by omega),List.getElem?_eq_getElem (by omega)⟩
   rw [hz] at h1
   obtain ⟨c,hc,hk⟩:=Option.bind_eq_some_iff.1 h1
   obtain ⟨_,hcl,hcc⟩:=World.cells?_some hc
   obtain ⟨y,hy,hq⟩:=hd n c z.1 z.2 hk
   refine ⟨y,c,hy,by rw [hcl,hsz],?_,hQ _ _ _ ?_ hq⟩
   ·intro j u hj
    have hjl:j < c.length:=(List.getElem?_eq_some_iff.1 hj).1
    have:=hcc j (by omega)
    rw [hj] at this
    rw [← this,hsz,fits_add]
   ·rw [hx1]
    simp only [Rows.uptoBulk]
    have:z.1 ∈ elems.map (·.1):=List.mem_map_of_mem (List.mem_of_getElem? hz)
    have:=bulk_part_le this
    omega
  have hf:∀ i:Fin len,∃ c:List Value,d.K W (Classical.choose (each i.1 i.2)) c∧c.length=d.sz∧(∀ j u,c[j]?=some u→W.cell? (a.add (i.1 * d.sz + j))=some u)∧Q (Rows.uptoBulk x) (Classical.choose (each i.1 i.2)):=fun i => Classical.choose_spec (each i.1 i.2)
  generalize hF:(fun i:Fin len => Classical.choose (each i.1 i.2))=f at hf
  replace hf:∀ i:Fin len,∃ c:List Value,d.K W (f i) c∧c.length=d.sz∧(∀ j u,c[j]?=some u→W.cell? (a.add (i.1 * d.sz + j))=some u)∧Q (Rows.uptoBulk x) (f i):=fun i => by
   have:=hf i
   rw [← hF]
   exact this
  have hxs:(List.ofFn f).length=len:=by simp
  refine ⟨List.ofFn f,⟨some a,cap,by rw [hxs];exact hcs,by rw [hxs];exact hl,rfl,?_,fun _ => ⟨a,rfl,?_⟩⟩,?_,?_⟩
  ·rw [hxs];unfold maxLen at hm;omega
  ·intro j q hj
   have hjl:j < len:=by
    have:=(List.getElem?_eq_some_iff.1 hj).1
    omega
   have hq:f ⟨j,hjl⟩=q:=by
    rw [List.getElem?_ofFn,dif_pos hjl] at hj
    exact Option.some.inj hj
   obtain ⟨c,h1,h2,h3,_⟩:=hf ⟨j,hjl⟩
   subst hq
   exact ⟨c,h2,h1,h3⟩
  ·rw [hxs,hx1]
   simp only [Rows.uptoBulk]
   have:=bulk_length (elems.map (·.1))
   rw [List.length_map] at this
   omega
  ·intro y hy
   obtain ⟨i,rfl⟩:=(List.mem_ofFn).1 hy
   obtain ⟨_,_,_,_,hq⟩:=hf i
   exact hq
end
end Go.Proofs.YtoonhpcjcimecaaDoor.Px
namespace Go.Proofs.YtoonhpcjcimecaaDoor.Px
open Go.RowKit Go.ChangeShapes Go.WideShapes Go.ChangeAt Go.Proofs.YtoonhpcjcimecaaDoorW.PrintWords Go.Proofs.YtoonhpcjcimecaaDoorW.PrintLast Go.Proofs.YtoonhpcjcimecaaDoorW.PrintMore
set_option linter.unusedVariables false
set_option maxRecDepth 100000
def QS108 (b:Nat) (a:S108):Prop:=(Qint .i64) b a.f0∧Qstr b a.f1∧(Qint .i64) b a.f2∧(Qint .i64) b a.f3∧(Qint .i64) b a.f4
theorem QS108.mono:∀ b b' a,b≤b'→QS108 b a→QS108 b' a:=fun b b' a h hq => ⟨(Qint.mono .i64) b b' a.f0 h hq.1,Qstr.mono b b' a.f1 h hq.2.1,(Qint.mono .i64) b b' a.f2 h hq.2.2.1,(Qint.mono .i64) b b' a.f3 h hq.2.2.2.1,(Qint.mono .i64) b b' a.f4 h hq.2.2.2.2⟩
theorem fits108 {H:Type} (enc:TypeId × Value→H) (W:World):Fits enc Tryd.prog W 108 k108 QS108:=by
 intro fuel cs x p h
 obtain ⟨xs,n,rfl,hx,hlen,hxl,hall⟩:=DataW.trod_struct Tryd.underlying108 h
 have hx1:=(Prod.mk.inj hx).1
 have hb:∀ z ∈ xs,Rows.uptoBulk z.1≤Rows.uptoBulk x:=by
  intro z hz
  rw [hx1]
  simp only [Rows.uptoBulk]
  have:=bulk_part_le (List.mem_map_of_mem (f:=(·.1)) hz)
  omega
 have hl:cs.length=5:=hlen.trans (by kernel_rfl)
 have hxl':xs.length=5:=hxl
 have e0:=hall 0 _ rfl
 obtain ⟨z0,hz0⟩:∃ z,xs[0]?=some z:=⟨xs[0]'(by omega),List.getElem?_eq_getElem (by omega)⟩
 rw [hz0] at e0
 have c0:Tryd.prog.cellsOf 3=1:=by kernel_rfl
 replace e0:DataW.trod enc Tryd.prog W 0 (fun _ => true) true n 3 ((cs.drop 0).take 1)=some z0:=by rw [← c0];exact e0
 obtain ⟨a0,K0,q0⟩:=(Fits.int Tryd.underlying3) n _ z0.1 z0.2 e0
 replace q0:=(Qint.mono .i64) _ _ _ (hb z0 (List.mem_of_getElem? hz0)) q0
 have e1:=hall 1 _ rfl
 obtain ⟨z1,hz1⟩:∃ z,xs[1]?=some z:=⟨xs[1]'(by omega),List.getElem?_eq_getElem (by omega)⟩
 rw [hz1] at e1
 have c1:Tryd.prog.cellsOf 9=1:=by kernel_rfl
 replace e1:DataW.trod enc Tryd.prog W 0 (fun _ => true) true n 9 ((cs.drop 1).take 1)=some z1:=by rw [← c1];exact e1
 obtain ⟨a1,K1,q1⟩:=(Fits.string Tryd.underlying9) n _ z1.1 z1.2 e1
 replace q1:=Qstr.mono _ _ _ (hb z1 (List.mem_of_getElem? hz1)) q1
 have e2:=hall 2 _ rfl
 obtain ⟨z2,hz2⟩:∃ z,xs[2]?=some z:=⟨xs[2]'(by omega),List.getElem?_eq_getElem (by omega)⟩
 rw [hz2] at e2
 have c2:Tryd.prog.cellsOf 2=1:=by kernel_rfl
 replace e2:DataW.trod enc Tryd.prog W 0 (fun _ => true) true n 2 ((cs.drop 2).take 1)=some z2:=by rw [← c2];exact e2
 obtain ⟨a2,K2,q2⟩:=(Fits.int Tryd.underlying2) n _ z2.1 z2.2 e2
 replace q2:=(Qint.mono .i64) _ _ _ (hb z2 (List.mem_of_getElem? hz2)) q2
 have e3:=hall 3 _ rfl
 obtain ⟨z3,hz3⟩:∃ z,xs[3]?=some z:=⟨xs[3]'(by omega),List.getElem?_eq_getElem (by omega)⟩
 rw [hz3] at e3
 have c3:Tryd.prog.cellsOf 3=1:=by kernel_rfl
 replace e3:DataW.trod enc Tryd.prog W 0 (fun _ => true) true n 3 ((cs.drop 3).take 1)=some z3:=by rw [← c3];exact e3
 obtain ⟨a3,K3,q3⟩:=(Fits.int Tryd.underlying3) n _ z3.1 z3.2 e3
 replace q3:=(Qint.mono .i64) _ _ _ (hb z3 (List.mem_of_getElem? hz3)) q3
 have e4:=hall 4 _ rfl
 obtain ⟨z4,hz4⟩:∃ z,xs[4]?=some z:=⟨xs[4]'(by omega),List.getElem?_eq_getElem (by omega)⟩
 rw [hz4] at e4
 have c4:Tryd.prog.cellsOf 3=1:=by kernel_rfl
 replace e4:DataW.trod enc Tryd.prog W 0 (fun _ => true) true n 3 ((cs.drop 4).take 1)=some z4:=by rw [← c4];exact e4
 obtain ⟨a4,K4,q4⟩:=(Fits.int Tryd.underlying3) n _ z4.1 z4.2 e4
 replace q4:=(Qint.mono .i64) _ _ _ (hb z4 (List.mem_of_getElem? hz4)) q4
 refine ⟨⟨a0,a1,a2,a3,a4⟩,?_,⟨q0,q1,q2,q3,q4⟩⟩
 rw [show cs=cs.drop 0 from rfl]
 exact ⟨(cs.drop 0).take 1,cs.drop 1,by rw [← List.drop_drop (i:=1) (j:=0),List.take_append_drop],K0,⟨(cs.drop 1).take 1,cs.drop 2,by rw [← List.drop_drop (i:=1) (j:=1),List.take_append_drop],K1,⟨(cs.drop 2).take 1,cs.drop 3,by rw [← List.drop_drop (i:=1) (j:=2),List.take_append_drop],K2,⟨(cs.drop 3).take 1,cs.drop 4,by rw [← List.drop_drop (i:=1) (j:=3),List.take_append_drop],K3,(by rw [show cs.drop 4=(cs.drop 4).take 1 from (List.take_of_length_le (by rw [List.length_drop];omega)).symm];exact K4)⟩⟩⟩⟩
def QS102 (b:Nat) (a:S102):Prop:=(Qint .i64) b a.f0∧(Qint .i64) b a.f1∧(Qint .i64) b a.f2
theorem QS102.mono:∀ b b' a,b≤b'→QS102 b a→QS102 b' a:=fun b b' a h hq => ⟨(Qint.mono .i64) b b' a.f0 h hq.1,(Qint.mono .i64) b b' a.f1 h hq.2.1,(Qint.mono .i64) b b' a.f2 h hq.2.2⟩
theorem fits102 {H:Type} (enc:TypeId × Value→H) (W:World):Fits enc Tryd.prog W 102 k102 QS102:=by
 intro fuel cs x p h
 obtain ⟨xs,n,rfl,hx,hlen,hxl,hall⟩:=DataW.trod_struct Tryd.underlying102 h
 have hx1:=(Prod.mk.inj hx).1
 have hb:∀ z ∈ xs,Rows.uptoBulk z.1≤Rows.uptoBulk x:=by
  intro z hz
  rw [hx1]
  simp only [Rows.uptoBulk]
  have:=bulk_part_le (List.mem_map_of_mem (f:=(·.1)) hz)
  omega
 have hl:cs.length=3:=hlen.trans (by kernel_rfl)
 have hxl':xs.length=3:=hxl
 have e0:=hall 0 _ rfl
 obtain ⟨z0,hz0⟩:∃ z,xs[0]?=some z:=⟨xs[0]'(by omega),List.getElem?_eq_getElem (by omega)⟩
 rw [hz0] at e0
 have c0:Tryd.prog.cellsOf 3=1:=by kernel_rfl
 replace e0:DataW.trod enc Tryd.prog W 0 (fun _ => true) true n 3 ((cs.drop 0).take 1)=some z0:=by rw [← c0];exact e0
 obtain ⟨a0,K0,q0⟩:=(Fits.int Tryd.underlying3) n _ z0.1 z0.2 e0
 replace q0:=(Qint.mono .i64) _ _ _ (hb z0 (List.mem_of_getElem? hz0)) q0
 have e1:=hall 1 _ rfl
 obtain ⟨z1,hz1⟩:∃ z,xs[1]?=some z:=⟨xs[1]'(by omega),List.getElem?_eq_getElem (by omega)⟩
 rw [hz1] at e1
 have c1:Tryd.prog.cellsOf 3=1:=by kernel_rfl
 replace e1:DataW.trod enc Tryd.prog W 0 (fun _ => true) true n 3 ((cs.drop 1).take 1)=some z1:=by rw [← c1];exact e1
 obtain ⟨a1,K1,q1⟩:=(Fits.int Tryd.underlying3) n _ z1.1 z1.2 e1
 replace q1:=(Qint.mono .i64) _ _ _ (hb z1 (List.mem_of_getElem? hz1)) q1
 have e2:=hall 2 _ rfl
 obtain ⟨z2,hz2⟩:∃ z,xs[2]?=some z:=⟨xs[2]'(by omega),List.getElem?_eq_getElem (by omega)⟩
 rw [hz2] at e2
 have c2:Tryd.prog.cellsOf 3=1:=by kernel_rfl
 replace e2:DataW.trod enc Tryd.prog W 0 (fun _ => true) true n 3 ((cs.drop 2).take 1)=some z2:=by rw [← c2];exact e2
 obtain ⟨a2,K2,q2⟩:=(Fits.int Tryd.underlying3) n _ z2.1 z2.2 e2
 replace q2:=(Qint.mono .i64) _ _ _ (hb z2 (List.mem_of_getElem? hz2)) q2
 refine ⟨⟨a0,a1,a2⟩,?_,⟨q0,q1,q2⟩⟩
 rw [show cs=cs.drop 0 from rfl]
 exact ⟨(cs.drop 0).take 1,cs.drop 1,by rw [← List.drop_drop (i:=1) (j:=0),List.take_append_drop],K0,⟨(cs.drop 1).take 1,cs.drop 2,by rw [← List.drop_drop (i:=1) (j:=1),List.take_append_drop],K1,(by rw [show cs.drop 2=(cs.drop 2).take 1 from (List.take_of_length_le (by rw [List.length_drop];omega)).symm];exact K2)⟩⟩
def QS120 (b:Nat) (a:S120):Prop:=(Qint .i64) b a.f0∧(Qint .i64) b a.f1∧(Qint .i64) b a.f2∧(Qint .i64) b a.f3
theorem QS120.mono:∀ b b' a,b≤b'→QS120 b a→QS120 b' a:=fun b b' a h hq => ⟨(Qint.mono .i64) b b' a.f0 h hq.1,(Qint.mono .i64) b b' a.f1 h hq.2.1,(Qint.mono .i64) b b' a.f2 h hq.2.2.1,(Qint.mono .i64) b b' a.f3 h hq.2.2.2⟩
theorem fits120 {H:Type} (enc:TypeId × Value→H) (W:World):Fits enc Tryd.prog W 120 k120 QS120:=by
 intro fuel cs x p h
 obtain ⟨xs,n,rfl,hx,hlen,hxl,hall⟩:=DataW.trod_struct Tryd.underlying120 h
 have hx1:=(Prod.mk.inj hx).1
 have hb:∀ z ∈ xs,Rows.uptoBulk z.1≤Rows.uptoBulk x:=by
  intro z hz
  rw [hx1]
  simp only [Rows.uptoBulk]
  have:=bulk_part_le (List.mem_map_of_mem (f:=(·.1)) hz)
  omega
 have hl:cs.length=4:=hlen.trans (by kernel_rfl)
 have hxl':xs.length=4:=hxl
 have e0:=hall 0 _ rfl
 obtain ⟨z0,hz0⟩:∃ z,xs[0]?=some z:=⟨xs[0]'(by omega),List.getElem?_eq_getElem (by omega)⟩
 rw [hz0] at e0
 have c0:Tryd.prog.cellsOf 3=1:=by kernel_rfl
 replace e0:DataW.trod enc Tryd.prog W 0 (fun _ => true) true n 3 ((cs.drop 0).take 1)=some z0:=by rw [← c0];exact e0
 obtain ⟨a0,K0,q0⟩:=(Fits.int Tryd.underlying3) n _ z0.1 z0.2 e0
 replace q0:=(Qint.mono .i64) _ _ _ (hb z0 (List.mem_of_getElem? hz0)) q0
 have e1:=hall 1 _ rfl
 obtain ⟨z1,hz1⟩:∃ z,xs[1]?=some z:=⟨xs[1]'(by omega),List.getElem?_eq_getElem (by omega)⟩
 rw [hz1] at e1
 have c1:Tryd.prog.cellsOf 3=1:=by kernel_rfl
 replace e1:DataW.trod enc Tryd.prog W 0 (fun _ => true) true n 3 ((cs.drop 1).take 1)=some z1:=by rw [← c1];exact e1
 obtain ⟨a1,K1,q1⟩:=(Fits.int Tryd.underlying3) n _ z1.1 z1.2 e1
 replace q1:=(Qint.mono .i64) _ _ _ (hb z1 (List.mem_of_getElem? hz1)) q1
 have e2:=hall 2 _ rfl
 obtain ⟨z2,hz2⟩:∃ z,xs[2]?=some z:=⟨xs[2]'(by omega),List.getElem?_eq_getElem (by omega)⟩
 rw [hz2] at e2
 have c2:Tryd.prog.cellsOf 3=1:=by kernel_rfl
 replace e2:DataW.trod enc Tryd.prog W 0 (fun _ => true) true n 3 ((cs.drop 2).take 1)=some z2:=by rw [← c2];exact e2
 obtain ⟨a2,K2,q2⟩:=(Fits.int Tryd.underlying3) n _ z2.1 z2.2 e2
 replace q2:=(Qint.mono .i64) _ _ _ (hb z2 (List.mem_of_getElem? hz2)) q2
 have e3:=hall 3 _ rfl
 obtain ⟨z3,hz3⟩:∃ z,xs[3]?=some z:=⟨xs[3]'(by omega),List.getElem?_eq_getElem (by omega)⟩
 rw [hz3] at e3
 have c3:Tryd.prog.cellsOf 3=1:=by kernel_rfl
 replace e3:DataW.trod enc Tryd.prog W 0 (fun _ => true) true n 3 ((cs.drop 3).take 1)=some z3:=by rw [← c3];exact e3
 obtain ⟨a3,K3,q3⟩:=(Fits.int Tryd.underlying3) n _ z3.1 z3.2 e3
 replace q3:=(Qint.mono .i64) _ _ _ (hb z3 (List.mem_of_getElem? hz3)) q3
 refine ⟨⟨a0,a1,a2,a3⟩,?_,⟨q0,q1,q2,q3⟩⟩
 rw [show cs=cs.drop 0 from rfl]
 exact ⟨(cs.drop 0).take 1,cs.drop 1,by rw [← List.drop_drop (i:=1) (j:=0),List.take_append_drop],K0,⟨(cs.drop 1).take 1,cs.drop 2,by rw [← List.drop_drop (i:=1) (j:=1),List.take_append_drop],K1,⟨(cs.drop 2).take 1,cs.drop 3,by rw [← List.drop_drop (i:=1) (j:=2),List.take_append_drop],K2,(by rw [show cs.drop 3=(cs.drop 3).take 1 from (List.take_of_length_le (by rw [List.length_drop];omega)).symm];exact K3)⟩⟩⟩
def QS97 (b:Nat) (a:S97):Prop:=(Qint .i64) b a.f0∧(Qint .i64) b a.f1∧(Qint .i64) b a.f2∧(Qint .i64) b a.f3∧(Qint .i64) b a.f4∧(QAll (Qint .u8)) b a.f5∧(QAll QS120) b a.f6∧(QAll (Qint .u8)) b a.f7
theorem QS97.mono:∀ b b' a,b≤b'→QS97 b a→QS97 b' a:=fun b b' a h hq => ⟨(Qint.mono .i64) b b' a.f0 h hq.1,(Qint.mono .i64) b b' a.f1 h hq.2.1,(Qint.mono .i64) b b' a.f2 h hq.2.2.1,(Qint.mono .i64) b b' a.f3 h hq.2.2.2.1,(Qint.mono .i64) b b' a.f4 h hq.2.2.2.2.1,(QAll.mono (Qint.mono .u8)) b b' a.f5 h hq.2.2.2.2.2.1,(QAll.mono QS120.mono) b b' a.f6 h hq.2.2.2.2.2.2.1,(QAll.mono (Qint.mono .u8)) b b' a.f7 h hq.2.2.2.2.2.2.2⟩
theorem fits97 {H:Type} (enc:TypeId × Value→H) (W:World):Fits enc Tryd.prog W 97 k97 QS97:=by
 intro fuel cs x p h
 obtain ⟨xs,n,rfl,hx,hlen,hxl,hall⟩:=DataW.trod_struct Tryd.underlying97 h
 have hx1:=(Prod.mk.inj hx).1
 have hb:∀ z ∈ xs,Rows.uptoBulk z.1≤Rows.uptoBulk x:=by
  intro z hz
  rw [hx1]
  simp only [Rows.uptoBulk]
  have:=bulk_part_le (List.mem_map_of_mem (f:=(·.1)) hz)
  omega
 have hl:cs.length=8:=hlen.trans (by kernel_rfl)
 have hxl':xs.length=8:=hxl
 have e0:=hall 0 _ rfl
 obtain ⟨z0,hz0⟩:∃ z,xs[0]?=some z:=⟨xs[0]'(by omega),List.getElem?_eq_getElem (by omega)⟩
 rw [hz0] at e0
 have c0:Tryd.prog.cellsOf 3=1:=by kernel_rfl
 replace e0:DataW.trod enc Tryd.prog W 0 (fun _ => true) true n 3 ((cs.drop 0).take 1)=some z0:=by rw [← c0];exact e0
 obtain ⟨a0,K0,q0⟩:=(Fits.int Tryd.underlying3) n _ z0.1 z0.2 e0
 replace q0:=(Qint.mono .i64) _ _ _ (hb z0 (List.mem_of_getElem? hz0)) q0
 have e1:=hall 1 _ rfl
 obtain ⟨z1,hz1⟩:∃ z,xs[1]?=some z:=⟨xs[1]'(by omega),List.getElem?_eq_getElem (by omega)⟩
 rw [hz1] at e1
 have c1:Tryd.prog.cellsOf 3=1:=by kernel_rfl
 replace e1:DataW.trod enc Tryd.prog W 0 (fun _ => true) true n 3 ((cs.drop 1).take 1)=some z1:=by rw [← c1];exact e1
 obtain ⟨a1,K1,q1⟩:=(Fits.int Tryd.underlying3) n _ z1.1 z1.2 e1
 replace q1:=(Qint.mono .i64) _ _ _ (hb z1 (List.mem_of_getElem? hz1)) q1
 have e2:=hall 2 _ rfl
 obtain ⟨z2,hz2⟩:∃ z,xs[2]?=some z:=⟨xs[2]'(by omega),List.getElem?_eq_getElem (by omega)⟩
 rw [hz2] at e2
 have c2:Tryd.prog.cellsOf 3=1:=by kernel_rfl
 replace e2:DataW.trod enc Tryd.prog W 0 (fun _ => true) true n 3 ((cs.drop 2).take 1)=some z2:=by rw [← c2];exact e2
 obtain ⟨a2,K2,q2⟩:=(Fits.int Tryd.underlying3) n _ z2.1 z2.2 e2
 replace q2:=(Qint.mono .i64) _ _ _ (hb z2 (List.mem_of_getElem? hz2)) q2
 have e3:=hall 3 _ rfl
 obtain ⟨z3,hz3⟩:∃ z,xs[3]?=some z:=⟨xs[3]'(by omega),List.getElem?_eq_getElem (by omega)⟩
 rw [hz3] at e3
 have c3:Tryd.prog.cellsOf 3=1:=by kernel_rfl
 replace e3:DataW.trod enc Tryd.prog W 0 (fun _ => true) true n 3 ((cs.drop 3).take 1)=some z3:=by rw [← c3];exact e3
 obtain ⟨a3,K3,q3⟩:=(Fits.int Tryd.underlying3) n _ z3.1 z3.2 e3
 replace q3:=(Qint.mono .i64) _ _ _ (hb z3 (List.mem_of_getElem? hz3)) q3
 have e4:=hall 4 _ rfl
 obtain ⟨z4,hz4⟩:∃ z,xs[4]?=some z:=⟨xs[4]'(by omega),List.getElem?_eq_getElem (by omega)⟩
 rw [hz4] at e4
 have c4:Tryd.prog.cellsOf 3=1:=by kernel_rfl
 replace e4:DataW.trod enc Tryd.prog W 0 (fun _ => true) true n 3 ((cs.drop 4).take 1)=some z4:=by rw [← c4];exact e4
 obtain ⟨a4,K4,q4⟩:=(Fits.int Tryd.underlying3) n _ z4.1 z4.2 e4
 replace q4:=(Qint.mono .i64) _ _ _ (hb z4 (List.mem_of_getElem? hz4)) q4
 have e5:=hall 5 _ rfl
 obtain ⟨z5,hz5⟩:∃ z,xs[5]?=some z:=⟨xs[5]'(by omega),List.getElem?_eq_getElem (by omega)⟩
 rw [hz5] at e5
 have c5:Tryd.prog.cellsOf 94=1:=by kernel_rfl
 replace e5:DataW.trod enc Tryd.prog W 0 (fun _ => true) true n 94 ((cs.drop 5).take 1)=some z5:=by rw [← c5];exact e5
 obtain ⟨a5,K5,q5⟩:=(Fits.slice (Qint.mono .u8) Tryd.underlying94 (by kernel_rfl) (Fits.int Tryd.underlying5)) n _ z5.1 z5.2 e5
 replace q5:=(QAll.mono (Qint.mono .u8)) _ _ _ (hb z5 (List.mem_of_getElem? hz5)) q5
 have e6:=hall 6 _ rfl
 obtain ⟨z6,hz6⟩:∃ z,xs[6]?=some z:=⟨xs[6]'(by omega),List.getElem?_eq_getElem (by omega)⟩
 rw [hz6] at e6
 have c6:Tryd.prog.cellsOf 95=1:=by kernel_rfl
 replace e6:DataW.trod enc Tryd.prog W 0 (fun _ => true) true n 95 ((cs.drop 6).take 1)=some z6:=by rw [← c6];exact e6
 obtain ⟨a6,K6,q6⟩:=(Fits.slice QS120.mono Tryd.underlying95 (by kernel_rfl) (fits120 enc W)) n _ z6.1 z6.2 e6
 replace q6:=(QAll.mono QS120.mono) _ _ _ (hb z6 (List.mem_of_getElem? hz6)) q6
 have e7:=hall 7 _ rfl
 obtain ⟨z7,hz7⟩:∃ z,xs[7]?=some z:=⟨xs[7]'(by omega),List.getElem?_eq_getElem (by omega)⟩
 rw [hz7] at e7
 have c7:Tryd.prog.cellsOf 94=1:=by kernel_rfl
 replace e7:DataW.trod enc Tryd.prog W 0 (fun _ => true) true n 94 ((cs.drop 7).take 1)=some z7:=by rw [← c7];exact e7
 obtain ⟨a7,K7,q7⟩:=(Fits.slice (Qint.mono .u8) Tryd.underlying94 (by kernel_rfl) (Fits.int Tryd.underlying5)) n _ z7.1 z7.2 e7
 replace q7:=(QAll.mono (Qint.mono .u8)) _ _ _ (hb z7 (List.mem_of_getElem? hz7)) q7
 refine ⟨⟨a0,a1,a2,a3,a4,a5,a6,a7⟩,?_,⟨q0,q1,q2,q3,q4,q5,q6,q7⟩⟩
 rw [show cs=cs.drop 0 from rfl]
 exact ⟨(cs.drop 0).take 1,cs.drop 1,by rw [← List.drop_drop (i:=1) (j:=0),List.take_append_drop],K0,⟨(cs.drop 1).take 1,cs.drop 2,by rw [← List.drop_drop (i:=1) (j:=1),List.take_append_drop],K1,⟨(cs.drop 2).take 1,cs.drop 3,by rw [← List.drop_drop (i:=1) (j:=2),List.take_append_drop],K2,⟨(cs.drop 3).take 1,cs.drop 4,by rw [← List.drop_drop (i:=1) (j:=3),List.take_append_drop],K3,⟨(cs.drop 4).take 1,cs.drop 5,by rw [← List.drop_drop (i:=1) (j:=4),List.take_append_drop],K4,⟨(cs.drop 5).take 1,cs.drop 6,by rw [← List.drop_drop (i:=1) (j:=5),List.take_append_drop],K5,⟨(cs.drop 6).take 1,cs.drop 7,by rw [← List.drop_drop (i:=1) (j:=6),List.take_append_drop],K6,(by rw [show cs.drop 7=(cs.drop 7).take 1 from (List.take_of_length_le (by rw [List.length_drop];omega)).symm];exact K7)⟩⟩⟩⟩⟩⟩⟩
def QS43 (b:Nat) (a:S43):Prop:=(QAll QS108) b a.f0∧(Qint .i64) b a.f1∧(Qint .i64) b a.f2∧(QAll QS102) b a.f3∧(QAll QS97) b a.f4
theorem QS43.mono:∀ b b' a,b≤b'→QS43 b a→QS43 b' a:=fun b b' a h hq => ⟨(QAll.mono QS108.mono) b b' a.f0 h hq.1,(Qint.mono .i64) b b' a.f1 h hq.2.1,(Qint.mono .i64) b b' a.f2 h hq.2.2.1,(QAll.mono QS102.mono) b b' a.f3 h hq.2.2.2.1,(QAll.mono QS97.mono) b b' a.f4 h hq.2.2.2.2⟩
theorem fits43 {H:Type} (enc:TypeId × Value→H) (W:World):Fits enc Tryd.prog W 43 k43 QS43:=by
 intro fuel cs x p h
 obtain ⟨xs,n,rfl,hx,hlen,hxl,hall⟩:=DataW.trod_struct Tryd.underlying43 h
 have hx1:=(Prod.mk.inj hx).1
 have hb:∀ z ∈ xs,Rows.uptoBulk z.1≤Rows.uptoBulk x:=by
  intro z hz
  rw [hx1]
  simp only [Rows.uptoBulk]
  have:=bulk_part_le (List.mem_map_of_mem (f:=(·.1)) hz)
  omega
 have hl:cs.length=5:=hlen.trans (by kernel_rfl)
 have hxl':xs.length=5:=hxl
 have e0:=hall 0 _ rfl
 obtain ⟨z0,hz0⟩:∃ z,xs[0]?=some z:=⟨xs[0]'(by omega),List.getElem?_eq_getElem (by omega)⟩
 rw [hz0] at e0
 have c0:Tryd.prog.cellsOf 39=1:=by kernel_rfl
 replace e0:DataW.trod enc Tryd.prog W 0 (fun _ => true) true n 39 ((cs.drop 0).take 1)=some z0:=by rw [← c0];exact e0
 obtain ⟨a0,K0,q0⟩:=(Fits.slice QS108.mono Tryd.underlying39 (by kernel_rfl) (fits108 enc W)) n _ z0.1 z0.2 e0
 replace q0:=(QAll.mono QS108.mono) _ _ _ (hb z0 (List.mem_of_getElem? hz0)) q0
 have e1:=hall 1 _ rfl
 obtain ⟨z1,hz1⟩:∃ z,xs[1]?=some z:=⟨xs[1]'(by omega),List.getElem?_eq_getElem (by omega)⟩
 rw [hz1] at e1
 have c1:Tryd.prog.cellsOf 3=1:=by kernel_rfl
 replace e1:DataW.trod enc Tryd.prog W 0 (fun _ => true) true n 3 ((cs.drop 1).take 1)=some z1:=by rw [← c1];exact e1
 obtain ⟨a1,K1,q1⟩:=(Fits.int Tryd.underlying3) n _ z1.1 z1.2 e1
 replace q1:=(Qint.mono .i64) _ _ _ (hb z1 (List.mem_of_getElem? hz1)) q1
 have e2:=hall 2 _ rfl
 obtain ⟨z2,hz2⟩:∃ z,xs[2]?=some z:=⟨xs[2]'(by omega),List.getElem?_eq_getElem (by omega)⟩
 rw [hz2] at e2
 have c2:Tryd.prog.cellsOf 3=1:=by kernel_rfl
 replace e2:DataW.trod enc Tryd.prog W 0 (fun _ => true) true n 3 ((cs.drop 2).take 1)=some z2:=by rw [← c2];exact e2
 obtain ⟨a2,K2,q2⟩:=(Fits.int Tryd.underlying3) n _ z2.1 z2.2 e2
 replace q2:=(Qint.mono .i64) _ _ _ (hb z2 (List.mem_of_getElem? hz2)) q2
 have e3:=hall 3 _ rfl
 obtain ⟨z3,hz3⟩:∃ z,xs[3]?=some z:=⟨xs[3]'(by omega),List.getElem?_eq_getElem (by omega)⟩
 rw [hz3] at e3
 have c3:Tryd.prog.cellsOf 40=1:=by kernel_rfl
 replace e3:DataW.trod enc Tryd.prog W 0 (fun _ => true) true n 40 ((cs.drop 3).take 1)=some z3:=by rw [← c3];exact e3
 obtain ⟨a3,K3,q3⟩:=(Fits.slice QS102.mono Tryd.underlying40 (by kernel_rfl) (fits102 enc W)) n _ z3.1 z3.2 e3
 replace q3:=(QAll.mono QS102.mono) _ _ _ (hb z3 (List.mem_of_getElem? hz3)) q3
 have e4:=hall 4 _ rfl
 obtain ⟨z4,hz4⟩:∃ z,xs[4]?=some z:=⟨xs[4]'(by omega),List.getElem?_eq_getElem (by omega)⟩
 rw [hz4] at e4
 have c4:Tryd.prog.cellsOf 41=1:=by kernel_rfl
 replace e4:DataW.trod enc Tryd.prog W 0 (fun _ => true) true n 41 ((cs.drop 4).take 1)=some z4:=by rw [← c4];exact e4
 obtain ⟨a4,K4,q4⟩:=(Fits.slice QS97.mono Tryd.underlying41 (by kernel_rfl) (fits97 enc W)) n _ z4.1 z4.2 e4
 replace q4:=(QAll.mono QS97.mono) _ _ _ (hb z4 (List.mem_of_getElem? hz4)) q4
 refine ⟨⟨a0,a1,a2,a3,a4⟩,?_,⟨q0,q1,q2,q3,q4⟩⟩
 rw [show cs=cs.drop 0 from rfl]
 exact ⟨(cs.drop 0).take 1,cs.drop 1,by rw [← List.drop_drop (i:=1) (j:=0),List.take_append_drop],K0,⟨(cs.drop 1).take 1,cs.drop 2,by rw [← List.drop_drop (i:=1) (j:=1),List.take_append_drop],K1,⟨(cs.drop 2).take 1,cs.drop 3,by rw [← List.drop_drop (i:=1) (j:=2),List.take_append_drop],K2,⟨(cs.drop 3).take 1,cs.drop 4,by rw [← List.drop_drop (i:=1) (j:=3),List.take_append_drop],K3,(by rw [show cs.drop 4=(cs.drop 4).take 1 from (List.take_of_length_le (by rw [List.length_drop];omega)).symm];exact K4)⟩⟩⟩⟩
end Go.Proofs.YtoonhpcjcimecaaDoor.Px
namespace Go.Proofs.YtoonhpcjcimecaaDoor.Px
open Go.RowKit Go.Maps Go.Proofs.YtoonhpcjcimecaaDoorW.PrintWords Go.Proofs.YtoonhpcjcimecaaDoorW.PrintLast Go.Proofs.YtoonhpcjcimecaaDoorW.PrintMore
set_option linter.unusedVariables false
set_option linter.unusedSimpArgs false
def kIfc {α:Type} (t:TypeId) (d:Kd α):Kd α where
 sz:=1
 E:=d.E
 K:=fun w x cs => ∃ cc:List Value,d.K w x cc∧cs=[.iface t (.agg cc.toArray)]
 M:=fun w b ok x cs => ∃ cc:List Value,d.M w b ok x cc∧cs=[.iface t (.agg cc.toArray)]
 K_len:=by
  rintro w x cs ⟨cc,_,rfl⟩
  rfl
 K_one:=by
  rintro w x cs ⟨cc,_,rfl⟩ u hu
  rw [List.mem_singleton.1 hu]
  rfl
 K_below:=by
  rintro w w1 x cs hb ⟨cc,h,rfl⟩
  exact ⟨cc,d.K_below hb h,rfl⟩
 K_of_M:=by
  rintro w b ok x cs ⟨cc,h,rfl⟩
  exact ⟨cc,d.K_of_M h,rfl⟩
 M_mono:=by
  rintro w b ok ok' x cs hok ⟨cc,h,rfl⟩
  exact ⟨cc,d.M_mono hok h,rfl⟩
 M_bound:=by
  rintro w b ok x cs ⟨cc,h,rfl⟩
  exact ⟨cc,d.M_bound h,rfl⟩
 M_move:=by
  rintro w w1 b ok x cs hm ⟨cc,h,rfl⟩
  exact ⟨cc,d.M_move hm h,rfl⟩
 M_lower:=by
  rintro w b b' ok x cs hb ⟨cc,h,rfl⟩
  exact ⟨cc,d.M_lower hb h,rfl⟩
def kSum {α β:Type} (a:Kd α) (b:Kd β) (hs:b.sz=a.sz):Kd (α ⊕ β) where
 sz:=a.sz
 E:=a.E++b.E
 K:=fun w x cs => Sum.elim (fun y => a.K w y cs) (fun y => b.K w y cs) x
 M:=fun w B ok x cs => Sum.elim (fun y => a.M w B ok y cs) (fun y => b.M w B ok y cs) x
 K_len:=fun {w x cs} h => by cases x with
  | inl y => exact a.K_len h
  | inr y => exact (b.K_len h).trans hs
 K_one:=fun {w x cs} h => by cases x with
  | inl y => exact a.K_one h
  | inr y => exact b.K_one h
 K_below:=fun {w w1 x cs} hb h => by cases x with
  | inl y => exact a.K_below hb h
  | inr y => exact b.K_below hb h
 K_of_M:=fun {w B ok x cs} h => by cases x with
  | inl y => exact a.K_of_M h
  | inr y => exact b.K_of_M h
 M_mono:=fun {w B ok ok' x cs} hok h => by cases x with
  | inl y => exact a.M_mono hok h
  | inr y => exact b.M_mono hok h
 M_bound:=fun {w B ok x cs} h => by cases x with
  | inl y =>
   refine a.M_mono ?_ (a.M_bound h)
   rintro k ⟨h2,h3,h4,q,hq,hc⟩
   exact ⟨h2,h3,h4,q,List.mem_append_left _ hq,hc⟩
  | inr y =>
   refine b.M_mono ?_ (b.M_bound h)
   rintro k ⟨h2,h3,h4,q,hq,hc⟩
   exact ⟨h2,h3,h4,q,List.mem_append_right _ hq,hc⟩
 M_move:=fun {w w1 B ok x cs} hm h => by cases x with
  | inl y => exact a.M_move hm h
  | inr y => exact b.M_move hm h
 M_lower:=fun {w B B' ok x cs} hb h => by cases x with
  | inl y => exact a.M_lower hb h
  | inr y => exact b.M_lower hb h
abbrev Mem:=S86
abbrev Cl:=S43
abbrev Ty5:=S78
abbrev kMem:Kd Mem:=k86
abbrev kCl:Kd Cl:=k43
structure Bi where
 name:ByteArray
 super:ByteArray
 l:List Mem
def kBi:Kd Bi:=Kd.iso (Kd.pair Kd.string (Kd.pair Kd.string (Kd.slice 86 kMem))) (fun x:Bi => (x.name,x.super,x.l))
abbrev Src:=Bi ⊕ Cl
def kSrc:Kd Src:=kSum (kIfc 88 kBi) (kIfc 63 kCl) rfl
structure Ent where
 src:Src
 name:ByteArray
 super:Int
 fields:List Mem
 methods:List Mem
 slots:Int
 statics:Int
def zEnt:Ent:=⟨.inl ⟨⟨#[]⟩,⟨#[]⟩,[]⟩,⟨#[]⟩,0,[],[],0,0⟩
def kEnt:Kd Ent:=Kd.iso (Kd.pair kSrc (Kd.pair Kd.string (Kd.pair (Kd.int .i64) (Kd.pair (Kd.slice 86 kMem) (Kd.pair (Kd.slice 86 kMem) (Kd.pair (Kd.int .i64) (Kd.int .i64))))))) (fun x:Ent => (x.src,x.name,x.super,x.fields,x.methods,x.slots,x.statics))
theorem kSrc_one {w:World} {x:Src} {cs:List Value} (h:kSrc.K w x cs):∃ s,cs=[s]:=by
 cases x with
 | inl y => obtain ⟨cc,_,rfl⟩:=h;exact ⟨_,rfl⟩
 | inr y => obtain ⟨cc,_,rfl⟩:=h;exact ⟨_,rfl⟩
theorem kSrc_oneM {w:World} {b:Nat} {ok:Nat→Prop} {x:Src} {cs:List Value} (h:kSrc.M w b ok x cs):∃ s,cs=[s]:=kSrc_one (kSrc.K_of_M h)
theorem kEnt_open {w:World} {x:Ent} {cs:List Value} (h:kEnt.K w x cs):∃ s A3 c3 A4 c4,cs=[s,.string x.name,.int .i64 x.super,.slice A3 x.fields.length c3,.slice A4 x.methods.length c4,.int .i64 x.slots,.int .i64 x.statics]∧kSrc.K w x.src [s]∧x.fields.length≤c3∧kMem.C w A3 x.fields.length x.fields∧x.methods.length≤c4∧kMem.C w A4 x.methods.length x.methods:=by
 obtain ⟨_,_,rfl,g0,⟨_,_,rfl,rfl,⟨_,_,rfl,rfl,⟨_,_,rfl,⟨A3,c3,rfl,l3,g3⟩,⟨_,_,rfl,⟨A4,c4,rfl,l4,g4⟩,⟨_,_,rfl,rfl,rfl⟩⟩⟩⟩⟩⟩:=h
 obtain ⟨s,rfl⟩:=kSrc_one g0
 exact ⟨s,A3,c3,A4,c4,rfl,g0,l3,g3,l4,g4⟩
theorem kEnt_openM {w:World} {b:Nat} {ok:Nat→Prop} {x:Ent} {cs:List Value} (h:kEnt.M w b ok x cs):∃ s v3 v4,cs=[s,.string x.name,.int .i64 x.super,v3,v4,.int .i64 x.slots,.int .i64 x.statics]∧kSrc.M w b ok x.src [s]∧kMem.R 86 w b ok v3 x.fields∧kMem.R 86 w b ok v4 x.methods:=by
 obtain ⟨_,_,rfl,g0,⟨_,_,rfl,rfl,⟨_,_,rfl,rfl,⟨_,_,rfl,⟨v3,rfl,g3⟩,⟨_,_,rfl,⟨v4,rfl,g4⟩,⟨_,_,rfl,rfl,rfl⟩⟩⟩⟩⟩⟩:=h
 obtain ⟨s,rfl⟩:=kSrc_oneM g0
 exact ⟨s,v3,v4,rfl,g0,g3,g4⟩
theorem kEnt_mkM (w:World) (b:Nat) (ok:Nat→Prop) (x:Ent) {s v3 v4:Value} (g0:kSrc.M w b ok x.src [s]) (g3:kMem.R 86 w b ok v3 x.fields) (g4:kMem.R 86 w b ok v4 x.methods):kEnt.M w b ok x [s,.string x.name,.int .i64 x.super,v3,v4,.int .i64 x.slots,.int .i64 x.statics] :=
 ⟨[s],[.string x.name,.int .i64 x.super,v3,v4,.int .i64 x.slots,.int .i64 x.statics],rfl,g0,⟨[.string x.name],[.int .i64 x.super,v3,v4,.int .i64 x.slots,.int .i64 x.statics],rfl,rfl,⟨[.int .i64 x.super],[v3,v4,.int .i64 x.slots,.int .i64 x.statics],rfl,rfl,⟨[v3],[v4,.int .i64 x.slots,.int .i64 x.statics],rfl,⟨v3,rfl,g3⟩,⟨[v4],[.int .i64 x.slots,.int .i64 x.statics],rfl,⟨v4,rfl,g4⟩,⟨[.int .i64 x.slots],[.int .i64 x.statics],rfl,rfl,rfl⟩⟩⟩⟩⟩⟩
def rd_Ent (xs:List Ent) (i:Int):Ent:=xs.getD i.toNat zEnt
structure EntAt (w:World) (q:Addr) (x:Ent) (s:Value) (A3:Option Addr) (c3:Nat) (A4:Option Addr) (c4:Nat):Prop where
 e0:w.cell? q=some s
 e1:w.cell? ⟨q.block,q.off + 1,none⟩=some (.string x.name)
 e2:w.cell? ⟨q.block,q.off + 2,none⟩=some (.int .i64 x.super)
 e3:w.cell? ⟨q.block,q.off + 3,none⟩=some (.slice A3 x.fields.length c3)
 e4:w.cell? ⟨q.block,q.off + 4,none⟩=some (.slice A4 x.methods.length c4)
 e5:w.cell? ⟨q.block,q.off + 5,none⟩=some (.int .i64 x.slots)
 e6:w.cell? ⟨q.block,q.off + 6,none⟩=some (.int .i64 x.statics)
 ks:kSrc.K w x.src [s]
 l3:x.fields.length≤c3
 g3:kMem.C w A3 x.fields.length x.fields
 l4:x.methods.length≤c4
 g4:kMem.C w A4 x.methods.length x.methods
theorem at_Ent {w:World} {A:Option Addr} {n:Nat} {xs:List Ent} (h:Kd.C kEnt w A n xs) (i:Int) (h0:0≤i) (h1:i < n):∃ ad s A3 c3 A4 c4,A=some ad∧EntAt w (ad.add (i.toNat * 7)) (rd_Ent xs i) s A3 c3 A4 c4:=by
 obtain ⟨ad,c,e,_,hK,hc0⟩:=Kd.C_get h zEnt i h0 h1
 have hc:∀ j u,c[j]?=some u→w.cell? (ad.add (i.toNat * 7 + j))=some u:=hc0
 obtain ⟨s,A3,c3,A4,c4,rfl,g0,l3,g3,l4,g4⟩:=kEnt_open hK
 exact ⟨ad,s,A3,c3,A4,c4,e,hc 0 _ rfl,by rw [← add_field _ _ 1 (by omega)];exact hc 1 _ rfl,by rw [← add_field _ _ 2 (by omega)];exact hc 2 _ rfl,by rw [← add_field _ _ 3 (by omega)];exact hc 3 _ rfl,by rw [← add_field _ _ 4 (by omega)];exact hc 4 _ rfl,by rw [← add_field _ _ 5 (by omega)];exact hc 5 _ rfl,by rw [← add_field _ _ 6 (by omega)];exact hc 6 _ rfl,g0,l3,g3,l4,g4⟩
theorem R_setOne {α:Type} {d:Kd α} {e:Nat} {w:World} {B:Nat} {ok:Nat→Prop} {v:Value} {xs:List α} (h:d.R e w B ok v xs) {i:Nat} {x x':α} (hi:xs[i]?=some x) (j:Nat) (hj:j < d.sz) (u:Value)
  (hx:∀ (w1:World) (ok1:Nat→Prop) (cs:List Value),d.M w1 B ok1 x cs→d.M w1 B ok1 x' (cs.set j u)) :
  ∃ g c,v=.slice (some ⟨g,0,none⟩) xs.length c∧B≤g∧(∃ cur,w.heap[g]?=some (.cells cur e (0,0)))∧w.frozen? ⟨g,i * d.sz + j,none⟩=false∧(∃ o,w.cell? ⟨g,i * d.sz + j,none⟩=some o)∧d.R e (w.setCell ⟨g,i * d.sz + j,none⟩ u) B ok v (xs.set i x'):=by
 have hil:i < xs.length:=(List.getElem?_eq_some_iff.1 hi).1
 obtain ⟨h0,inner,ho,hr⟩:=h
 have ho':=ho
 obtain ⟨hlen,ho2⟩:=ho
 rcases ho2 with ⟨rfl,h00⟩|⟨g,cap,cur,rfl,hB,hh,hn,hcap,hsz,htk⟩
 ·omega
 have hmul:i * d.sz + j < xs.length * d.sz:=by
  have:(i + 1) * d.sz≤xs.length * d.sz:=Nat.mul_le_mul_right _ (by omega)
  rw [Nat.add_mul,Nat.one_mul] at this
  omega
 have hjs:i * d.sz + j < cur.size:=by
  have:xs.length * d.sz≤cap * d.sz:=Nat.mul_le_mul_right _ hn
  omega
 refine ⟨g,cap,rfl,hB,⟨cur,hh⟩,blk_frozen hh _,⟨cur[i * d.sz + j],(blk_cell hh _).trans (Array.getElem?_eq_getElem hjs)⟩,?_⟩
 obtain ⟨hown1,hgrow⟩:=ho'.stored (i * d.sz + j) u
 have mv:∀ y cs,d.M w B (fun k => ok k∧some k ≠ (Value.slice (some ⟨g,0,none⟩) xs.length cap).ownBlock) y cs→d.M (w.setCell ⟨g,i * d.sz + j,none⟩ u) B (fun k => ok k∧some k ≠ (Value.slice (some ⟨g,0,none⟩) xs.length cap).ownBlock) y cs:=fun y cs hy => Kd.M_grown hy hgrow (fun k hk => hk.2)
 refine ⟨h0,inner.set (i * d.sz + j) u,by rw [List.length_set];exact hown1,by rw [List.length_set,List.length_set];exact hr.1,fun q p hq => ?_⟩
 rw [List.drop_set]
 by_cases hqi:q=i
 ·subst hqi
  rw [List.getElem?_set_self hil] at hq
  obtain rfl:=Option.some.inj hq
  rw [if_neg (by omega),List.take_set,show q * d.sz + j - q * d.sz=j by omega]
  exact hx _ _ _ (mv _ _ (hr.2 q x hi))
 ·rw [List.getElem?_set_ne (fun e => hqi e.symm)] at hq
  have hp:=mv _ _ (hr.2 q p hq)
  by_cases hlt:i * d.sz + j < q * d.sz
  ·rw [if_pos hlt];exact hp
  ·rw [if_neg hlt,List.take_set,List.set_eq_of_length_le ?_]
   ·exact hp
   ·have h1:q < i:=by
     rcases Nat.lt_or_ge q i with h|h
     ·exact h
     ·exfalso
      have h2:(i + 1) * d.sz≤q * d.sz:=Nat.mul_le_mul_right _ (by omega)
      rw [Nat.add_mul,Nat.one_mul] at h2
      omega
    have h3:(q + 1) * d.sz≤i * d.sz:=Nat.mul_le_mul_right _ h1
    rw [Nat.add_mul,Nat.one_mul] at h3
    rw [List.length_take]
    omega
def idxN (ns:List ByteArray) (s:ByteArray):Option Nat:=ns.findIdx? (fun x => decide (x.data.toList=s.data.toList))
def keyS (s:ByteArray):Lit:=.string s.data.toList
def MapOf (D:DataW Unit) (ns:List ByteArray):Prop:=∀ s:ByteArray,Maps.has D (keyS s)=(idxN ns s).isSome∧D.atKey (keyS s) (.lit (.int .i64 0))=.lit (.int .i64 (((idxN ns s).getD 0:Nat):Int))
abbrev pMap (w:World) (m n:Nat) (D:DataW Unit):Prop:=w.ownsMap Tryd.prog 9 (plainElem Tryd.prog 3) m n D
theorem kString:Keyed Tryd.prog 9:=string_keyed Tryd.underlying9
theorem zInt (w:World):(zeroValue 3).run Tryd.prog w=.ok (.int .i64 0) w:=by kernel_rfl
theorem pMap_below {w w':World} {m n:Nat} {D:DataW Unit} (h:pMap w m n D) (hb:Below w.heap.size w w'):pMap w' m n D:=by
 obtain ⟨es,clock,hh,F,hs,hD⟩:=h
 exact ⟨es,clock,(hb.block _ (blk_lt hh)).trans hh,F,hs,hD⟩
structure IsPC (w:World) (p:Nat) (L:List Ent):Prop where
 ex:∃ A c m n D,w.heap[p]?=some (.cells #[.slice A L.length c,.map (some m),.bool true] 54 (0,0))∧L.length≤c∧Kd.C kEnt w A L.length L∧pMap w m n D∧MapOf D (L.map (·.name))
theorem IsPC.below {w w':World} {p:Nat} {L:List Ent} (h:IsPC w p L) (hb:Below w.heap.size w w'):IsPC w' p L:=by
 obtain ⟨A,c,m,n,D,h1,h2,h3,h4,h5⟩:=h.ex
 exact ⟨A,c,m,n,D,(hb.block _ (blk_lt h1)).trans h1,h2,Kd.C_below h3 hb,pMap_below h4 hb,h5⟩
structure IsP (w:World) (B p m n:Nat) (D:DataW Unit) (v:Value) (L:List Ent):Prop where
 blk:w.heap[p]?=some (.cells #[v,.map (some m),.bool true] 54 (0,0))
 rows:Kd.R kEnt 71 w B (fun _ => True) v L
 mp:pMap w m n D
 mo:MapOf D (L.map (·.name))
 hp:B≤p
 hm:B≤m
 hn:n≤L.length
theorem IsP.pc {w:World} {B p m n:Nat} {D:DataW Unit} {v:Value} {L:List Ent} (h:IsP w B p m n D v L):IsPC w p L:=by
 obtain ⟨A,c,rfl,hl,hC⟩:=Kd.R_reads h.rows
 exact ⟨A,c,m,n,D,h.blk,hl,hC,h.mp,h.mo⟩
theorem IsP.below {w w':World} {B p m n:Nat} {D:DataW Unit} {v:Value} {L:List Ent} (h:IsP w B p m n D v L) (hb:Below w.heap.size w w'):IsP w' B p m n D v L :=
 ⟨(hb.block _ (blk_lt h.blk)).trans h.blk,Kd.R_below h.rows hb,pMap_below h.mp hb,h.mo,h.hp,h.hm,h.hn⟩
end Go.Proofs.YtoonhpcjcimecaaDoor.Px
namespace Go.Proofs.YtoonhpcjcimecaaDoor.Px
open Go.RowKit Go.Maps Go.Proofs.YtoonhpcjcimecaaDoorW.PrintWords Go.Proofs.YtoonhpcjcimecaaDoorW.PrintLast Go.Proofs.YtoonhpcjcimecaaDoorW.PrintMore
set_option linter.unusedVariables false
set_option linter.unusedSimpArgs false
abbrev pp (p:Nat):Value:=.pointer (some ⟨p,0,none⟩)
def hasV (L:List Ent) (n:Int):Bool:=decide (0≤n∧n < (L.length:Int))
theorem link_none.calls {w:World} {p:Nat} {L:List Ent} (hI:IsPC w p L):Calls Tryd.prog 26 #[pp p] w fun e w' => e=.returned (.bool false)∧w'=w:=by
 obtain ⟨A,c,m,n,D,hb,_⟩:=hI.ex
 have c2:w.cell? ⟨p,2,none⟩=some (.bool true):=(blk_cell hb 2).trans rfl
 clear hb hI
 go_enter Tryd.func26,Tryd.ntmps26
 go_wp2
 go_ret
 exact ⟨rfl,rfl⟩
theorem link_has.calls {w:World} {p:Nat} {L:List Ent} (n:Int) (hI:IsPC w p L):Calls Tryd.prog 27 #[pp p,.int .i64 n] w fun e w' => e=.returned (.bool (hasV L n))∧w'=w:=by
 have HI:=Aside0.mk hI
 obtain ⟨A,c,m,k,D,hb,_⟩:=hI.ex
 have c0:w.cell? ⟨p,0,none⟩=some (.slice A L.length c):=(blk_cell hb 0).trans rfl
 clear hb hI
 unfold hasV
 go_enter Tryd.func27,Tryd.ntmps27
 go_wp2_with fail
 refine (link_none.calls HI.out).mono ?_
 rintro _ W ⟨rfl,rfl⟩
 clear HI
 by_cases h0:0≤n
 ·have b0:decide (0≤n)=true:=decide_eq_true h0
  go_wp2
  go_ret
  exact ⟨by simp [h0],rfl⟩
 ·have b0:decide (0≤n)=false:=decide_eq_false h0
  have e:decide (0≤n∧n < (L.length:Int))=false:=decide_eq_false (fun x => h0 x.1)
  go_wp2
  go_ret
  exact ⟨by rw [e];rfl,rfl⟩
theorem link_Len.calls {w:World} {p:Nat} {L:List Ent} (hI:IsPC w p L):Calls Tryd.prog 8 #[pp p] w fun e w' => e=.returned (.int .i64 (L.length:Int))∧w'=w:=by
 have HI:=Aside0.mk hI
 obtain ⟨A,c,m,k,D,hb,_⟩:=hI.ex
 have c0:w.cell? ⟨p,0,none⟩=some (.slice A L.length c):=(blk_cell hb 0).trans rfl
 clear hb hI
 go_enter Tryd.func8,Tryd.ntmps8
 go_wp2_with fail
 refine (link_none.calls HI.out).mono ?_
 rintro _ W ⟨rfl,rfl⟩
 clear HI
 go_wp2
 go_ret
 exact ⟨rfl,rfl⟩
theorem hasV_true {L:List Ent} {n:Int} (h:hasV L n=true):0≤n∧n < (L.length:Int):=of_decide_eq_true h
def nameV (L:List Ent) (n:Int):ByteArray:=if hasV L n=true then (rd_Ent L n).name else ⟨#[]⟩
def superV (L:List Ent) (n:Int):Int:=if hasV L n=true then (rd_Ent L n).super else -1
theorem link_Name.calls {w:World} {p:Nat} {L:List Ent} (n:Int) (hI:IsPC w p L):Calls Tryd.prog 14 #[pp p,.int .i64 n] w fun e w' => e=.returned (.string (nameV L n))∧w'=w:=by
 have HI:=Aside0.mk hI
 obtain ⟨A,c,m,k,D,hb,hl,hC,_⟩:=hI.ex
 have c0:w.cell? ⟨p,0,none⟩=some (.slice A L.length c):=(blk_cell hb 0).trans rfl
 have HC:=Aside0.mk hC
 clear hb hI hC hl
 obtain ⟨r,hr⟩:∃ r,r=nameV L n:=⟨_,rfl⟩
 rw [← hr]
 unfold nameV at hr
 have HR:=Aside0.mk hr
 clear hr
 go_enter Tryd.func14,Tryd.ntmps14
 go_wp2_with fail
 refine (link_has.calls n HI.out).mono ?_
 rintro _ W ⟨rfl,rfl⟩
 clear HI
 by_cases hh:hasV L n=true
 ·obtain ⟨p1,q1⟩:=hasV_true hh
  obtain ⟨ad,s,A3,c3,A4,c4,e1,hE⟩:=at_Ent HC.out n p1 q1
  cases e1
  have x1:=hE.e1
  replace p1:=eq_true p1
  replace q1:=eq_true q1
  clear hE HC
  go_wp2
  go_ret
  exact ⟨by rw [HR.out,if_pos hh];rfl,rfl⟩
 ·have hr:=HR.out
  rw [if_neg hh] at hr
  subst hr
  clear HR
  replace hh:hasV L n=false:=by simpa using hh
  go_wp2
  go_ret
  exact ⟨rfl,rfl⟩
theorem link_Super.calls {w:World} {p:Nat} {L:List Ent} (n:Int) (hI:IsPC w p L):Calls Tryd.prog 9 #[pp p,.int .i64 n] w fun e w' => e=.returned (.int .i64 (superV L n))∧w'=w:=by
 have HI:=Aside0.mk hI
 obtain ⟨A,c,m,k,D,hb,hl,hC,_⟩:=hI.ex
 have c0:w.cell? ⟨p,0,none⟩=some (.slice A L.length c):=(blk_cell hb 0).trans rfl
 have HC:=Aside0.mk hC
 clear hb hI hC hl
 obtain ⟨r,hr⟩:∃ r,r=superV L n:=⟨_,rfl⟩
 rw [← hr]
 unfold superV at hr
 have HR:=Aside0.mk hr
 clear hr
 go_enter Tryd.func9,Tryd.ntmps9
 go_wp2_with fail
 refine (link_has.calls n HI.out).mono ?_
 rintro _ W ⟨rfl,rfl⟩
 clear HI
 by_cases hh:hasV L n=true
 ·obtain ⟨p1,q1⟩:=hasV_true hh
  obtain ⟨ad,s,A3,c3,A4,c4,e1,hE⟩:=at_Ent HC.out n p1 q1
  cases e1
  have x2:=hE.e2
  replace p1:=eq_true p1
  replace q1:=eq_true q1
  clear hE HC
  go_wp2
  go_ret
  exact ⟨by rw [HR.out,if_pos hh];rfl,rfl⟩
 ·have hr:=HR.out
  rw [if_neg hh] at hr
  subst hr
  clear HR
  replace hh:hasV L n=false:=by simpa using hh
  go_wp2
  go_ret
  exact ⟨rfl,rfl⟩
theorem atKey_int {a b:Int} (h:(DataW.lit (H:=Unit) (.int .i64 a))=.lit (.int .i64 b)):a=b:=by injection h with h;injection h
end Go.Proofs.YtoonhpcjcimecaaDoor.Px
namespace Go.Proofs.YtoonhpcjcimecaaDoor.Px
open Go.RowKit Go.Maps Go.Proofs.YtoonhpcjcimecaaDoorW.PrintWords Go.Proofs.YtoonhpcjcimecaaDoorW.PrintLast Go.Proofs.YtoonhpcjcimecaaDoorW.PrintMore
set_option linter.unusedVariables false
set_option linter.unusedSimpArgs false
structure Chain (L:List Ent) (d:Int→Nat):Prop where
 len:L.length≤1048576
 up:∀ a,0≤a→a < (L.length:Int)→-1≤(rd_Ent L a).super∧(rd_Ent L a).super < (L.length:Int)∧(0≤(rd_Ent L a).super→d (rd_Ent L a).super < d a)
def climb (L:List Ent):Nat→Int→Int→Int
 | 0,a,_ => a
 | k + 1,a,b => if 0≤a∧a ≠ b then climb L k (rd_Ent L a).super b else a
def dUp (d:Int→Nat) (a:Int):Nat:=if 0≤a then d a + 1 else 0
theorem climb_neg (L:List Ent) (k:Nat) {a:Int} (b:Int) (h:¬ 0≤a):climb L k a b=a:=by
 cases k with
 | zero => rfl
 | succ k => exact if_neg (fun x => h x.1)
theorem climb_fuel {L:List Ent} {d:Int→Nat} (hC:Chain L d) (b:Int):∀ (m k j:Nat) (a:Int),a < (L.length:Int)→dUp d a≤m→dUp d a≤k→dUp d a≤j→climb L k a b=climb L j a b:=by
 intro m
 induction m with
 | zero =>
  intro k j a _ hm _ _
  have h:¬ 0≤a:=fun h => by unfold dUp at hm;rw [if_pos h] at hm;omega
  rw [climb_neg L k b h,climb_neg L j b h]
 | succ m ih =>
  intro k j a ha hm hk hj
  by_cases h:0≤a
  ·have e:dUp d a=d a + 1:=if_pos h
   obtain ⟨k',rfl⟩:∃ k',k=k' + 1:=⟨k - 1,by omega⟩
   obtain ⟨j',rfl⟩:∃ j',j=j' + 1:=⟨j - 1,by omega⟩
   simp only [climb]
   by_cases hb:0≤a∧a ≠ b
   ·rw [if_pos hb,if_pos hb]
    obtain ⟨_,u2,u3⟩:=hC.up a h ha
    have hd:dUp d (rd_Ent L a).super≤d a:=by
     unfold dUp
     split
     ·rename_i h0;have:=u3 h0;omega
     ·exact Nat.zero_le _
    exact ih k' j' _ u2 (by omega) (by omega) (by omega)
   ·rw [if_neg hb,if_neg hb]
  ·rw [climb_neg L k b h,climb_neg L j b h]
theorem climb_step {L:List Ent} {d:Int→Nat} (hC:Chain L d) {a b:Int} (h:0≤a) (ha:a < (L.length:Int)) (hb:a ≠ b):climb L (dUp d (rd_Ent L a).super) (rd_Ent L a).super b=climb L (dUp d a) a b:=by
 obtain ⟨_,u2,u3⟩:=hC.up a h ha
 have e:dUp d a=d a + 1:=if_pos h
 have hd:dUp d (rd_Ent L a).super≤d a:=by
  unfold dUp
  split
  ·rename_i h0;have:=u3 h0;omega
  ·exact Nat.zero_le _
 rw [e]
 simp only [climb]
 rw [if_pos ⟨h,hb⟩]
 exact climb_fuel hC b _ _ _ _ u2 (Nat.le_refl _) (Nat.le_refl _) hd
def subV (L:List Ent) (d:Int→Nat) (a b:Int):Bool:=hasV L a && (hasV L b && decide (climb L (dUp d a) a b=b))
theorem beq_dec (x b:Int):(x==b)=decide (x=b):=by by_cases h:x=b <;> simp [h]
theorem intOf_i64 (n:Int):RowKit.intOf (.int .i64 n)=n:=rfl
set_option maxHeartbeats 4000000 in
set_option maxRecDepth 100000 in
theorem link_Sub.calls {w:World} {p:Nat} {L:List Ent} {d:Int→Nat} (a b:Int) (hI:IsPC w p L) (hC:Chain L d):Calls Tryd.prog 11 #[pp p,.int .i64 a,.int .i64 b] w fun e w' => e=.returned (.bool (subV L d a b))∧w'=w:=by
 have HI:=Aside0.mk hI
 obtain ⟨A,c,m,k,D,hb,hl,hK,_⟩:=hI.ex
 have c0:w.cell? ⟨p,0,none⟩=some (.slice A L.length c):=(blk_cell hb 0).trans rfl
 have HK:=Aside0.mk hK
 have HC:=Aside0.mk hC
 clear hb hI hK hl hC
 obtain ⟨r,hr⟩:∃ r,r=subV L d a b:=⟨_,rfl⟩
 rw [← hr]
 unfold subV at hr
 have HR:=Aside0.mk hr
 clear hr
 go_enter Tryd.func11,Tryd.ntmps11
 go_wp2_with fail
 refine (link_has.calls a HI.out).mono ?_
 rintro _ W ⟨rfl,rfl⟩
 cases ha:hasV L a with
 | false =>
  have hr:=HR.out
  rw [ha] at hr
  subst hr
  clear HR HI
  go_wp2
  go_ret
  exact ⟨rfl,rfl⟩
 | true =>
  go_wp2_with fail
  refine (link_has.calls b HI.out).mono ?_
  rintro _ W ⟨rfl,rfl⟩
  cases hb:hasV L b with
  | false =>
   have hr:=HR.out
   rw [ha,hb] at hr
   subst hr
   clear HR HI
   go_wp2
   go_ret
   exact ⟨rfl,rfl⟩
  | true =>
   have HA:=Aside0.mk (hasV_true ha)
   have hr:=HR.out
   rw [ha,hb] at hr
   have HR2:=Aside0.mk hr
   clear hr HR
   go_wp2_with fail
   go_loopw [1] (fun v1 wr => ∃ x:Int,v1=.int .i64 x∧Aside0 (x < (L.length:Int))∧Aside0 (climb L (dUp d x) x b=climb L (dUp d a) a b)∧wr=W) (fun v1 _ => dUp d (intOf v1))
   case atStart => exact ⟨a,rfl,⟨HA.out.2⟩,⟨rfl⟩,by first|rfl|trivial⟩
   case round =>
    obtain ⟨x,rfl,HX,HE,rfl⟩:=hrel
    by_cases h0:0≤x
    ·have b0:decide (0≤x)=true:=decide_eq_true h0
     by_cases hb:x=b
     ·subst hb
      have hr:=HR2.out
      rw [← HE.out] at hr
      have e:climb L (dUp d x) x x=x:=by
       unfold dUp
       rw [if_pos h0]
       exact if_neg (fun y => y.2 rfl)
      rw [e] at hr
      simp only [Bool.true_and,decide_true] at hr
      subst hr
      clear HR2
      go_wp2
      go_ret
      exact ⟨by simp,rfl⟩
     ·have bb:(x != b)=true:=bne_iff_ne.mpr hb
      have P1:=h0
      have Q1:=HX.out
      obtain ⟨ad,s,A3,c3,A4,c4,e1,hE⟩:=at_Ent HK.out x P1 Q1
      cases e1
      have x2:=hE.e2
      have HU:=Aside0.mk (HC.out.up x P1 Q1)
      have HS:=Aside0.mk (climb_step HC.out P1 Q1 hb)
      replace P1:=eq_true P1
      replace Q1:=eq_true Q1
      clear hE hb
      go_wp2
      go_roundw
      case measure =>
       rw [intOf_i64,intOf_i64]
       unfold dUp
       rw [if_pos h0]
       split
       ·rename_i h1;have:=HU.out.2.2 h1;omega
       ·omega
      case rel => exact ⟨_,rfl,⟨HU.out.2.1⟩,⟨HS.out.trans HE.out⟩,by first|rfl|trivial⟩
    ·have b0:decide (0≤x)=false:=decide_eq_false h0
     have hr:=HR2.out
     rw [← HE.out,climb_neg L _ b h0] at hr
     have HR3:=Aside0.mk hr
     clear hr HR2
     go_wp2
     go_ret
     exact ⟨by rw [HR3.out,Bool.true_and,Bool.true_and];exact congrArg (fun z => Ending.returned (Value.bool z)) (beq_dec x b),rfl⟩
end Go.Proofs.YtoonhpcjcimecaaDoor.Px
namespace Go.Proofs.YtoonhpcjcimecaaDoor.Px
open Go.RowKit Go.Proofs.YtoonhpcjcimecaaDoorW.PrintWords Go.Proofs.YtoonhpcjcimecaaDoorW.PrintLast Go.Proofs.YtoonhpcjcimecaaDoorW.PrintMore
set_option linter.unusedVariables false
abbrev BA (l:List UInt8):ByteArray:=⟨l.toArray⟩
theorem BA_eta (s:ByteArray):BA s.data.toList=s:=by obtain ⟨⟨l⟩⟩:=s;rfl
theorem BA_data (l:List UInt8):(BA l).data.toList=l:=rfl
theorem BA_list (l:List UInt8):(BA l).toList=l:=by rw [Lib.toList_data]
theorem BA_size (l:List UInt8):(BA l).size=l.length:=by rw [Lib.size_eq]
theorem BA_ext (l:List UInt8) (a b:Nat):(BA l).extract a b=BA ((l.drop a).take (b - a)):=Lib.extract_eq _ _ _
theorem BA_drop (l:List UInt8) (a:Nat):(BA l).extract a (BA l).size=BA (l.drop a):=by
 rw [BA_ext,BA_size,List.take_of_length_le (by rw [List.length_drop];exact Nat.le_refl _)]
theorem BA_append (a b:List UInt8):BA a++BA b=BA (a++b):=by
 have h:(BA a++BA b).data.toList=a++b:=by simp [BA]
 rw [← BA_eta (BA a++BA b),h]
theorem bt_BA (l:List UInt8) (i:Nat) (h:i < l.length):bt (BA l) (i:Int)=((l[i]).toNat:Int):=by
 have h1:(i:Int).toNat < (BA l).size:=by rw [BA_size];omega
 rw [← bt_at _ _ h1]
 rfl
theorem bt_BA0 (c:UInt8) (t:List UInt8):bt (BA (c :: t)) 0=(c.toNat:Int):=bt_BA (c :: t) 0 (by simp)
theorem w64n (n m:Nat) (h:n + m≤9223372036854775807):wrap64 ((n:Int) + (m:Int))=((n + m:Nat):Int):=by unfold wrap64;omega
theorem w64s (n:Nat) (h:n < 9223372036854775807):wrap64 ((n:Int) + 1)=((n + 1:Nat):Int):=by unfold wrap64;omega
theorem u8_int (c:UInt8) (n:Nat) (h:n < 256):((c.toNat:Int)=(n:Int)) ↔ c=n.toUInt8:=by
 constructor
 ·intro e
  have e':c.toNat=n:=by omega
  exact UInt8.toNat.inj (by rw [e'];simp;omega)
 ·intro e
  subst e
  simp
  omega
theorem take_until (p:UInt8→Bool):∀ l:List UInt8,l.take (l.takeWhile p).length=l.takeWhile p
 | [] => rfl
 | c :: t => by
  rw [List.takeWhile_cons]
  split
  ·rw [List.length_cons,List.take_succ_cons,take_until p t]
  ·rfl
theorem drop_until (p:UInt8→Bool):∀ l:List UInt8,l.drop (l.takeWhile p).length=l.dropWhile p
 | [] => rfl
 | c :: t => by
  rw [List.takeWhile_cons,List.dropWhile_cons]
  split
  ·rw [List.length_cons,List.drop_succ_cons,drop_until p t]
  ·rfl
theorem index_until (b:UInt8):∀ l:List UInt8,Lib.indexByte l b=if b ∈ l then ((l.takeWhile (· != b)).length:Int) else -1
 | [] => rfl
 | c :: t => by
  unfold Lib.indexByte
  rw [index_until b t,List.takeWhile_cons]
  by_cases h:c=b
  ·subst h;simp
  ·have h1:(c==b)=false:=by simpa using h
   have h2:(c != b)=true:=by simpa using h
   have h3:b ∈ c :: t ↔ b ∈ t:=by
    rw [List.mem_cons]
    exact ⟨fun e => e.resolve_left (fun e => h e.symm),.inr⟩
   rw [h1,h2]
   by_cases hm:b ∈ t
   ·simp only [hm,h3,if_true,if_false,Bool.false_eq_true]
    rw [if_neg (by simp)]
    simp
   ·simp [hm,h3]
theorem cut_until (b:UInt8) (l:List UInt8):Lib.cut l [b]=if b ∈ l then (l.takeWhile (· != b),(l.dropWhile (· != b)).drop 1,true) else (l,[],false):=by
 unfold Lib.cut
 rw [Lib.index_one,index_until]
 by_cases h:b ∈ l
 ·rw [if_pos h,if_pos h,if_pos (by omega)]
  simp only [Int.toNat_natCast,List.length_singleton]
  rw [take_until,← List.drop_drop,drop_until]
 ·rw [if_neg h,if_neg h,if_neg (by omega)]
end Go.Proofs.YtoonhpcjcimecaaDoor.Px
namespace Go.Proofs.YtoonhpcjcimecaaDoor.Px
open Go.RowKit Go.Proofs.YtoonhpcjcimecaaDoorW.PrintWords Go.Proofs.YtoonhpcjcimecaaDoorW.PrintLast Go.Proofs.YtoonhpcjcimecaaDoorW.PrintMore
attribute [local go_sem] max2_int min2_int max_two min_two max_three min_three max_four min_four
set_option linter.unusedVariables false
set_option linter.unusedSimpArgs false
def kind_plain.l0:Nat→ByteArray→Int→Int→Option (Bool)
 | 0,_,_,_ => none
 | k + 1,x0,x5,x6 => if x6 < x5 then (if 0≤x6 then (if x6 < (x0.size:Int) then (if (bt x0 x6)=46 then (some false) else (if (bt x0 x6)=59 then (some false) else (if (bt x0 x6)=91 then (some false) else (if (bt x0 x6)=47 then (some false) else (if (bt x0 x6)=60 then (some false) else (if (bt x0 x6)=62 then (some false) else (kind_plain.l0 k x0 x5 (wrap64 (x6 + 1))))))))) else (none)) else (none)) else (if x0.toList=([]:List UInt8) then (some false) else (some (decide ((x0.size:Int)≤256))))
def kind_plain.f (k:Nat) (a0:ByteArray):Option (Bool):=kind_plain.l0 k a0 (a0.size:Int) 0
set_option maxHeartbeats 80000000 in
set_option maxRecDepth 100000 in
theorem kind_plain.calls (k:Nat) (a0:ByteArray) (r:Bool) (w:World) (h:kind_plain.f k a0=some r) :
  Calls Tryd.prog 63 #[.string a0] w fun e w' => e=.returned (.bool r)∧Drawn0 w w':=by
 have H:(kind_plain.l0 k a0 (a0.size:Int) 0)=some r:=h
 clear h
 have H':=Aside0.mk H
 clear H
 go_enter Tryd.func63,Tryd.ntmps63
 go_wp2
 go_loopg [6] k (fun kq v6 w' => ∃ (x6_1:Int),v6=.int .i64 x6_1∧Aside0 (kind_plain.l0 kq a0 (a0.size:Int) x6_1=some r)∧Aside0 (kq≤k)∧Drawn0 w w')
 case atStart => exact ⟨(0),r3_,H',⟨Nat.le_refl _⟩,by repeat (first|exact Drawn0.refl _|apply Drawn0.step)⟩
 case round =>
  clear H'
  obtain ⟨x6_1,rfl,HA,HK1,⟨m1,rfl⟩⟩:=hrel
  cases gk with
  | zero => exact absurd HA.out (by simp [kind_plain.l0])
  | succ k1 =>
   have H:=HA.out
   clear HA
   simp only [kind_plain.l0] at H
   by_cases c2:x6_1 < (a0.size:Int)
   ·rw [if_pos c2] at H
    have c2b0:decide (x6_1 < (a0.size:Int))=true:=decide_eq_true c2
    clear c2
    by_cases c3:0≤x6_1
    ·rw [if_pos c3] at H
     have c3b0:decide (0≤x6_1)=true:=decide_eq_true c3
     clear c3
     by_cases c4:x6_1 < (a0.size:Int)
     ·rw [if_pos c4] at H
      have c4b0:decide (x6_1 < (a0.size:Int))=true:=decide_eq_true c4
      clear c4
      by_cases c6:(bt a0 x6_1)=46
      ·rw [if_pos c6] at H
       have c6b0:((bt a0 x6_1)==46)=true:=beq_iff_eq.mpr c6
       have c6b1:((bt a0 x6_1) != 46)=false:=bne_eq_false_iff_eq.mpr c6
       clear c6
       obtain rfl:=Option.some.inj H
       have p5:0≤(x6_1:Int):=od_
       have q5:x6_1 < (a0.size:Int):=od_
       have hx5:=bt_at a0 x6_1
       replace p5:=eq_true p5
       replace q5:=eq_true q5
       go_wp2
       go_ret
       exact ⟨by first|rfl|(simp;done)|(simp [*];done),by repeat (first|exact Drawn0.refl _|apply Drawn0.step)⟩
      ·rw [if_neg c6] at H
       have c6b0:((bt a0 x6_1)==46)=false:=beq_eq_false_iff_ne.mpr c6
       have c6b1:((bt a0 x6_1) != 46)=true:=bne_iff_ne.mpr c6
       by_cases c7:(bt a0 x6_1)=59
       ·rw [if_pos c7] at H
        have c7b0:((bt a0 x6_1)==59)=true:=beq_iff_eq.mpr c7
        have c7b1:((bt a0 x6_1) != 59)=false:=bne_eq_false_iff_eq.mpr c7
        clear c7
        obtain rfl:=Option.some.inj H
        have p5:0≤(x6_1:Int):=od_
        have q5:x6_1 < (a0.size:Int):=od_
        have hx5:=bt_at a0 x6_1
        replace p5:=eq_true p5
        replace q5:=eq_true q5
        go_wp2
        go_ret
        exact ⟨by first|rfl|(simp;done)|(simp [*];done),by repeat (first|exact Drawn0.refl _|apply Drawn0.step)⟩
       ·rw [if_neg c7] at H
        have c7b0:((bt a0 x6_1)==59)=false:=beq_eq_false_iff_ne.mpr c7
        have c7b1:((bt a0 x6_1) != 59)=true:=bne_iff_ne.mpr c7
        by_cases c8:(bt a0 x6_1)=91
        ·rw [if_pos c8] at H
         have c8b0:((bt a0 x6_1)==91)=true:=beq_iff_eq.mpr c8
         have c8b1:((bt a0 x6_1) != 91)=false:=bne_eq_false_iff_eq.mpr c8
         clear c8
         obtain rfl:=Option.some.inj H
         have p5:0≤(x6_1:Int):=od_
         have q5:x6_1 < (a0.size:Int):=od_
         have hx5:=bt_at a0 x6_1
         replace p5:=eq_true p5
         replace q5:=eq_true q5
         go_wp2
         go_ret
         exact ⟨by first|rfl|(simp;done)|(simp [*];done),by repeat (first|exact Drawn0.refl _|apply Drawn0.step)⟩
        ·rw [if_neg c8] at H
         have c8b0:((bt a0 x6_1)==91)=false:=beq_eq_false_iff_ne.mpr c8
         have c8b1:((bt a0 x6_1) != 91)=true:=bne_iff_ne.mpr c8
         by_cases c9:(bt a0 x6_1)=47
         ·rw [if_pos c9] at H
          have c9b0:((bt a0 x6_1)==47)=true:=beq_iff_eq.mpr c9
          have c9b1:((bt a0 x6_1) != 47)=false:=bne_eq_false_iff_eq.mpr c9
          clear c9
          obtain rfl:=Option.some.inj H
          have p5:0≤(x6_1:Int):=od_
          have q5:x6_1 < (a0.size:Int):=od_
          have hx5:=bt_at a0 x6_1
          replace p5:=eq_true p5
          replace q5:=eq_true q5
          go_wp2
          go_ret
          exact ⟨by first|rfl|(simp;done)|(simp [*];done),by repeat (first|exact Drawn0.refl _|apply Drawn0.step)⟩
         ·rw [if_neg c9] at H
          have c9b0:((bt a0 x6_1)==47)=false:=beq_eq_false_iff_ne.mpr c9
          have c9b1:((bt a0 x6_1) != 47)=true:=bne_iff_ne.mpr c9
          by_cases c10:(bt a0 x6_1)=60
          ·rw [if_pos c10] at H
           have c10b0:((bt a0 x6_1)==60)=true:=beq_iff_eq.mpr c10
           have c10b1:((bt a0 x6_1) != 60)=false:=bne_eq_false_iff_eq.mpr c10
           clear c10
           obtain rfl:=Option.some.inj H
           have p5:0≤(x6_1:Int):=od_
           have q5:x6_1 < (a0.size:Int):=od_
           have hx5:=bt_at a0 x6_1
           replace p5:=eq_true p5
           replace q5:=eq_true q5
           go_wp2
           go_ret
           exact ⟨by first|rfl|(simp;done)|(simp [*];done),by repeat (first|exact Drawn0.refl _|apply Drawn0.step)⟩
          ·rw [if_neg c10] at H
           have c10b0:((bt a0 x6_1)==60)=false:=beq_eq_false_iff_ne.mpr c10
           have c10b1:((bt a0 x6_1) != 60)=true:=bne_iff_ne.mpr c10
           by_cases c11:(bt a0 x6_1)=62
           ·rw [if_pos c11] at H
            have c11b0:((bt a0 x6_1)==62)=true:=beq_iff_eq.mpr c11
            have c11b1:((bt a0 x6_1) != 62)=false:=bne_eq_false_iff_eq.mpr c11
            clear c11
            obtain rfl:=Option.some.inj H
            have p5:0≤(x6_1:Int):=od_
            have q5:x6_1 < (a0.size:Int):=od_
            have hx5:=bt_at a0 x6_1
            replace p5:=eq_true p5
            replace q5:=eq_true q5
            go_wp2
            go_ret
            exact ⟨by first|rfl|(simp;done)|(simp [*];done),by repeat (first|exact Drawn0.refl _|apply Drawn0.step)⟩
           ·rw [if_neg c11] at H
            have c11b0:((bt a0 x6_1)==62)=false:=beq_eq_false_iff_ne.mpr c11
            have c11b1:((bt a0 x6_1) != 62)=true:=bne_iff_ne.mpr c11
            have H':=Aside0.mk H
            clear H
            have p5:0≤(x6_1:Int):=od_
            have q5:x6_1 < (a0.size:Int):=od_
            have hx5:=bt_at a0 x6_1
            replace p5:=eq_true p5
            replace q5:=eq_true q5
            go_wp2
            go_roundg k1
            case measure => have:=HK1.out;omega
            case rel => exact ⟨(wrap64 (x6_1 + 1)),r3_,H',⟨by have:=HK1.out;omega⟩,by repeat (first|exact Drawn0.refl _|apply Drawn0.step)⟩
     ·rw [if_neg c4] at H
      exact absurd H (by simp)
    ·rw [if_neg c3] at H
     exact absurd H (by simp)
   ·rw [if_neg c2] at H
    have c2b0:decide (x6_1 < (a0.size:Int))=false:=decide_eq_false c2
    clear c2
    by_cases c12:a0.toList=([]:List UInt8)
    ·rw [if_pos c12] at H
     have c12b0:(a0.toList==([]:List UInt8))=true:=beq_iff_eq.mpr c12
     have c12b1:(a0.toList != ([]:List UInt8))=false:=bne_eq_false_iff_eq.mpr c12
     clear c12
     obtain rfl:=Option.some.inj H
     go_wp2
     go_ret
     exact ⟨by first|rfl|(simp;done)|(simp [*];done),by repeat (first|exact Drawn0.refl _|apply Drawn0.step)⟩
    ·rw [if_neg c12] at H
     have c12b0:(a0.toList==([]:List UInt8))=false:=beq_eq_false_iff_ne.mpr c12
     have c12b1:(a0.toList != ([]:List UInt8))=true:=bne_iff_ne.mpr c12
     obtain rfl:=Option.some.inj H
     go_wp2
     go_ret
     exact ⟨by first|rfl|(simp;done)|(simp [*];done),by repeat (first|exact Drawn0.refl _|apply Drawn0.step)⟩
end Go.Proofs.YtoonhpcjcimecaaDoor.Px
namespace Go.Proofs.YtoonhpcjcimecaaDoor.Px
open Go.RowKit Go.Proofs.YtoonhpcjcimecaaDoorW.PrintWords Go.Proofs.YtoonhpcjcimecaaDoorW.PrintLast Go.Proofs.YtoonhpcjcimecaaDoorW.PrintMore
attribute [local go_sem] max2_int min2_int max_two min_two max_three min_three max_four min_four
set_option linter.unusedVariables false
set_option linter.unusedSimpArgs false
def IsS127 (w0 W:World) (g:Nat) (f0:ByteArray) (f1:Int):Prop:=W.heap[g]?=some (.cells #[.string f0,.int .i64 f1] 127 (0,0))∧w0.heap.size≤g
theorem IsS127.grown {w0 W:World} {g:Nat} {f0:ByteArray} {f1:Int} {W1:World} {row:Option Nat} (h:IsS127 w0 W g f0 f1) (hw:W.grownBy W1 row) (hne:some g ≠ row):IsS127 w0 W1 g f0 f1:=by
 obtain ⟨hb,hg⟩:=h
 exact ⟨blk_grown hb hw hne,hg⟩
theorem IsS127.kept {w0 W:World} {g:Nat} {f0:ByteArray} {f1:Int} {W1:World} {S:Nat→Prop} (h:IsS127 w0 W g f0 f1) (hk:Kept W W1 S) (hne:¬ S g):IsS127 w0 W1 g f0 f1:=by
 obtain ⟨hb,hg⟩:=h
 exact ⟨blk_kept hb hk hne,hg⟩
theorem IsS127.below {w0 W:World} {g:Nat} {f0:ByteArray} {f1:Int} {W1:World} (h:IsS127 w0 W g f0 f1) (hw:Below W.heap.size W W1):IsS127 w0 W1 g f0 f1:=h.grown (grown_of_below hw none) (by simp)
theorem IsS127.alloc {w0 W:World} {g:Nat} {f0:ByteArray} {f1:Int} (h:IsS127 w0 W g f0 f1) (o:Obj):IsS127 w0 (W.alloc o) g f0 f1:=h.below (below_alloc (Below.refl _ _) o)
theorem IsS127.drewN {w0 W:World} {g:Nat} {f0:ByteArray} {f1:Int} (h:IsS127 w0 W g f0 f1) (m:Nat):IsS127 w0 (W.drewN m) g f0 f1:=h
theorem IsS127.drew {w0 W:World} {g:Nat} {f0:ByteArray} {f1:Int} (h:IsS127 w0 W g f0 f1):IsS127 w0 W.drew g f0 f1:=h
theorem IsS127.at_ {w0 W:World} {g:Nat} {f0:ByteArray} {f1:Int} {w':World} {m:Nat} (hq:W.drewN m=w') (h:IsS127 w0 W g f0 f1):IsS127 w0 w' g f0 f1:=by subst hq;exact IsS127.drewN h m
theorem IsS127.apart {w0 W:World} {g:Nat} {f0:ByteArray} {f1:Int} {α:Type} {d:Kd α} {e:Nat} {base:Nat} {ok:Nat→Prop} {v:Value} {xs:List α} (h:IsS127 w0 W g f0 f1) (ho:d.R e W base ok v xs) (ht:∀ q,q ∈ e :: d.E→q ≠ 127):d.R e W base (fun k => ok k∧k ≠ g) v xs:=by
 obtain ⟨hb,hg⟩:=h
 exact Kd.R_types ho hb ht
theorem IsS127.own_ne {w0 W:World} {g:Nat} {f0:ByteArray} {f1:Int} {α:Type} {d:Kd α} {e:Nat} {base:Nat} {ok:Nat→Prop} {v:Value} {xs:List α} (h:IsS127 w0 W g f0 f1) (ho:d.R e W base ok v xs) (ht:e ≠ 127):some g ≠ v.ownBlock:=by
 obtain ⟨hb,hg⟩:=h
 exact Kd.R_ne ho hb ht
theorem IsS127.lt {w0 W:World} {g:Nat} {f0:ByteArray} {f1:Int} (h:IsS127 w0 W g f0 f1):g < W.heap.size:=by
 obtain ⟨hb,hg⟩:=h
 exact blk_lt hb
theorem IsS127.ge {w0 W:World} {g:Nat} {f0:ByteArray} {f1:Int} (h:IsS127 w0 W g f0 f1):w0.heap.size≤g:=by
 obtain ⟨hb,hg⟩:=h
 exact hg
theorem IsS127.far {w0 W:World} {g:Nat} {f0:ByteArray} {f1:Int} {p:Addr} (h:IsS127 w0 W g f0 f1) (hne:g ≠ p.block) (u:Value):IsS127 w0 (W.setCell p u) g f0 f1:=by
 obtain ⟨hb,hg⟩:=h
 exact ⟨blk_far hb hne u,hg⟩
theorem cellS127_0 {W:World} {g:Nat} {f0:ByteArray} {f1:Int} (h:W.heap[g]?=some (.cells #[.string f0,.int .i64 f1] 127 (0,0))):W.cell? ⟨g,0,none⟩=some (.string f0):=(blk_cell h 0).trans rfl
theorem IsS127.set_0 {w0 W:World} {g:Nat} {f0:ByteArray} {f1:Int} (h:IsS127 w0 W g f0 f1) (x:ByteArray):IsS127 w0 (W.setCell ⟨g,0,none⟩ (.string x)) g x f1:=by
 obtain ⟨hb,hg⟩:=h
 exact ⟨by simpa using blk_set hb 0 (.string x),hg⟩
theorem cellS127_1 {W:World} {g:Nat} {f0:ByteArray} {f1:Int} (h:W.heap[g]?=some (.cells #[.string f0,.int .i64 f1] 127 (0,0))):W.cell? ⟨g,1,none⟩=some (.int .i64 f1):=(blk_cell h 1).trans rfl
theorem IsS127.set_1 {w0 W:World} {g:Nat} {f0:ByteArray} {f1:Int} (h:IsS127 w0 W g f0 f1) (x:Int):IsS127 w0 (W.setCell ⟨g,1,none⟩ (.int .i64 x)) g f0 x:=by
 obtain ⟨hb,hg⟩:=h
 exact ⟨by simpa using blk_set hb 1 (.int .i64 x),hg⟩
theorem IsS127.new (w0 W:World) (f0:ByteArray) (f1:Int) (hB:Below w0.heap.size w0 W):IsS127 w0 (W.alloc (.cells #[.string f0,.int .i64 f1] 127)) W.heap.size f0 f1:=⟨by simpa using heap_alloc_new W _,hB.size⟩
def kind_scan_left.f (s0_0:ByteArray) (s0_1:Int):Option (ByteArray × ByteArray × Int):=if 0≤s0_1 then (if s0_1≤(s0_0.size:Int) then (some (s0_0.extract (s0_1:Int).toNat s0_0.size,s0_0,s0_1)) else (none)) else (none)
set_option maxHeartbeats 80000000 in
set_option maxRecDepth 100000 in
theorem kind_scan_left.calls (g:Nat) (s0_0:ByteArray) (s0_1:Int) (r1:ByteArray) (r2:ByteArray) (r3:Int) (w0 w:World) (hI:IsS127 w0 w g s0_0 s0_1) (hB:Below w0.heap.size w0 w) (h:kind_scan_left.f s0_0 s0_1=some (r1,r2,r3)) :
  Calls Tryd.prog 53 #[.pointer (some ⟨g,0,none⟩)] w fun e w' => e=.returned (.string r1)∧IsS127 w0 w' g r2 r3∧Below w0.heap.size w0 w'∧KeepBut w w' g none:=by
 have HI0:=Aside0.mk hI
 have HK:=Aside0.mk (KeepBut.refl w g none)
 have HL:=Aside0.mk hB.size
 clear hI
 have HW0:=Aside0.mk hB.size
 have HB:=Aside0.mk hB
 clear hB
 have H:(if 0≤s0_1 then (if s0_1≤(s0_0.size:Int) then (some (s0_0.extract (s0_1:Int).toNat s0_0.size,s0_0,s0_1)) else (none)) else (none))=some (r1,r2,r3):=h
 clear h
 by_cases c2:0≤s0_1
 ·rw [if_pos c2] at H
  have c2b0:=eq_true c2
  have c2b1:decide (0≤s0_1)=true:=decide_eq_true c2
  clear c2
  by_cases c3:s0_1≤(s0_0.size:Int)
  ·rw [if_pos c3] at H
   have c3b0:=eq_true c3
   have c3b1:decide (s0_1≤(s0_0.size:Int))=true:=decide_eq_true c3
   clear c3
   simp only [Option.some.injEq,Prod.mk.injEq] at H
   obtain ⟨rfl,rfl,rfl⟩:=H
   obtain ⟨HGz4,hgz4⟩:=HI0.out
   have hcz4_0:=cellS127_0 HGz4
   have hcz4_1:=cellS127_1 HGz4
   have hfz4_0:=blk_frozen HGz4 0
   have hfz4_1:=blk_frozen HGz4 1
   clear HGz4 hgz4
   go_enter Tryd.func53,Tryd.ntmps53
   go_wp2
   repeat (go_quiet (fail);try go_wp2)
   go_ret
   exact ⟨ew_,by repeat (first|(with_reducible first|exact HI0.out|apply IsS127.alloc|apply IsS127.drewN|apply IsS127.drew|apply IsS127.set_0|apply IsS127.set_1)|exact HI0.out|apply IsS127.set_0|apply IsS127.set_1),by repeat (first|(with_reducible first|exact HB.out|apply below_alloc|apply pw_below_drewN|apply below_drew1|refine below_set ?_ (IsS127.ge HI0.out))|exact HB.out),by repeat (first|(with_reducible first|exact HK.out|apply KeepBut.set_|apply keep_drewN|apply keep_drew|apply keep_alloc)|exact HK.out)⟩
  ·rw [if_neg c3] at H
   exact absurd H (by simp)
 ·rw [if_neg c2] at H
  exact absurd H (by simp)
def stringslite_HasPrefix.f (a0:ByteArray) (a1:ByteArray):Option (Bool):=if (a0.size:Int) ≥ (a1.size:Int) then (if 0≤(a1.size:Int) then (if (a1.size:Int)≤(a0.size:Int) then (some ((a0.extract 0 ((a1.size:Int):Int).toNat).toList==a1.toList)) else (none)) else (none)) else (some false)
set_option maxHeartbeats 80000000 in
set_option maxRecDepth 100000 in
theorem stringslite_HasPrefix.calls (a0:ByteArray) (a1:ByteArray) (r:Bool) (w:World) (h:stringslite_HasPrefix.f a0 a1=some r) :
  Calls Tryd.prog 70 #[.string a0,.string a1] w fun e w' => e=.returned (.bool r)∧Drawn0 w w':=by
 have H:(if (a0.size:Int) ≥ (a1.size:Int) then (if 0≤(a1.size:Int) then (if (a1.size:Int)≤(a0.size:Int) then (some ((a0.extract 0 ((a1.size:Int):Int).toNat).toList==a1.toList)) else (none)) else (none)) else (some false))=some r:=h
 clear h
 by_cases c3:(a0.size:Int) ≥ (a1.size:Int)
 ·rw [if_pos c3] at H
  have c3b0:decide ((a1.size:Int)≤(a0.size:Int))=true:=decide_eq_true c3
  have c3b1:decide (a1.size≤a0.size)=true:=decide_eq_true (Int.ofNat_le.mp c3)
  clear c3
  by_cases c4:0≤(a1.size:Int)
  ·rw [if_pos c4] at H
   have c4b0:=eq_true c4
   have c4b1:decide (0≤(a1.size:Int))=true:=decide_eq_true c4
   clear c4
   by_cases c5:(a1.size:Int)≤(a0.size:Int)
   ·rw [if_pos c5] at H
    have c5b0:=eq_true c5
    have c5b1:decide ((a1.size:Int)≤(a0.size:Int))=true:=decide_eq_true c5
    clear c5
    obtain rfl:=Option.some.inj H
    go_enter Tryd.func70,Tryd.ntmps70
    go_wp2
    go_ret
    exact ⟨by first|rfl|(simp;done)|(simp [*];done),by repeat (first|exact Drawn0.refl _|apply Drawn0.step)⟩
   ·rw [if_neg c5] at H
    exact absurd H (by simp)
  ·rw [if_neg c4] at H
   exact absurd H (by simp)
 ·rw [if_neg c3] at H
  have c3b0:decide ((a1.size:Int)≤(a0.size:Int))=false:=decide_eq_false c3
  have c3b1:decide (a1.size≤a0.size)=false:=decide_eq_false (fun h => c3 (Int.ofNat_le.mpr h))
  clear c3
  obtain rfl:=Option.some.inj H
  go_enter Tryd.func70,Tryd.ntmps70
  go_wp2
  go_ret
  exact ⟨by first|rfl|(simp;done)|(simp [*];done),by repeat (first|exact Drawn0.refl _|apply Drawn0.step)⟩
def strings_HasPrefix.f (a0:ByteArray) (a1:ByteArray):Option (Bool):=(stringslite_HasPrefix.f a0 a1).bind fun t101 => (some t101)
set_option maxHeartbeats 80000000 in
set_option maxRecDepth 100000 in
theorem strings_HasPrefix.calls (a0:ByteArray) (a1:ByteArray) (r:Bool) (w:World) (h:strings_HasPrefix.f a0 a1=some r) :
  Calls Tryd.prog 61 #[.string a0,.string a1] w fun e w' => e=.returned (.bool r)∧Drawn0 w w':=by
 have H:((stringslite_HasPrefix.f a0 a1).bind fun t101 => (some t101))=some r:=h
 clear h
 replace H:=Option.bind_eq_some_iff.mp H
 obtain ⟨t101,A30,H⟩:=H
 try dsimp only at H
 have A3:=Aside0.mk A30
 clear A30
 obtain rfl:=Option.some.inj H
 go_enter Tryd.func61,Tryd.ntmps61
 go_wp2_with (first|(refine callA_ (f:=70) (some 7) Tryd.func70 #[.string a0,.string a1] ?_;(with_reducible refine (stringslite_HasPrefix.calls a0 a1 t101 _ A3.out).mono ?_);rintro e w' ⟨rfl,⟨nd,rfl⟩⟩;refine ⟨_,rfl,?_⟩))
 go_ret
 exact ⟨by first|rfl|(simp;done)|(simp [*];done),by repeat (first|exact Drawn0.refl _|apply Drawn0.step)⟩
end Go.Proofs.YtoonhpcjcimecaaDoor.Px
namespace Go.Proofs.YtoonhpcjcimecaaDoor.Px
open Go.RowKit Go.Proofs.YtoonhpcjcimecaaDoorW.PrintWords Go.Proofs.YtoonhpcjcimecaaDoorW.PrintLast Go.Proofs.YtoonhpcjcimecaaDoorW.PrintMore
def strings_Cut.f (a0 a1:ByteArray):Option (ByteArray × ByteArray × Bool) :=
 if a0.size < 4294967281 then some (⟨(Lib.cut a0.data.toList a1.data.toList).1.toArray⟩,⟨(Lib.cut a0.data.toList a1.data.toList).2.1.toArray⟩,(Lib.cut a0.data.toList a1.data.toList).2.2) else none
theorem strings_Cut.calls (a0 a1:ByteArray) (r1 r2:ByteArray) (r3:Bool) (w:World) (hG:Aside0 (GG w)) (h:strings_Cut.f a0 a1=some (r1,r2,r3)) :
  Calls Tryd.prog 62 #[.string a0,.string a1] w fun e w' => e=.returned (.tuple #[.string r1,.string r2,.bool r3])∧Drawn0 w w':=by
 unfold strings_Cut.f at h
 by_cases hs:a0.size < 4294967281
 ·rw [if_pos hs] at h
  simp only [Option.some.injEq,Prod.mk.injEq] at h
  obtain ⟨rfl,rfl,rfl⟩:=h
  obtain ⟨m,hm⟩:=hG.out.maxLen
  refine (Tryd.strings_Cut a0 a1 m w hs hm).mono ?_
  rintro e w' ⟨he,hd⟩
  exact ⟨he,⟨hd⟩⟩
 ·rw [if_neg hs] at h
  exact absurd h (by simp)
end Go.Proofs.YtoonhpcjcimecaaDoor.Px
namespace Go.Proofs.YtoonhpcjcimecaaDoor.Px
open Go.RowKit Go.Proofs.YtoonhpcjcimecaaDoorW.PrintWords Go.Proofs.YtoonhpcjcimecaaDoorW.PrintLast Go.Proofs.YtoonhpcjcimecaaDoorW.PrintMore
attribute [local go_sem] max2_int min2_int max_two min_two max_three min_three max_four min_four
set_option linter.unusedVariables false
set_option linter.unusedSimpArgs false
mutual
def kind_scan_field.j1:Nat→Int→ByteArray→Int→Option (Int × ByteArray × Int × Int × Int × Bool × ByteArray × Int)
 | 0,_,_,_ => none
 | k + 1,x4,x1000,x1001 => (kind_scan_left.f x1000 x1001).bind fun bt107 => (if bt107.1.toList=([]:List UInt8) then (kind_scan_field.j2 k x4 true bt107.2.1 bt107.2.2) else (kind_scan_field.j2 k x4 (decide (x4 > 4)) bt107.2.1 bt107.2.2))
def kind_scan_field.j2:Nat→Int→Bool→ByteArray→Int→Option (Int × ByteArray × Int × Int × Int × Bool × ByteArray × Int)
 | 0,_,_,_,_ => none
 | k + 1,x4,x37,x1000,x1001 => if x37=true then (some (0,(⟨#[]⟩:ByteArray),0,0,0,false,x1000,x1001)) else ((kind_scan_left.f x1000 x1001).bind fun bt111 => (if 0 < (bt111.1.size:Int) then (if (bt bt111.1 0)=73 then (if x4 > 0 then (some (5,(⟨#[]⟩:ByteArray),x4,1,0,true,bt111.2.1,wrap64 (bt111.2.2 + 1))) else (some (1,(⟨#[]⟩:ByteArray),0,0,0,true,bt111.2.1,wrap64 (bt111.2.2 + 1)))) else (if (bt bt111.1 0)=74 then (if x4 > 0 then (some (5,(⟨#[]⟩:ByteArray),x4,2,0,true,bt111.2.1,wrap64 (bt111.2.2 + 1))) else (some (2,(⟨#[]⟩:ByteArray),0,0,0,true,bt111.2.1,wrap64 (bt111.2.2 + 1)))) else (if (bt bt111.1 0)=76 then ((kind_scan_left.f bt111.2.1 bt111.2.2).bind fun bt114 => (if 1≤(bt114.1.size:Int) then ((strings_Cut.f (bt114.1.extract 1 bt114.1.size) (⟨#[59]⟩:ByteArray)).bind fun bt117 => (if bt117.2.2=true then ((kind_plain.f k bt117.1).bind fun t120 => (kind_scan_field.j3 k x4 bt117.1 (!t120) bt114.2.1 bt114.2.2 0 (⟨#[]⟩:ByteArray) 0 0 0)) else (kind_scan_field.j3 k x4 bt117.1 true bt114.2.1 bt114.2.2 0 (⟨#[]⟩:ByteArray) 0 0 0))) else (none))) else (some (0,(⟨#[]⟩:ByteArray),0,0,0,false,bt111.2.1,bt111.2.2))))) else (none)))
def kind_scan_field.j3:Nat→Int→ByteArray→Bool→ByteArray→Int→Int→ByteArray→Int→Int→Int→Option (Int × ByteArray × Int × Int × Int × Bool × ByteArray × Int)
 | 0,_,_,_,_,_,_,_,_,_,_ => none
 | k + 1,x4,x7,x67,x1000,x1001,x111000,x111001,x111002,x111003,x111004 => if x67=true then (some (0,(⟨#[]⟩:ByteArray),0,0,0,false,x1000,x1001)) else (if x4 > 0 then (some (5,x7,x4,4,x111004,true,x1000,wrap64 ((wrap64 (x1001 + (wrap64 ((x7.size:Int) + 1)))) + 1))) else (some (4,x7,x111002,x111003,x111004,true,x1000,wrap64 ((wrap64 (x1001 + (wrap64 ((x7.size:Int) + 1)))) + 1))))
def kind_scan_field.l0:Nat→Int→Int→Int→ByteArray→Int→Option (Int × ByteArray × Int × Int × Int × Bool × ByteArray × Int)
 | 0,_,_,_,_,_ => none
 | k + 1,x4,x14,x15,x1000,x1001 => if x15 < x14 then ((kind_scan_left.f x1000 x1001).bind fun bt103 => ((strings_HasPrefix.f bt103.1 (⟨#[91]⟩:ByteArray)).bind fun t106 => (if t106=true then (kind_scan_field.l0 k (wrap64 (x4 + 1)) x14 (wrap64 (x15 + 1)) bt103.2.1 (wrap64 (bt103.2.2 + 1))) else (kind_scan_field.j1 k x4 bt103.2.1 bt103.2.2)))) else (kind_scan_field.j1 k x4 x1000 x1001)
end
def kind_scan_field.f (k:Nat) (s0_0:ByteArray) (s0_1:Int):Option (Int × ByteArray × Int × Int × Int × Bool × ByteArray × Int):=kind_scan_field.l0 k 0 (s0_0.size:Int) 0 s0_0 s0_1
set_option maxHeartbeats 80000000 in
set_option maxRecDepth 100000 in
theorem kind_scan_field.calls (k:Nat) (g:Nat) (s0_0:ByteArray) (s0_1:Int) (r1:Int) (r2:ByteArray) (r3:Int) (r4:Int) (r5:Int) (r6:Bool) (r7:ByteArray) (r8:Int) (w0 w:World) (hG:Aside0 (GG w0)) (hI:IsS127 w0 w g s0_0 s0_1) (hB:Below w0.heap.size w0 w) (h:kind_scan_field.f k s0_0 s0_1=some (r1,r2,r3,r4,r5,r6,r7,r8)) :
  Calls Tryd.prog 52 #[.pointer (some ⟨g,0,none⟩)] w fun e w' => e=.returned (.tuple #[.agg #[.int .i64 r1,.string r2,.int .i64 r3,.int .i64 r4,.int .i64 r5],.bool r6])∧IsS127 w0 w' g r7 r8∧Below w0.heap.size w0 w'∧KeepBut w w' g none:=by
 have hu78:=Tryd.underlying78
 have HI0:=Aside0.mk hI
 have HK:=Aside0.mk (KeepBut.refl w g none)
 have HL:=Aside0.mk hB.size
 clear hI
 have HW0:=Aside0.mk hB.size
 have HB:=Aside0.mk hB
 clear hB
 have H:(kind_scan_field.l0 k 0 (s0_0.size:Int) 0 s0_0 s0_1)=some (r1,r2,r3,r4,r5,r6,r7,r8):=h
 clear h
 have HC2:=Aside0.mk H
 clear H
 go_enter Tryd.func52,Tryd.ntmps52
 go_upto_block 0 with (first|((with_reducible refine gate_dst (N:=2) rfl ?_);refine box_event ?hg (N:=2) ?hd (cs:=#[.int .i64 0,.string (⟨#[]⟩:ByteArray),.int .i64 0,.int .i64 0,.int .i64 0]) (t:=78) ?hr ?_;(case hd => rfl);(case hg => rfl);(case hr => first|(go_simp;done)|(go_simp;rfl));intro gb102 hg w3 hbox hb;have n0_:=Aside0.mk (IsS127.below (by repeat (first|(with_reducible first|exact HI0.out|apply IsS127.alloc|apply IsS127.drewN|apply IsS127.drew|apply IsS127.set_0|apply IsS127.set_1)|exact HI0.out|apply IsS127.set_0|apply IsS127.set_1)) hb);have n1_:=Aside0.mk (KeepBut.trans (by repeat (first|(with_reducible first|exact HK.out|apply KeepBut.set_|apply keep_drewN|apply keep_drew|apply keep_alloc)|exact HK.out)) (KeepBut.of_below hb g none) (.inl rfl));have n2_:=Aside0.mk (below_step (by repeat (first|(with_reducible first|exact HB.out|apply below_alloc|apply pw_below_drewN|apply below_drew1|refine below_set ?_ (IsS127.ge HI0.out))|exact HB.out)) hb);have n3_:=Aside0.mk (hbox);have n4_:=Aside0.mk ((by rw [hg];exact (keep_size (w:=w) (g:=g) (row:=none) (by repeat (first|(with_reducible first|exact HK.out|apply KeepBut.set_|apply keep_drewN|apply keep_drew|apply keep_alloc)|exact HK.out))):w.heap.size≤gb102));have n5_:=Aside0.mk ((Nat.le_trans HW0.out (by rw [hg];exact (keep_size (w:=w) (g:=g) (row:=none) (by repeat (first|(with_reducible first|exact HK.out|apply KeepBut.set_|apply keep_drewN|apply keep_drew|apply keep_alloc)|exact HK.out))):w.heap.size≤gb102):w0.heap.size≤gb102));have n6_:=Aside0.mk ((by rw [hg];exact Nat.ne_of_lt (IsS127.lt (show IsS127 w0 _ g s0_0 s0_1 from by repeat (first|(with_reducible first|exact HI0.out|apply IsS127.alloc|apply IsS127.drewN|apply IsS127.drew|apply IsS127.set_0|apply IsS127.set_1)|exact HI0.out|apply IsS127.set_0|apply IsS127.set_1))):g ≠ gb102));have n7_:=Aside0.mk ((by rw [hg];exact Nat.ne_of_gt (IsS127.lt (show IsS127 w0 _ g s0_0 s0_1 from by repeat (first|(with_reducible first|exact HI0.out|apply IsS127.alloc|apply IsS127.drewN|apply IsS127.drew|apply IsS127.set_0|apply IsS127.set_1)|exact HI0.out|apply IsS127.set_0|apply IsS127.set_1))):gb102 ≠ g));clear HI0;clear HK;clear HB;have HI0:=n0_;have HK:=n1_;have HB:=n2_;have BK102:=n3_;have GW102:=n4_;have GE102:=n5_;have NB0_102:=n6_;have NB102_0:=n7_;clear n0_ n1_ n2_ n3_ n4_ n5_ n6_ n7_;clear hb hbox hg;obtain ⟨HGz4,hgz4⟩:=HI0.out;have hcz4_0:=cellS127_0 HGz4;have hcz4_1:=cellS127_1 HGz4;have hfz4_0:=blk_frozen HGz4 0;have hfz4_1:=blk_frozen HGz4 1;clear HGz4 hgz4))
 (try simp only [Act.put,List.setIfInBounds_toArray,List.set_cons_zero,List.set_cons_succ])
 go_cut [4] (fun v4 wc => ∃ (kq:Nat) (x4_1:Int) (x1000_1:ByteArray) (x1001_1:Int),v4=.int .i64 x4_1∧Aside0 (kind_scan_field.j1 kq x4_1 x1000_1 x1001_1=some (r1,r2,r3,r4,r5,r6,r7,r8))∧Aside0 (kq≤k)∧Aside0 (wc.heap[gb102]?=some (.cells #[.int .i64 0,.string (⟨#[]⟩:ByteArray),.int .i64 0,.int .i64 0,.int .i64 0] 78 (0,0)))∧Aside0 (IsS127 w0 wc g x1000_1 x1001_1)∧Aside0 (KeepBut w wc g none)∧Aside0 (Below w0.heap.size w0 wc))
 case first =>
  have H:=HC2.out
  clear HC2
  have H':=Aside0.mk H
  clear H
  go_wp2
  go_loopg [4,15] k (fun kq v4 v15 w' => ∃ (x4_1:Int) (x15_1:Int) (x1000_1:ByteArray) (x1001_1:Int),v4=.int .i64 x4_1∧v15=.int .i64 x15_1∧Aside0 (kind_scan_field.l0 kq x4_1 (s0_0.size:Int) x15_1 x1000_1 x1001_1=some (r1,r2,r3,r4,r5,r6,r7,r8))∧Aside0 (kq≤k)∧Aside0 (w'.heap[gb102]?=some (.cells #[.int .i64 0,.string (⟨#[]⟩:ByteArray),.int .i64 0,.int .i64 0,.int .i64 0] 78 (0,0)))∧Aside0 (IsS127 w0 w' g x1000_1 x1001_1)∧Aside0 (KeepBut w w' g none)∧Aside0 (Below w0.heap.size w0 w'))
  case atStart => exact ⟨(0),(0),(s0_0),(s0_1),r3_,r3_,H',⟨Nat.le_refl _⟩,⟨bk_⟩,⟨by repeat (first|(with_reducible first|exact HI0.out|apply IsS127.alloc|apply IsS127.drewN|apply IsS127.drew|apply IsS127.set_0|apply IsS127.set_1|apply IsS127.far (hne:=NB0_102.out))|exact HI0.out|apply IsS127.set_0|apply IsS127.set_1)⟩,⟨by repeat (first|(with_reducible first|exact HK.out|apply KeepBut.set_|apply keep_drewN|apply keep_drew|apply keep_alloc|refine keep_far ?_ GW102.out _)|exact HK.out)⟩,⟨by repeat (first|(with_reducible first|exact HB.out|apply below_alloc|apply pw_below_drewN|apply below_drew1|refine below_set ?_ (IsS127.ge HI0.out)|refine below_set ?_ GE102.out)|exact HB.out)⟩⟩
  case round =>
   clear H'
   try clear hcz4_0;try clear hcz4_1;try clear hfz4_0;try clear hfz4_1
   obtain ⟨x4_1,x15_1,x1000_1,x1001_1,rfl,rfl,HA,HK1,BK102,HI0,HK,HB⟩:=hrel
   cases gk with
   | zero => exact absurd HA.out (by simp [kind_scan_field.l0])
   | succ k1 =>
    have H:=HA.out
    clear HA
    simp only [kind_scan_field.l0] at H
    by_cases c5:x15_1 < (s0_0.size:Int)
    ·rw [if_pos c5] at H
     have c5b0:decide (x15_1 < (s0_0.size:Int))=true:=decide_eq_true c5
     clear c5
     (first|rw [c5b0]|(simp only [i64_w,i32_w];rw [c5b0])|skip)
     replace H:=Option.bind_eq_some_iff.mp H
     obtain ⟨⟨t103,t104,t105⟩,A60,H⟩:=H
     try dsimp only at H
     have A6:=Aside0.mk A60
     clear A60
     replace H:=Option.bind_eq_some_iff.mp H
     obtain ⟨t106,A70,H⟩:=H
     try dsimp only at H
     have A7:=Aside0.mk A70
     clear A70
     by_cases c8:t106=true
     ·subst c8
      rw [if_pos rfl] at H
      have H':=Aside0.mk H
      clear H
      go_wp2_with (first|(refine callA_ (f:=53) (some 18) Tryd.func53 #[.pointer (some ⟨g,0,none⟩)] ?_;(with_reducible refine (kind_scan_left.calls g x1000_1 x1001_1 t103 t104 t105 w0 _ ?side1 ?side2 A6.out).mono ?_);(case side1 => repeat (first|(with_reducible first|exact HI0.out|apply IsS127.alloc|apply IsS127.drewN|apply IsS127.drew|apply IsS127.set_0|apply IsS127.set_1|apply IsS127.far (hne:=NB0_102.out))|exact HI0.out|apply IsS127.set_0|apply IsS127.set_1));(case side2 => repeat (first|(with_reducible first|exact HB.out|apply below_alloc|apply pw_below_drewN|apply below_drew1|refine below_set ?_ (IsS127.ge HI0.out)|refine below_set ?_ GE102.out)|exact HB.out));rintro e w9 ⟨rfl,hi,hb,hk⟩;refine ⟨_,rfl,?_⟩;have n0_:=Aside0.mk (KeepBut.blk hk (g':=gb102) (o:=.cells #[.int .i64 0,.string (⟨#[]⟩:ByteArray),.int .i64 0,.int .i64 0,.int .i64 0] 78 (0,0)) bk_ NB102_0.out (by simp));have n1_:=Aside0.mk (KeepBut.trans (by repeat (first|(with_reducible first|exact HK.out|apply KeepBut.set_|apply keep_drewN|apply keep_drew|apply keep_alloc|refine keep_far ?_ GW102.out _)|exact HK.out)) hk (.inl rfl));have n2_:=Aside0.mk (hb);have n3_:=Aside0.mk (hi);clear BK102;clear HK;clear HB;clear HI0;have BK102:=n0_;have HK:=n1_;have HB:=n2_;have HI0:=n3_;clear n0_ n1_ n2_ n3_;(try clear hb);(try clear hb2);(try clear hk);(try clear hi))|(refine callA_ (f:=61) (some 19) Tryd.func61 #[.string t103,.string (⟨#[91]⟩:ByteArray)] ?_;(with_reducible refine (strings_HasPrefix.calls t103 (⟨#[91]⟩:ByteArray) true _ A7.out).mono ?_);rintro e w' ⟨rfl,⟨nd,rfl⟩⟩;refine ⟨_,rfl,?_⟩;(try (rw [drewN_self w9];generalize hq_:World.drewN w9 _=w9;have n0_:Aside0 (w9.heap[gb102]?=some (.cells #[.int .i64 0,.string (⟨#[]⟩:ByteArray),.int .i64 0,.int .i64 0,.int .i64 0] 78 (0,0))):=⟨by rw [← hq_];exact bk_⟩;have n1_:Aside0 (IsS127 w0 w9 g t104 t105):=⟨by rw [← hq_];exact (by repeat (first|(with_reducible first|exact HI0.out|apply IsS127.alloc|apply IsS127.drewN|apply IsS127.drew|apply IsS127.set_0|apply IsS127.set_1|apply IsS127.far (hne:=NB0_102.out))|exact HI0.out|apply IsS127.set_0|apply IsS127.set_1))⟩;have n2_:Aside0 (KeepBut w w9 g none):=⟨by rw [← hq_];exact (by repeat (first|(with_reducible first|exact HK.out|apply KeepBut.set_|apply keep_drewN|apply keep_drew|apply keep_alloc|refine keep_far ?_ GW102.out _)|exact HK.out))⟩;have n3_:Aside0 (Below w0.heap.size w0 w9):=⟨by rw [← hq_];exact (by repeat (first|(with_reducible first|exact HB.out|apply below_alloc|apply pw_below_drewN|apply below_drew1|refine below_set ?_ (IsS127.ge HI0.out)|refine below_set ?_ GE102.out)|exact HB.out))⟩;clear BK102 HI0 HK HB hq_;have BK102:=n0_;have HI0:=n1_;have HK:=n2_;have HB:=n3_;clear n0_ n1_ n2_ n3_));obtain ⟨HGz10,hgz10⟩:=HI0.out;have hcz10_0:=cellS127_0 HGz10;have hcz10_1:=cellS127_1 HGz10;have hfz10_0:=blk_frozen HGz10 0;have hfz10_1:=blk_frozen HGz10 1;clear HGz10 hgz10))
      go_roundg k1
      case measure => have:=HK1.out;omega
      case rel => exact ⟨(wrap64 (x4_1 + 1)),(wrap64 (x15_1 + 1)),(t104),(wrap64 (t105 + 1)),r3_,r3_,H',⟨by have:=HK1.out;omega⟩,⟨bk_⟩,⟨by repeat (first|(with_reducible first|exact HI0.out|apply IsS127.alloc|apply IsS127.drewN|apply IsS127.drew|apply IsS127.set_0|apply IsS127.set_1|apply IsS127.far (hne:=NB0_102.out))|exact HI0.out|apply IsS127.set_0|apply IsS127.set_1)⟩,⟨by repeat (first|(with_reducible first|exact HK.out|apply KeepBut.set_|apply keep_drewN|apply keep_drew|apply keep_alloc|refine keep_far ?_ GW102.out _)|exact HK.out)⟩,⟨by repeat (first|(with_reducible first|exact HB.out|apply below_alloc|apply pw_below_drewN|apply below_drew1|refine below_set ?_ (IsS127.ge HI0.out)|refine below_set ?_ GE102.out)|exact HB.out)⟩⟩
     ·replace c8:=Bool.eq_false_iff.mpr c8
      subst c8
      rw [if_neg (show ¬ (false=true) by decide)] at H
      have H':=Aside0.mk H
      clear H
      go_wp2_with (first|(refine callA_ (f:=53) (some 18) Tryd.func53 #[.pointer (some ⟨g,0,none⟩)] ?_;(with_reducible refine (kind_scan_left.calls g x1000_1 x1001_1 t103 t104 t105 w0 _ ?side1 ?side2 A6.out).mono ?_);(case side1 => repeat (first|(with_reducible first|exact HI0.out|apply IsS127.alloc|apply IsS127.drewN|apply IsS127.drew|apply IsS127.set_0|apply IsS127.set_1|apply IsS127.far (hne:=NB0_102.out))|exact HI0.out|apply IsS127.set_0|apply IsS127.set_1));(case side2 => repeat (first|(with_reducible first|exact HB.out|apply below_alloc|apply pw_below_drewN|apply below_drew1|refine below_set ?_ (IsS127.ge HI0.out)|refine below_set ?_ GE102.out)|exact HB.out));rintro e w11 ⟨rfl,hi,hb,hk⟩;refine ⟨_,rfl,?_⟩;have n0_:=Aside0.mk (KeepBut.blk hk (g':=gb102) (o:=.cells #[.int .i64 0,.string (⟨#[]⟩:ByteArray),.int .i64 0,.int .i64 0,.int .i64 0] 78 (0,0)) bk_ NB102_0.out (by simp));have n1_:=Aside0.mk (KeepBut.trans (by repeat (first|(with_reducible first|exact HK.out|apply KeepBut.set_|apply keep_drewN|apply keep_drew|apply keep_alloc|refine keep_far ?_ GW102.out _)|exact HK.out)) hk (.inl rfl));have n2_:=Aside0.mk (hb);have n3_:=Aside0.mk (hi);clear BK102;clear HK;clear HB;clear HI0;have BK102:=n0_;have HK:=n1_;have HB:=n2_;have HI0:=n3_;clear n0_ n1_ n2_ n3_;(try clear hb);(try clear hb2);(try clear hk);(try clear hi))|(refine callA_ (f:=61) (some 19) Tryd.func61 #[.string t103,.string (⟨#[91]⟩:ByteArray)] ?_;(with_reducible refine (strings_HasPrefix.calls t103 (⟨#[91]⟩:ByteArray) false _ A7.out).mono ?_);rintro e w' ⟨rfl,⟨nd,rfl⟩⟩;refine ⟨_,rfl,?_⟩))
      go_meet
      case rel => exact ⟨_,(x4_1),(t104),(t105),r3_,H',⟨by have:=HK1.out;first|omega|exact Nat.le_refl _⟩,⟨bk_⟩,⟨by repeat (first|(with_reducible first|exact HI0.out|apply IsS127.alloc|apply IsS127.drewN|apply IsS127.drew|apply IsS127.set_0|apply IsS127.set_1|apply IsS127.far (hne:=NB0_102.out))|exact HI0.out|apply IsS127.set_0|apply IsS127.set_1)⟩,⟨by repeat (first|(with_reducible first|exact HK.out|apply KeepBut.set_|apply keep_drewN|apply keep_drew|apply keep_alloc|refine keep_far ?_ GW102.out _)|exact HK.out)⟩,⟨by repeat (first|(with_reducible first|exact HB.out|apply below_alloc|apply pw_below_drewN|apply below_drew1|refine below_set ?_ (IsS127.ge HI0.out)|refine below_set ?_ GE102.out)|exact HB.out)⟩⟩
    ·rw [if_neg c5] at H
     have c5b0:decide (x15_1 < (s0_0.size:Int))=false:=decide_eq_false c5
     clear c5
     (first|rw [c5b0]|(simp only [i64_w,i32_w];rw [c5b0])|skip)
     have H':=Aside0.mk H
     clear H
     go_wp2
     go_meet
     case rel => exact ⟨_,(x4_1),(x1000_1),(x1001_1),r3_,H',⟨by have:=HK1.out;first|omega|exact Nat.le_refl _⟩,⟨bk_⟩,⟨by repeat (first|(with_reducible first|exact HI0.out|apply IsS127.alloc|apply IsS127.drewN|apply IsS127.drew|apply IsS127.set_0|apply IsS127.set_1|apply IsS127.far (hne:=NB0_102.out))|exact HI0.out|apply IsS127.set_0|apply IsS127.set_1)⟩,⟨by repeat (first|(with_reducible first|exact HK.out|apply KeepBut.set_|apply keep_drewN|apply keep_drew|apply keep_alloc|refine keep_far ?_ GW102.out _)|exact HK.out)⟩,⟨by repeat (first|(with_reducible first|exact HB.out|apply below_alloc|apply pw_below_drewN|apply below_drew1|refine below_set ?_ (IsS127.ge HI0.out)|refine below_set ?_ GE102.out)|exact HB.out)⟩⟩
 case rest =>
  clear HC2
  obtain ⟨kq,x4_1,x1000_1,x1001_1,rfl,HA,HJ1,BK102,HI0,HK,HB⟩:=hcut
  cases kq with
  | zero => exact absurd HA.out (by simp [kind_scan_field.j1])
  | succ kj1 =>
   have H:=HA.out
   clear HA
   simp only [kind_scan_field.j1] at H
   have HC12:=Aside0.mk H
   clear H
   go_upto_region 8 with (fail)
   go_cut [37] (fun v37 wc => ∃ (kq:Nat) (x37_11:Bool) (x1000_11:ByteArray) (x1001_11:Int),v37=.bool x37_11∧Aside0 (kind_scan_field.j2 kq x4_1 x37_11 x1000_11 x1001_11=some (r1,r2,r3,r4,r5,r6,r7,r8))∧Aside0 (kq≤kj1)∧Aside0 (wc.heap[gb102]?=some (.cells #[.int .i64 0,.string (⟨#[]⟩:ByteArray),.int .i64 0,.int .i64 0,.int .i64 0] 78 (0,0)))∧Aside0 (IsS127 w0 wc g x1000_11 x1001_11)∧Aside0 (KeepBut w wc g none)∧Aside0 (Below w0.heap.size w0 wc))
   case first =>
    have H:=HC12.out
    clear HC12
    replace H:=Option.bind_eq_some_iff.mp H
    obtain ⟨⟨t107,t108,t109⟩,A130,H⟩:=H
    try dsimp only at H
    have A13:=Aside0.mk A130
    clear A130
    by_cases c14:t107.toList=([]:List UInt8)
    ·rw [if_pos c14] at H
     have c14b0:(t107.toList==([]:List UInt8))=true:=beq_iff_eq.mpr c14
     have c14b1:(t107.toList != ([]:List UInt8))=false:=bne_eq_false_iff_eq.mpr c14
     clear c14
     (first|rw [c14b0]|(simp only [i64_w,i32_w];rw [c14b0])|skip)
     have H':=Aside0.mk H
     clear H
     go_wp2_with (first|(refine callA_ (f:=53) (some 32) Tryd.func53 #[.pointer (some ⟨g,0,none⟩)] ?_;(with_reducible refine (kind_scan_left.calls g x1000_1 x1001_1 t107 t108 t109 w0 _ ?side1 ?side2 A13.out).mono ?_);(case side1 => repeat (first|(with_reducible first|exact HI0.out|apply IsS127.alloc|apply IsS127.drewN|apply IsS127.drew|apply IsS127.set_0|apply IsS127.set_1|apply IsS127.far (hne:=NB0_102.out))|exact HI0.out|apply IsS127.set_0|apply IsS127.set_1));(case side2 => repeat (first|(with_reducible first|exact HB.out|apply below_alloc|apply pw_below_drewN|apply below_drew1|refine below_set ?_ (IsS127.ge HI0.out)|refine below_set ?_ GE102.out)|exact HB.out));rintro e w15 ⟨rfl,hi,hb,hk⟩;refine ⟨_,rfl,?_⟩;have n0_:=Aside0.mk (KeepBut.blk hk (g':=gb102) (o:=.cells #[.int .i64 0,.string (⟨#[]⟩:ByteArray),.int .i64 0,.int .i64 0,.int .i64 0] 78 (0,0)) bk_ NB102_0.out (by simp));have n1_:=Aside0.mk (KeepBut.trans (by repeat (first|(with_reducible first|exact HK.out|apply KeepBut.set_|apply keep_drewN|apply keep_drew|apply keep_alloc|refine keep_far ?_ GW102.out _)|exact HK.out)) hk (.inl rfl));have n2_:=Aside0.mk (hb);have n3_:=Aside0.mk (hi);clear BK102;clear HK;clear HB;clear HI0;have BK102:=n0_;have HK:=n1_;have HB:=n2_;have HI0:=n3_;clear n0_ n1_ n2_ n3_;(try clear hb);(try clear hb2);(try clear hk);(try clear hi)))
     go_meet
     case rel => exact ⟨_,(true),(t108),(t109),r3_,H',⟨by have:=HJ1.out;first|omega|exact Nat.le_refl _⟩,⟨bk_⟩,⟨by repeat (first|(with_reducible first|exact HI0.out|apply IsS127.alloc|apply IsS127.drewN|apply IsS127.drew|apply IsS127.set_0|apply IsS127.set_1|apply IsS127.far (hne:=NB0_102.out))|exact HI0.out|apply IsS127.set_0|apply IsS127.set_1)⟩,⟨by repeat (first|(with_reducible first|exact HK.out|apply KeepBut.set_|apply keep_drewN|apply keep_drew|apply keep_alloc|refine keep_far ?_ GW102.out _)|exact HK.out)⟩,⟨by repeat (first|(with_reducible first|exact HB.out|apply below_alloc|apply pw_below_drewN|apply below_drew1|refine below_set ?_ (IsS127.ge HI0.out)|refine below_set ?_ GE102.out)|exact HB.out)⟩⟩
    ·rw [if_neg c14] at H
     have c14b0:(t107.toList==([]:List UInt8))=false:=beq_eq_false_iff_ne.mpr c14
     have c14b1:(t107.toList != ([]:List UInt8))=true:=bne_iff_ne.mpr c14
     (first|rw [c14b0]|(simp only [i64_w,i32_w];rw [c14b0])|skip)
     have H':=Aside0.mk H
     clear H
     go_wp2_with (first|(refine callA_ (f:=53) (some 32) Tryd.func53 #[.pointer (some ⟨g,0,none⟩)] ?_;(with_reducible refine (kind_scan_left.calls g x1000_1 x1001_1 t107 t108 t109 w0 _ ?side1 ?side2 A13.out).mono ?_);(case side1 => repeat (first|(with_reducible first|exact HI0.out|apply IsS127.alloc|apply IsS127.drewN|apply IsS127.drew|apply IsS127.set_0|apply IsS127.set_1|apply IsS127.far (hne:=NB0_102.out))|exact HI0.out|apply IsS127.set_0|apply IsS127.set_1));(case side2 => repeat (first|(with_reducible first|exact HB.out|apply below_alloc|apply pw_below_drewN|apply below_drew1|refine below_set ?_ (IsS127.ge HI0.out)|refine below_set ?_ GE102.out)|exact HB.out));rintro e w16 ⟨rfl,hi,hb,hk⟩;refine ⟨_,rfl,?_⟩;have n0_:=Aside0.mk (KeepBut.blk hk (g':=gb102) (o:=.cells #[.int .i64 0,.string (⟨#[]⟩:ByteArray),.int .i64 0,.int .i64 0,.int .i64 0] 78 (0,0)) bk_ NB102_0.out (by simp));have n1_:=Aside0.mk (KeepBut.trans (by repeat (first|(with_reducible first|exact HK.out|apply KeepBut.set_|apply keep_drewN|apply keep_drew|apply keep_alloc|refine keep_far ?_ GW102.out _)|exact HK.out)) hk (.inl rfl));have n2_:=Aside0.mk (hb);have n3_:=Aside0.mk (hi);clear BK102;clear HK;clear HB;clear HI0;have BK102:=n0_;have HK:=n1_;have HB:=n2_;have HI0:=n3_;clear n0_ n1_ n2_ n3_;(try clear hb);(try clear hb2);(try clear hk);(try clear hi)))
     go_meet
     case rel => exact ⟨_,(decide (x4_1 > 4)),(t108),(t109),r3_,H',⟨by have:=HJ1.out;first|omega|exact Nat.le_refl _⟩,⟨bk_⟩,⟨by repeat (first|(with_reducible first|exact HI0.out|apply IsS127.alloc|apply IsS127.drewN|apply IsS127.drew|apply IsS127.set_0|apply IsS127.set_1|apply IsS127.far (hne:=NB0_102.out))|exact HI0.out|apply IsS127.set_0|apply IsS127.set_1)⟩,⟨by repeat (first|(with_reducible first|exact HK.out|apply KeepBut.set_|apply keep_drewN|apply keep_drew|apply keep_alloc|refine keep_far ?_ GW102.out _)|exact HK.out)⟩,⟨by repeat (first|(with_reducible first|exact HB.out|apply below_alloc|apply pw_below_drewN|apply below_drew1|refine below_set ?_ (IsS127.ge HI0.out)|refine below_set ?_ GE102.out)|exact HB.out)⟩⟩
   case rest =>
    clear HC12
    obtain ⟨kq,x37_11,x1000_11,x1001_11,rfl,HA,HJ11,BK102,HI0,HK,HB⟩:=hcut
    cases kq with
    | zero => exact absurd HA.out (by simp [kind_scan_field.j2])
    | succ kj11 =>
     have H:=HA.out
     clear HA
     simp only [kind_scan_field.j2] at H
     by_cases c17:x37_11=true
     ·subst c17
      rw [if_pos rfl] at H
      simp only [Option.some.injEq,Prod.mk.injEq] at H
      obtain ⟨rfl,rfl,rfl,rfl,rfl,rfl,rfl,rfl⟩:=H
      have hnb18:=NB102_0.out
      have hnc18:=NB0_102.out
      obtain ⟨hcz19_0,hcz19_1,hcz19_2,hcz19_3,hcz19_4,hfz19_0,hfz19_1,hfz19_2,hfz19_3,hfz19_4⟩:=blk5_ BK102.out
      go_wp2_with (first|((with_reducible refine gate_store (t:=78) (p:=2) rfl ?_);refine store_event (t:=78) (p:=2) (v:=?vo_w20) (w1:=(((((wc.setCell ⟨gb102,0,none⟩ (.int .i64 0)).setCell ⟨gb102,1,none⟩ (.string (⟨#[]⟩:ByteArray))).setCell ⟨gb102,2,none⟩ (.int .i64 0)).setCell ⟨gb102,3,none⟩ (.int .i64 0)).setCell ⟨gb102,4,none⟩ (.int .i64 0))) ?hg ?ho ?hn ?hr ?_;(case ho => rfl);(case hg => rfl);(case hn => rfl);(case hr => first|(go_simp;done)|(go_simp;rfl));intro w20 hw;have n0_:Aside0 (w20.heap[gb102]?=some (.cells #[.int .i64 0,.string (⟨#[]⟩:ByteArray),.int .i64 0,.int .i64 0,.int .i64 0] 78 (0,0))):=⟨(by rw [hw];exact (st5_ BK102.out))⟩;have n1_:Aside0 (IsS127 w0 w20 g x1000_11 x1001_11):=⟨(by rw [hw];exact (by repeat (first|(with_reducible first|exact HI0.out|apply IsS127.alloc|apply IsS127.drewN|apply IsS127.drew|apply IsS127.set_0|apply IsS127.set_1|apply IsS127.far (hne:=NB0_102.out))|exact HI0.out|apply IsS127.set_0|apply IsS127.set_1)))⟩;have n2_:Aside0 (KeepBut w w20 g none):=⟨(by rw [hw];exact (by repeat (first|(with_reducible first|exact HK.out|apply KeepBut.set_|apply keep_drewN|apply keep_drew|apply keep_alloc|refine keep_far ?_ GW102.out _)|exact HK.out)))⟩;have n3_:Aside0 (Below w0.heap.size w0 w20):=⟨(by rw [hw];exact (by repeat (first|(with_reducible first|exact HB.out|apply below_alloc|apply pw_below_drewN|apply below_drew1|refine below_set ?_ (IsS127.ge HI0.out)|refine below_set ?_ GE102.out)|exact HB.out)))⟩;clear hw;clear BK102;clear HI0;clear HK;clear HB;have BK102:=n0_;have HI0:=n1_;have HK:=n2_;have HB:=n3_;clear n0_ n1_ n2_ n3_))
      refine bodyPost_ret (results_ct rfl _ _ gb102 78 #[.int .i64 0,.string (⟨#[]⟩:ByteArray),.int .i64 0,.int .i64 0,.int .i64 0] (0,0) _ rfl bk_ Tryd.underlying78 rfl (by kernel_rfl)) rfl ?_
      exact ⟨ew_,by repeat (first|(with_reducible first|exact HI0.out|apply IsS127.alloc|apply IsS127.drewN|apply IsS127.drew|apply IsS127.set_0|apply IsS127.set_1|apply IsS127.far (hne:=NB0_102.out))|exact HI0.out|apply IsS127.set_0|apply IsS127.set_1),by repeat (first|(with_reducible first|exact HB.out|apply below_alloc|apply pw_below_drewN|apply below_drew1|refine below_set ?_ (IsS127.ge HI0.out)|refine below_set ?_ GE102.out)|exact HB.out),by repeat (first|(with_reducible first|exact HK.out|apply KeepBut.set_|apply keep_drewN|apply keep_drew|apply keep_alloc|refine keep_far ?_ GW102.out _)|exact HK.out)⟩
     ·replace c17:=Bool.eq_false_iff.mpr c17
      subst c17
      rw [if_neg (show ¬ (false=true) by decide)] at H
      replace H:=Option.bind_eq_some_iff.mp H
      obtain ⟨⟨t111,t112,t113⟩,A210,H⟩:=H
      try dsimp only at H
      have A21:=Aside0.mk A210
      clear A210
      by_cases c22:0 < (t111.size:Int)
      ·rw [if_pos c22] at H
       have c22b0:decide (0 < (t111.size:Int))=true:=decide_eq_true c22
       have c22b1:decide (0 < t111.size)=true:=decide_eq_true (by omega)
       clear c22
       by_cases c24:(bt t111 0)=73
       ·rw [if_pos c24] at H
        have c24b0:((bt t111 0)==73)=true:=beq_iff_eq.mpr c24
        have c24b1:((bt t111 0) != 73)=false:=bne_eq_false_iff_eq.mpr c24
        clear c24
        by_cases c25:x4_1 > 0
        ·rw [if_pos c25] at H
         have c25b0:decide (0 < x4_1)=true:=decide_eq_true c25
         clear c25
         simp only [Option.some.injEq,Prod.mk.injEq] at H
         obtain ⟨rfl,rfl,rfl,rfl,rfl,rfl,rfl,rfl⟩:=H
         go_wp2_with (first|((with_reducible refine gate_dst (N:=5) rfl ?_);refine box_event ?hg (N:=5) ?hd (cs:=#[.int .i64 0,.string (⟨#[]⟩:ByteArray),.int .i64 0,.int .i64 0,.int .i64 0]) (t:=78) ?hr ?_;(case hd => rfl);(case hg => rfl);(case hr => first|(go_simp;done)|(go_simp;rfl));intro gb110 hg w26 hbox hb;have n0_:=Aside0.mk (blk_below (g:=gb102) (o:=.cells #[.int .i64 0,.string (⟨#[]⟩:ByteArray),.int .i64 0,.int .i64 0,.int .i64 0] 78 (0,0)) bk_ hb);have n1_:=Aside0.mk (IsS127.below (by repeat (first|(with_reducible first|exact HI0.out|apply IsS127.alloc|apply IsS127.drewN|apply IsS127.drew|apply IsS127.set_0|apply IsS127.set_1|apply IsS127.far (hne:=NB0_102.out))|exact HI0.out|apply IsS127.set_0|apply IsS127.set_1)) hb);have n2_:=Aside0.mk (KeepBut.trans (by repeat (first|(with_reducible first|exact HK.out|apply KeepBut.set_|apply keep_drewN|apply keep_drew|apply keep_alloc|refine keep_far ?_ GW102.out _)|exact HK.out)) (KeepBut.of_below hb g none) (.inl rfl));have n3_:=Aside0.mk (below_step (by repeat (first|(with_reducible first|exact HB.out|apply below_alloc|apply pw_below_drewN|apply below_drew1|refine below_set ?_ (IsS127.ge HI0.out)|refine below_set ?_ GE102.out)|exact HB.out)) hb);have n4_:=Aside0.mk (hbox);have n5_:=Aside0.mk ((by rw [hg];exact (keep_size (w:=w) (g:=g) (row:=none) (by repeat (first|(with_reducible first|exact HK.out|apply KeepBut.set_|apply keep_drewN|apply keep_drew|apply keep_alloc|refine keep_far ?_ GW102.out _)|exact HK.out))):w.heap.size≤gb110));have n6_:=Aside0.mk ((Nat.le_trans HW0.out (by rw [hg];exact (keep_size (w:=w) (g:=g) (row:=none) (by repeat (first|(with_reducible first|exact HK.out|apply KeepBut.set_|apply keep_drewN|apply keep_drew|apply keep_alloc|refine keep_far ?_ GW102.out _)|exact HK.out))):w.heap.size≤gb110):w0.heap.size≤gb110));have n7_:=Aside0.mk ((by rw [hg];exact Nat.ne_of_lt (blk_lt (g:=gb102) (o:=.cells #[.int .i64 0,.string (⟨#[]⟩:ByteArray),.int .i64 0,.int .i64 0,.int .i64 0] 78 (0,0)) bk_):gb102 ≠ gb110));have n8_:=Aside0.mk ((by rw [hg];exact Nat.ne_of_gt (blk_lt (g:=gb102) (o:=.cells #[.int .i64 0,.string (⟨#[]⟩:ByteArray),.int .i64 0,.int .i64 0,.int .i64 0] 78 (0,0)) bk_):gb110 ≠ gb102));have n9_:=Aside0.mk ((by rw [hg];exact Nat.ne_of_lt (IsS127.lt (show IsS127 w0 _ g x1000_11 x1001_11 from by repeat (first|(with_reducible first|exact HI0.out|apply IsS127.alloc|apply IsS127.drewN|apply IsS127.drew|apply IsS127.set_0|apply IsS127.set_1|apply IsS127.far (hne:=NB0_102.out))|exact HI0.out|apply IsS127.set_0|apply IsS127.set_1))):g ≠ gb110));have n10_:=Aside0.mk ((by rw [hg];exact Nat.ne_of_gt (IsS127.lt (show IsS127 w0 _ g x1000_11 x1001_11 from by repeat (first|(with_reducible first|exact HI0.out|apply IsS127.alloc|apply IsS127.drewN|apply IsS127.drew|apply IsS127.set_0|apply IsS127.set_1|apply IsS127.far (hne:=NB0_102.out))|exact HI0.out|apply IsS127.set_0|apply IsS127.set_1))):gb110 ≠ g));clear BK102;clear HI0;clear HK;clear HB;have BK102:=n0_;have HI0:=n1_;have HK:=n2_;have HB:=n3_;have BK110:=n4_;have GW110:=n5_;have GE110:=n6_;have NB102_110:=n7_;have NB110_102:=n8_;have NB0_110:=n9_;have NB110_0:=n10_;clear n0_ n1_ n2_ n3_ n4_ n5_ n6_ n7_ n8_ n9_ n10_;clear hb hbox hg;have hnb27:=NB110_102.out;have hnc27:=NB102_110.out;have hnb28:=NB110_0.out;have hnc28:=NB0_110.out;obtain ⟨hcz29_0,hcz29_1,hcz29_2,hcz29_3,hcz29_4,hfz29_0,hfz29_1,hfz29_2,hfz29_3,hfz29_4⟩:=blk5_ BK110.out)|((with_reducible refine gate_store (t:=78) (p:=5) rfl ?_);refine store_event (t:=78) (p:=5) (v:=?vo_w30) (w1:=(((((w26.setCell ⟨gb110,0,none⟩ (.int .i64 0)).setCell ⟨gb110,1,none⟩ (.string (⟨#[]⟩:ByteArray))).setCell ⟨gb110,2,none⟩ (.int .i64 0)).setCell ⟨gb110,3,none⟩ (.int .i64 0)).setCell ⟨gb110,4,none⟩ (.int .i64 0))) ?hg ?ho ?hn ?hr ?_;(case ho => rfl);(case hg => rfl);(case hn => rfl);(case hr => first|(go_simp;done)|(go_simp;rfl));intro w30 hw;have n0_:Aside0 (w30.heap[gb102]?=some (.cells #[.int .i64 0,.string (⟨#[]⟩:ByteArray),.int .i64 0,.int .i64 0,.int .i64 0] 78 (0,0))):=⟨(by rw [hw];exact bk_)⟩;have n1_:Aside0 (w30.heap[gb110]?=some (.cells #[.int .i64 0,.string (⟨#[]⟩:ByteArray),.int .i64 0,.int .i64 0,.int .i64 0] 78 (0,0))):=⟨(by rw [hw];exact (st5_ BK110.out))⟩;have n2_:Aside0 (IsS127 w0 w30 g x1000_11 x1001_11):=⟨(by rw [hw];exact (by repeat (first|(with_reducible first|exact HI0.out|apply IsS127.alloc|apply IsS127.drewN|apply IsS127.drew|apply IsS127.set_0|apply IsS127.set_1|apply IsS127.far (hne:=NB0_102.out)|apply IsS127.far (hne:=NB0_110.out))|exact HI0.out|apply IsS127.set_0|apply IsS127.set_1)))⟩;have n3_:Aside0 (KeepBut w w30 g none):=⟨(by rw [hw];exact (by repeat (first|(with_reducible first|exact HK.out|apply KeepBut.set_|apply keep_drewN|apply keep_drew|apply keep_alloc|refine keep_far ?_ GW102.out _|refine keep_far ?_ GW110.out _)|exact HK.out)))⟩;have n4_:Aside0 (Below w0.heap.size w0 w30):=⟨(by rw [hw];exact (by repeat (first|(with_reducible first|exact HB.out|apply below_alloc|apply pw_below_drewN|apply below_drew1|refine below_set ?_ (IsS127.ge HI0.out)|refine below_set ?_ GE102.out|refine below_set ?_ GE110.out)|exact HB.out)))⟩;clear hw;clear BK102;clear BK110;clear HI0;clear HK;clear HB;have BK102:=n0_;have BK110:=n1_;have HI0:=n2_;have HK:=n3_;have HB:=n4_;clear n0_ n1_ n2_ n3_ n4_)|(refine callA_ (f:=53) (some 41) Tryd.func53 #[.pointer (some ⟨g,0,none⟩)] ?_;(with_reducible refine (kind_scan_left.calls g x1000_11 x1001_11 t111 t112 t113 w0 _ ?side1 ?side2 A21.out).mono ?_);(case side1 => repeat (first|(with_reducible first|exact HI0.out|apply IsS127.alloc|apply IsS127.drewN|apply IsS127.drew|apply IsS127.set_0|apply IsS127.set_1|apply IsS127.far (hne:=NB0_102.out)|apply IsS127.far (hne:=NB0_110.out))|exact HI0.out|apply IsS127.set_0|apply IsS127.set_1));(case side2 => repeat (first|(with_reducible first|exact HB.out|apply below_alloc|apply pw_below_drewN|apply below_drew1|refine below_set ?_ (IsS127.ge HI0.out)|refine below_set ?_ GE102.out|refine below_set ?_ GE110.out)|exact HB.out));rintro e w31 ⟨rfl,hi,hb,hk⟩;refine ⟨_,rfl,?_⟩;have n0_:=Aside0.mk (KeepBut.blk hk (g':=gb102) (o:=.cells #[.int .i64 0,.string (⟨#[]⟩:ByteArray),.int .i64 0,.int .i64 0,.int .i64 0] 78 (0,0)) bk_ NB102_0.out (by simp));have n1_:=Aside0.mk (KeepBut.blk hk (g':=gb110) (o:=.cells #[.int .i64 0,.string (⟨#[]⟩:ByteArray),.int .i64 0,.int .i64 0,.int .i64 0] 78 (0,0)) bk_ NB110_0.out (by simp));have n2_:=Aside0.mk (KeepBut.trans (by repeat (first|(with_reducible first|exact HK.out|apply KeepBut.set_|apply keep_drewN|apply keep_drew|apply keep_alloc|refine keep_far ?_ GW102.out _|refine keep_far ?_ GW110.out _)|exact HK.out)) hk (.inl rfl));have n3_:=Aside0.mk (hb);have n4_:=Aside0.mk (hi);clear BK102;clear BK110;clear HK;clear HB;clear HI0;have BK102:=n0_;have BK110:=n1_;have HK:=n2_;have HB:=n3_;have HI0:=n4_;clear n0_ n1_ n2_ n3_ n4_;(try clear hb);(try clear hb2);(try clear hk);(try clear hi);have p23:0≤(0:Int):=(by omega);have q23:0 < t111.size:=(by have:(0:Int) < (t111.size:Int):=od_;omega);have hx23:∀ h:0 < t111.size,((t111[0]'h).toNat:Int)=bt t111 0:=bt_at t111 0;clear p23;have qi23:(0 < (t111.size:Int))=True:=eq_true (od_);replace q23:=eq_true q23;obtain ⟨hcz32_0,hcz32_1,hcz32_2,hcz32_3,hcz32_4,hfz32_0,hfz32_1,hfz32_2,hfz32_3,hfz32_4⟩:=blk5_ BK110.out;obtain ⟨HGz33,hgz33⟩:=HI0.out;have hcz33_0:=cellS127_0 HGz33;have hcz33_1:=cellS127_1 HGz33;have hfz33_0:=blk_frozen HGz33 0;have hfz33_1:=blk_frozen HGz33 1;clear HGz33 hgz33;have hnb34:=NB102_0.out;have hnc34:=NB0_102.out;obtain ⟨hcz35_0,hcz35_1,hcz35_2,hcz35_3,hcz35_4,hfz35_0,hfz35_1,hfz35_2,hfz35_3,hfz35_4⟩:=blk5_ BK102.out))
         refine bodyPost_ret (results_ct rfl _ _ gb102 78 #[.int .i64 5,.string (⟨#[]⟩:ByteArray),.int .i64 x4_1,.int .i64 1,.int .i64 0] (0,0) _ rfl (by (with_reducible repeat (first|refine blk_drewN ?_ _|refine blk_drew ?_|refine blk_alloc ?_ _));refine blk_put (cs:=#[.int .i64 5,.string (⟨#[]⟩:ByteArray),.int .i64 x4_1,.int .i64 1,.int .i64 0]) ?_ 4 _ rfl;(with_reducible repeat (first|refine blk_drewN ?_ _|refine blk_drew ?_|refine blk_alloc ?_ _));refine blk_put (cs:=#[.int .i64 5,.string (⟨#[]⟩:ByteArray),.int .i64 x4_1,.int .i64 0,.int .i64 0]) ?_ 3 _ rfl;(with_reducible repeat (first|refine blk_drewN ?_ _|refine blk_drew ?_|refine blk_alloc ?_ _));refine blk_put (cs:=#[.int .i64 5,.string (⟨#[]⟩:ByteArray),.int .i64 0,.int .i64 0,.int .i64 0]) ?_ 2 _ rfl;(with_reducible repeat (first|refine blk_drewN ?_ _|refine blk_drew ?_|refine blk_alloc ?_ _));refine blk_put (cs:=#[.int .i64 5,.string (⟨#[]⟩:ByteArray),.int .i64 0,.int .i64 0,.int .i64 0]) ?_ 1 _ rfl;(with_reducible repeat (first|refine blk_drewN ?_ _|refine blk_drew ?_|refine blk_alloc ?_ _));refine blk_put (cs:=#[.int .i64 0,.string (⟨#[]⟩:ByteArray),.int .i64 0,.int .i64 0,.int .i64 0]) ?_ 0 _ rfl;(with_reducible repeat (first|refine blk_drewN ?_ _|refine blk_drew ?_|refine blk_alloc ?_ _));refine blk_far ?_ NB102_110.out _;(with_reducible repeat (first|refine blk_drewN ?_ _|refine blk_drew ?_|refine blk_alloc ?_ _));refine blk_far ?_ NB102_110.out _;(with_reducible repeat (first|refine blk_drewN ?_ _|refine blk_drew ?_|refine blk_alloc ?_ _));refine blk_far ?_ NB102_110.out _;(with_reducible repeat (first|refine blk_drewN ?_ _|refine blk_drew ?_|refine blk_alloc ?_ _));refine blk_far ?_ NB102_0.out _;(with_reducible repeat (first|refine blk_drewN ?_ _|refine blk_drew ?_|refine blk_alloc ?_ _));refine blk_far ?_ NB102_110.out _;(with_reducible repeat (first|refine blk_drewN ?_ _|refine blk_drew ?_|refine blk_alloc ?_ _));exact BK102.out) Tryd.underlying78 rfl (by kernel_rfl)) rfl ?_
         exact ⟨ew_,by repeat (first|(with_reducible first|exact HI0.out|apply IsS127.alloc|apply IsS127.drewN|apply IsS127.drew|apply IsS127.set_0|apply IsS127.set_1|apply IsS127.far (hne:=NB0_102.out)|apply IsS127.far (hne:=NB0_110.out))|exact HI0.out|apply IsS127.set_0|apply IsS127.set_1),by repeat (first|(with_reducible first|exact HB.out|apply below_alloc|apply pw_below_drewN|apply below_drew1|refine below_set ?_ (IsS127.ge HI0.out)|refine below_set ?_ GE102.out|refine below_set ?_ GE110.out)|exact HB.out),by repeat (first|(with_reducible first|exact HK.out|apply KeepBut.set_|apply keep_drewN|apply keep_drew|apply keep_alloc|refine keep_far ?_ GW102.out _|refine keep_far ?_ GW110.out _)|exact HK.out)⟩
        ·rw [if_neg c25] at H
         have c25b0:decide (0 < x4_1)=false:=decide_eq_false c25
         clear c25
         simp only [Option.some.injEq,Prod.mk.injEq] at H
         obtain ⟨rfl,rfl,rfl,rfl,rfl,rfl,rfl,rfl⟩:=H
         go_wp2_with (first|((with_reducible refine gate_dst (N:=5) rfl ?_);refine box_event ?hg (N:=5) ?hd (cs:=#[.int .i64 0,.string (⟨#[]⟩:ByteArray),.int .i64 0,.int .i64 0,.int .i64 0]) (t:=78) ?hr ?_;(case hd => rfl);(case hg => rfl);(case hr => first|(go_simp;done)|(go_simp;rfl));intro gb110 hg w36 hbox hb;have n0_:=Aside0.mk (blk_below (g:=gb102) (o:=.cells #[.int .i64 0,.string (⟨#[]⟩:ByteArray),.int .i64 0,.int .i64 0,.int .i64 0] 78 (0,0)) bk_ hb);have n1_:=Aside0.mk (IsS127.below (by repeat (first|(with_reducible first|exact HI0.out|apply IsS127.alloc|apply IsS127.drewN|apply IsS127.drew|apply IsS127.set_0|apply IsS127.set_1|apply IsS127.far (hne:=NB0_102.out))|exact HI0.out|apply IsS127.set_0|apply IsS127.set_1)) hb);have n2_:=Aside0.mk (KeepBut.trans (by repeat (first|(with_reducible first|exact HK.out|apply KeepBut.set_|apply keep_drewN|apply keep_drew|apply keep_alloc|refine keep_far ?_ GW102.out _)|exact HK.out)) (KeepBut.of_below hb g none) (.inl rfl));have n3_:=Aside0.mk (below_step (by repeat (first|(with_reducible first|exact HB.out|apply below_alloc|apply pw_below_drewN|apply below_drew1|refine below_set ?_ (IsS127.ge HI0.out)|refine below_set ?_ GE102.out)|exact HB.out)) hb);have n4_:=Aside0.mk (hbox);have n5_:=Aside0.mk ((by rw [hg];exact (keep_size (w:=w) (g:=g) (row:=none) (by repeat (first|(with_reducible first|exact HK.out|apply KeepBut.set_|apply keep_drewN|apply keep_drew|apply keep_alloc|refine keep_far ?_ GW102.out _)|exact HK.out))):w.heap.size≤gb110));have n6_:=Aside0.mk ((Nat.le_trans HW0.out (by rw [hg];exact (keep_size (w:=w) (g:=g) (row:=none) (by repeat (first|(with_reducible first|exact HK.out|apply KeepBut.set_|apply keep_drewN|apply keep_drew|apply keep_alloc|refine keep_far ?_ GW102.out _)|exact HK.out))):w.heap.size≤gb110):w0.heap.size≤gb110));have n7_:=Aside0.mk ((by rw [hg];exact Nat.ne_of_lt (blk_lt (g:=gb102) (o:=.cells #[.int .i64 0,.string (⟨#[]⟩:ByteArray),.int .i64 0,.int .i64 0,.int .i64 0] 78 (0,0)) bk_):gb102 ≠ gb110));have n8_:=Aside0.mk ((by rw [hg];exact Nat.ne_of_gt (blk_lt (g:=gb102) (o:=.cells #[.int .i64 0,.string (⟨#[]⟩:ByteArray),.int .i64 0,.int .i64 0,.int .i64 0] 78 (0,0)) bk_):gb110 ≠ gb102));have n9_:=Aside0.mk ((by rw [hg];exact Nat.ne_of_lt (IsS127.lt (show IsS127 w0 _ g x1000_11 x1001_11 from by repeat (first|(with_reducible first|exact HI0.out|apply IsS127.alloc|apply IsS127.drewN|apply IsS127.drew|apply IsS127.set_0|apply IsS127.set_1|apply IsS127.far (hne:=NB0_102.out))|exact HI0.out|apply IsS127.set_0|apply IsS127.set_1))):g ≠ gb110));have n10_:=Aside0.mk ((by rw [hg];exact Nat.ne_of_gt (IsS127.lt (show IsS127 w0 _ g x1000_11 x1001_11 from by repeat (first|(with_reducible first|exact HI0.out|apply IsS127.alloc|apply IsS127.drewN|apply IsS127.drew|apply IsS127.set_0|apply IsS127.set_1|apply IsS127.far (hne:=NB0_102.out))|exact HI0.out|apply IsS127.set_0|apply IsS127.set_1))):gb110 ≠ g));clear BK102;clear HI0;clear HK;clear HB;have BK102:=n0_;have HI0:=n1_;have HK:=n2_;have HB:=n3_;have BK110:=n4_;have GW110:=n5_;have GE110:=n6_;have NB102_110:=n7_;have NB110_102:=n8_;have NB0_110:=n9_;have NB110_0:=n10_;clear n0_ n1_ n2_ n3_ n4_ n5_ n6_ n7_ n8_ n9_ n10_;clear hb hbox hg;have hnb37:=NB110_102.out;have hnc37:=NB102_110.out;have hnb38:=NB110_0.out;have hnc38:=NB0_110.out;obtain ⟨hcz39_0,hcz39_1,hcz39_2,hcz39_3,hcz39_4,hfz39_0,hfz39_1,hfz39_2,hfz39_3,hfz39_4⟩:=blk5_ BK110.out)|((with_reducible refine gate_store (t:=78) (p:=5) rfl ?_);refine store_event (t:=78) (p:=5) (v:=?vo_w40) (w1:=(((((w36.setCell ⟨gb110,0,none⟩ (.int .i64 0)).setCell ⟨gb110,1,none⟩ (.string (⟨#[]⟩:ByteArray))).setCell ⟨gb110,2,none⟩ (.int .i64 0)).setCell ⟨gb110,3,none⟩ (.int .i64 0)).setCell ⟨gb110,4,none⟩ (.int .i64 0))) ?hg ?ho ?hn ?hr ?_;(case ho => rfl);(case hg => rfl);(case hn => rfl);(case hr => first|(go_simp;done)|(go_simp;rfl));intro w40 hw;have n0_:Aside0 (w40.heap[gb102]?=some (.cells #[.int .i64 0,.string (⟨#[]⟩:ByteArray),.int .i64 0,.int .i64 0,.int .i64 0] 78 (0,0))):=⟨(by rw [hw];exact bk_)⟩;have n1_:Aside0 (w40.heap[gb110]?=some (.cells #[.int .i64 0,.string (⟨#[]⟩:ByteArray),.int .i64 0,.int .i64 0,.int .i64 0] 78 (0,0))):=⟨(by rw [hw];exact (st5_ BK110.out))⟩;have n2_:Aside0 (IsS127 w0 w40 g x1000_11 x1001_11):=⟨(by rw [hw];exact (by repeat (first|(with_reducible first|exact HI0.out|apply IsS127.alloc|apply IsS127.drewN|apply IsS127.drew|apply IsS127.set_0|apply IsS127.set_1|apply IsS127.far (hne:=NB0_102.out)|apply IsS127.far (hne:=NB0_110.out))|exact HI0.out|apply IsS127.set_0|apply IsS127.set_1)))⟩;have n3_:Aside0 (KeepBut w w40 g none):=⟨(by rw [hw];exact (by repeat (first|(with_reducible first|exact HK.out|apply KeepBut.set_|apply keep_drewN|apply keep_drew|apply keep_alloc|refine keep_far ?_ GW102.out _|refine keep_far ?_ GW110.out _)|exact HK.out)))⟩;have n4_:Aside0 (Below w0.heap.size w0 w40):=⟨(by rw [hw];exact (by repeat (first|(with_reducible first|exact HB.out|apply below_alloc|apply pw_below_drewN|apply below_drew1|refine below_set ?_ (IsS127.ge HI0.out)|refine below_set ?_ GE102.out|refine below_set ?_ GE110.out)|exact HB.out)))⟩;clear hw;clear BK102;clear BK110;clear HI0;clear HK;clear HB;have BK102:=n0_;have BK110:=n1_;have HI0:=n2_;have HK:=n3_;have HB:=n4_;clear n0_ n1_ n2_ n3_ n4_)|(refine callA_ (f:=53) (some 41) Tryd.func53 #[.pointer (some ⟨g,0,none⟩)] ?_;(with_reducible refine (kind_scan_left.calls g x1000_11 x1001_11 t111 t112 t113 w0 _ ?side1 ?side2 A21.out).mono ?_);(case side1 => repeat (first|(with_reducible first|exact HI0.out|apply IsS127.alloc|apply IsS127.drewN|apply IsS127.drew|apply IsS127.set_0|apply IsS127.set_1|apply IsS127.far (hne:=NB0_102.out)|apply IsS127.far (hne:=NB0_110.out))|exact HI0.out|apply IsS127.set_0|apply IsS127.set_1));(case side2 => repeat (first|(with_reducible first|exact HB.out|apply below_alloc|apply pw_below_drewN|apply below_drew1|refine below_set ?_ (IsS127.ge HI0.out)|refine below_set ?_ GE102.out|refine below_set ?_ GE110.out)|exact HB.out));rintro e w41 ⟨rfl,hi,hb,hk⟩;refine ⟨_,rfl,?_⟩;have n0_:=Aside0.mk (KeepBut.blk hk (g':=gb102) (o:=.cells #[.int .i64 0,.string (⟨#[]⟩:ByteArray),.int .i64 0,.int .i64 0,.int .i64 0] 78 (0,0)) bk_ NB102_0.out (by simp));have n1_:=Aside0.mk (KeepBut.blk hk (g':=gb110) (o:=.cells #[.int .i64 0,.string (⟨#[]⟩:ByteArray),.int .i64 0,.int .i64 0,.int .i64 0] 78 (0,0)) bk_ NB110_0.out (by simp));have n2_:=Aside0.mk (KeepBut.trans (by repeat (first|(with_reducible first|exact HK.out|apply KeepBut.set_|apply keep_drewN|apply keep_drew|apply keep_alloc|refine keep_far ?_ GW102.out _|refine keep_far ?_ GW110.out _)|exact HK.out)) hk (.inl rfl));have n3_:=Aside0.mk (hb);have n4_:=Aside0.mk (hi);clear BK102;clear BK110;clear HK;clear HB;clear HI0;have BK102:=n0_;have BK110:=n1_;have HK:=n2_;have HB:=n3_;have HI0:=n4_;clear n0_ n1_ n2_ n3_ n4_;(try clear hb);(try clear hb2);(try clear hk);(try clear hi);have p23:0≤(0:Int):=(by omega);have q23:0 < t111.size:=(by have:(0:Int) < (t111.size:Int):=od_;omega);have hx23:∀ h:0 < t111.size,((t111[0]'h).toNat:Int)=bt t111 0:=bt_at t111 0;clear p23;have qi23:(0 < (t111.size:Int))=True:=eq_true (od_);replace q23:=eq_true q23;obtain ⟨hcz42_0,hcz42_1,hcz42_2,hcz42_3,hcz42_4,hfz42_0,hfz42_1,hfz42_2,hfz42_3,hfz42_4⟩:=blk5_ BK110.out;obtain ⟨HGz43,hgz43⟩:=HI0.out;have hcz43_0:=cellS127_0 HGz43;have hcz43_1:=cellS127_1 HGz43;have hfz43_0:=blk_frozen HGz43 0;have hfz43_1:=blk_frozen HGz43 1;clear HGz43 hgz43;have hnb44:=NB102_0.out;have hnc44:=NB0_102.out;obtain ⟨hcz45_0,hcz45_1,hcz45_2,hcz45_3,hcz45_4,hfz45_0,hfz45_1,hfz45_2,hfz45_3,hfz45_4⟩:=blk5_ BK102.out))
         refine bodyPost_ret (results_ct rfl _ _ gb102 78 #[.int .i64 1,.string (⟨#[]⟩:ByteArray),.int .i64 0,.int .i64 0,.int .i64 0] (0,0) _ rfl (by (with_reducible repeat (first|refine blk_drewN ?_ _|refine blk_drew ?_|refine blk_alloc ?_ _));refine blk_put (cs:=#[.int .i64 1,.string (⟨#[]⟩:ByteArray),.int .i64 0,.int .i64 0,.int .i64 0]) ?_ 4 _ rfl;(with_reducible repeat (first|refine blk_drewN ?_ _|refine blk_drew ?_|refine blk_alloc ?_ _));refine blk_put (cs:=#[.int .i64 1,.string (⟨#[]⟩:ByteArray),.int .i64 0,.int .i64 0,.int .i64 0]) ?_ 3 _ rfl;(with_reducible repeat (first|refine blk_drewN ?_ _|refine blk_drew ?_|refine blk_alloc ?_ _));refine blk_put (cs:=#[.int .i64 1,.string (⟨#[]⟩:ByteArray),.int .i64 0,.int .i64 0,.int .i64 0]) ?_ 2 _ rfl;(with_reducible repeat (first|refine blk_drewN ?_ _|refine blk_drew ?_|refine blk_alloc ?_ _));refine blk_put (cs:=#[.int .i64 1,.string (⟨#[]⟩:ByteArray),.int .i64 0,.int .i64 0,.int .i64 0]) ?_ 1 _ rfl;(with_reducible repeat (first|refine blk_drewN ?_ _|refine blk_drew ?_|refine blk_alloc ?_ _));refine blk_put (cs:=#[.int .i64 0,.string (⟨#[]⟩:ByteArray),.int .i64 0,.int .i64 0,.int .i64 0]) ?_ 0 _ rfl;(with_reducible repeat (first|refine blk_drewN ?_ _|refine blk_drew ?_|refine blk_alloc ?_ _));refine blk_far ?_ NB102_0.out _;(with_reducible repeat (first|refine blk_drewN ?_ _|refine blk_drew ?_|refine blk_alloc ?_ _));refine blk_far ?_ NB102_110.out _;(with_reducible repeat (first|refine blk_drewN ?_ _|refine blk_drew ?_|refine blk_alloc ?_ _));exact BK102.out) Tryd.underlying78 rfl (by kernel_rfl)) rfl ?_
         exact ⟨ew_,by repeat (first|(with_reducible first|exact HI0.out|apply IsS127.alloc|apply IsS127.drewN|apply IsS127.drew|apply IsS127.set_0|apply IsS127.set_1|apply IsS127.far (hne:=NB0_102.out)|apply IsS127.far (hne:=NB0_110.out))|exact HI0.out|apply IsS127.set_0|apply IsS127.set_1),by repeat (first|(with_reducible first|exact HB.out|apply below_alloc|apply pw_below_drewN|apply below_drew1|refine below_set ?_ (IsS127.ge HI0.out)|refine below_set ?_ GE102.out|refine below_set ?_ GE110.out)|exact HB.out),by repeat (first|(with_reducible first|exact HK.out|apply KeepBut.set_|apply keep_drewN|apply keep_drew|apply keep_alloc|refine keep_far ?_ GW102.out _|refine keep_far ?_ GW110.out _)|exact HK.out)⟩
       ·rw [if_neg c24] at H
        have c24b0:((bt t111 0)==73)=false:=beq_eq_false_iff_ne.mpr c24
        have c24b1:((bt t111 0) != 73)=true:=bne_iff_ne.mpr c24
        by_cases c46:(bt t111 0)=74
        ·rw [if_pos c46] at H
         have c46b0:((bt t111 0)==74)=true:=beq_iff_eq.mpr c46
         have c46b1:((bt t111 0) != 74)=false:=bne_eq_false_iff_eq.mpr c46
         clear c46
         by_cases c47:x4_1 > 0
         ·rw [if_pos c47] at H
          have c47b0:decide (0 < x4_1)=true:=decide_eq_true c47
          clear c47
          simp only [Option.some.injEq,Prod.mk.injEq] at H
          obtain ⟨rfl,rfl,rfl,rfl,rfl,rfl,rfl,rfl⟩:=H
          go_wp2_with (first|((with_reducible refine gate_dst (N:=5) rfl ?_);refine box_event ?hg (N:=5) ?hd (cs:=#[.int .i64 0,.string (⟨#[]⟩:ByteArray),.int .i64 0,.int .i64 0,.int .i64 0]) (t:=78) ?hr ?_;(case hd => rfl);(case hg => rfl);(case hr => first|(go_simp;done)|(go_simp;rfl));intro gb110 hg w48 hbox hb;have n0_:=Aside0.mk (blk_below (g:=gb102) (o:=.cells #[.int .i64 0,.string (⟨#[]⟩:ByteArray),.int .i64 0,.int .i64 0,.int .i64 0] 78 (0,0)) bk_ hb);have n1_:=Aside0.mk (IsS127.below (by repeat (first|(with_reducible first|exact HI0.out|apply IsS127.alloc|apply IsS127.drewN|apply IsS127.drew|apply IsS127.set_0|apply IsS127.set_1|apply IsS127.far (hne:=NB0_102.out))|exact HI0.out|apply IsS127.set_0|apply IsS127.set_1)) hb);have n2_:=Aside0.mk (KeepBut.trans (by repeat (first|(with_reducible first|exact HK.out|apply KeepBut.set_|apply keep_drewN|apply keep_drew|apply keep_alloc|refine keep_far ?_ GW102.out _)|exact HK.out)) (KeepBut.of_below hb g none) (.inl rfl));have n3_:=Aside0.mk (below_step (by repeat (first|(with_reducible first|exact HB.out|apply below_alloc|apply pw_below_drewN|apply below_drew1|refine below_set ?_ (IsS127.ge HI0.out)|refine below_set ?_ GE102.out)|exact HB.out)) hb);have n4_:=Aside0.mk (hbox);have n5_:=Aside0.mk ((by rw [hg];exact (keep_size (w:=w) (g:=g) (row:=none) (by repeat (first|(with_reducible first|exact HK.out|apply KeepBut.set_|apply keep_drewN|apply keep_drew|apply keep_alloc|refine keep_far ?_ GW102.out _)|exact HK.out))):w.heap.size≤gb110));have n6_:=Aside0.mk ((Nat.le_trans HW0.out (by rw [hg];exact (keep_size (w:=w) (g:=g) (row:=none) (by repeat (first|(with_reducible first|exact HK.out|apply KeepBut.set_|apply keep_drewN|apply keep_drew|apply keep_alloc|refine keep_far ?_ GW102.out _)|exact HK.out))):w.heap.size≤gb110):w0.heap.size≤gb110));have n7_:=Aside0.mk ((by rw [hg];exact Nat.ne_of_lt (blk_lt (g:=gb102) (o:=.cells #[.int .i64 0,.string (⟨#[]⟩:ByteArray),.int .i64 0,.int .i64 0,.int .i64 0] 78 (0,0)) bk_):gb102 ≠ gb110));have n8_:=Aside0.mk ((by rw [hg];exact Nat.ne_of_gt (blk_lt (g:=gb102) (o:=.cells #[.int .i64 0,.string (⟨#[]⟩:ByteArray),.int .i64 0,.int .i64 0,.int .i64 0] 78 (0,0)) bk_):gb110 ≠ gb102));have n9_:=Aside0.mk ((by rw [hg];exact Nat.ne_of_lt (IsS127.lt (show IsS127 w0 _ g x1000_11 x1001_11 from by repeat (first|(with_reducible first|exact HI0.out|apply IsS127.alloc|apply IsS127.drewN|apply IsS127.drew|apply IsS127.set_0|apply IsS127.set_1|apply IsS127.far (hne:=NB0_102.out))|exact HI0.out|apply IsS127.set_0|apply IsS127.set_1))):g ≠ gb110));have n10_:=Aside0.mk ((by rw [hg];exact Nat.ne_of_gt (IsS127.lt (show IsS127 w0 _ g x1000_11 x1001_11 from by repeat (first|(with_reducible first|exact HI0.out|apply IsS127.alloc|apply IsS127.drewN|apply IsS127.drew|apply IsS127.set_0|apply IsS127.set_1|apply IsS127.far (hne:=NB0_102.out))|exact HI0.out|apply IsS127.set_0|apply IsS127.set_1))):gb110 ≠ g));clear BK102;clear HI0;clear HK;clear HB;have BK102:=n0_;have HI0:=n1_;have HK:=n2_;have HB:=n3_;have BK110:=n4_;have GW110:=n5_;have GE110:=n6_;have NB102_110:=n7_;have NB110_102:=n8_;have NB0_110:=n9_;have NB110_0:=n10_;clear n0_ n1_ n2_ n3_ n4_ n5_ n6_ n7_ n8_ n9_ n10_;clear hb hbox hg;have hnb49:=NB110_102.out;have hnc49:=NB102_110.out;have hnb50:=NB110_0.out;have hnc50:=NB0_110.out;obtain ⟨hcz51_0,hcz51_1,hcz51_2,hcz51_3,hcz51_4,hfz51_0,hfz51_1,hfz51_2,hfz51_3,hfz51_4⟩:=blk5_ BK110.out)|((with_reducible refine gate_store (t:=78) (p:=5) rfl ?_);refine store_event (t:=78) (p:=5) (v:=?vo_w52) (w1:=(((((w48.setCell ⟨gb110,0,none⟩ (.int .i64 0)).setCell ⟨gb110,1,none⟩ (.string (⟨#[]⟩:ByteArray))).setCell ⟨gb110,2,none⟩ (.int .i64 0)).setCell ⟨gb110,3,none⟩ (.int .i64 0)).setCell ⟨gb110,4,none⟩ (.int .i64 0))) ?hg ?ho ?hn ?hr ?_;(case ho => rfl);(case hg => rfl);(case hn => rfl);(case hr => first|(go_simp;done)|(go_simp;rfl));intro w52 hw;have n0_:Aside0 (w52.heap[gb102]?=some (.cells #[.int .i64 0,.string (⟨#[]⟩:ByteArray),.int .i64 0,.int .i64 0,.int .i64 0] 78 (0,0))):=⟨(by rw [hw];exact bk_)⟩;have n1_:Aside0 (w52.heap[gb110]?=some (.cells #[.int .i64 0,.string (⟨#[]⟩:ByteArray),.int .i64 0,.int .i64 0,.int .i64 0] 78 (0,0))):=⟨(by rw [hw];exact (st5_ BK110.out))⟩;have n2_:Aside0 (IsS127 w0 w52 g x1000_11 x1001_11):=⟨(by rw [hw];exact (by repeat (first|(with_reducible first|exact HI0.out|apply IsS127.alloc|apply IsS127.drewN|apply IsS127.drew|apply IsS127.set_0|apply IsS127.set_1|apply IsS127.far (hne:=NB0_102.out)|apply IsS127.far (hne:=NB0_110.out))|exact HI0.out|apply IsS127.set_0|apply IsS127.set_1)))⟩;have n3_:Aside0 (KeepBut w w52 g none):=⟨(by rw [hw];exact (by repeat (first|(with_reducible first|exact HK.out|apply KeepBut.set_|apply keep_drewN|apply keep_drew|apply keep_alloc|refine keep_far ?_ GW102.out _|refine keep_far ?_ GW110.out _)|exact HK.out)))⟩;have n4_:Aside0 (Below w0.heap.size w0 w52):=⟨(by rw [hw];exact (by repeat (first|(with_reducible first|exact HB.out|apply below_alloc|apply pw_below_drewN|apply below_drew1|refine below_set ?_ (IsS127.ge HI0.out)|refine below_set ?_ GE102.out|refine below_set ?_ GE110.out)|exact HB.out)))⟩;clear hw;clear BK102;clear BK110;clear HI0;clear HK;clear HB;have BK102:=n0_;have BK110:=n1_;have HI0:=n2_;have HK:=n3_;have HB:=n4_;clear n0_ n1_ n2_ n3_ n4_)|(refine callA_ (f:=53) (some 41) Tryd.func53 #[.pointer (some ⟨g,0,none⟩)] ?_;(with_reducible refine (kind_scan_left.calls g x1000_11 x1001_11 t111 t112 t113 w0 _ ?side1 ?side2 A21.out).mono ?_);(case side1 => repeat (first|(with_reducible first|exact HI0.out|apply IsS127.alloc|apply IsS127.drewN|apply IsS127.drew|apply IsS127.set_0|apply IsS127.set_1|apply IsS127.far (hne:=NB0_102.out)|apply IsS127.far (hne:=NB0_110.out))|exact HI0.out|apply IsS127.set_0|apply IsS127.set_1));(case side2 => repeat (first|(with_reducible first|exact HB.out|apply below_alloc|apply pw_below_drewN|apply below_drew1|refine below_set ?_ (IsS127.ge HI0.out)|refine below_set ?_ GE102.out|refine below_set ?_ GE110.out)|exact HB.out));rintro e w53 ⟨rfl,hi,hb,hk⟩;refine ⟨_,rfl,?_⟩;have n0_:=Aside0.mk (KeepBut.blk hk (g':=gb102) (o:=.cells #[.int .i64 0,.string (⟨#[]⟩:ByteArray),.int .i64 0,.int .i64 0,.int .i64 0] 78 (0,0)) bk_ NB102_0.out (by simp));have n1_:=Aside0.mk (KeepBut.blk hk (g':=gb110) (o:=.cells #[.int .i64 0,.string (⟨#[]⟩:ByteArray),.int .i64 0,.int .i64 0,.int .i64 0] 78 (0,0)) bk_ NB110_0.out (by simp));have n2_:=Aside0.mk (KeepBut.trans (by repeat (first|(with_reducible first|exact HK.out|apply KeepBut.set_|apply keep_drewN|apply keep_drew|apply keep_alloc|refine keep_far ?_ GW102.out _|refine keep_far ?_ GW110.out _)|exact HK.out)) hk (.inl rfl));have n3_:=Aside0.mk (hb);have n4_:=Aside0.mk (hi);clear BK102;clear BK110;clear HK;clear HB;clear HI0;have BK102:=n0_;have BK110:=n1_;have HK:=n2_;have HB:=n3_;have HI0:=n4_;clear n0_ n1_ n2_ n3_ n4_;(try clear hb);(try clear hb2);(try clear hk);(try clear hi);have p23:0≤(0:Int):=(by omega);have q23:0 < t111.size:=(by have:(0:Int) < (t111.size:Int):=od_;omega);have hx23:∀ h:0 < t111.size,((t111[0]'h).toNat:Int)=bt t111 0:=bt_at t111 0;clear p23;have qi23:(0 < (t111.size:Int))=True:=eq_true (od_);replace q23:=eq_true q23;obtain ⟨hcz54_0,hcz54_1,hcz54_2,hcz54_3,hcz54_4,hfz54_0,hfz54_1,hfz54_2,hfz54_3,hfz54_4⟩:=blk5_ BK110.out;obtain ⟨HGz55,hgz55⟩:=HI0.out;have hcz55_0:=cellS127_0 HGz55;have hcz55_1:=cellS127_1 HGz55;have hfz55_0:=blk_frozen HGz55 0;have hfz55_1:=blk_frozen HGz55 1;clear HGz55 hgz55;have hnb56:=NB102_0.out;have hnc56:=NB0_102.out;obtain ⟨hcz57_0,hcz57_1,hcz57_2,hcz57_3,hcz57_4,hfz57_0,hfz57_1,hfz57_2,hfz57_3,hfz57_4⟩:=blk5_ BK102.out))
          refine bodyPost_ret (results_ct rfl _ _ gb102 78 #[.int .i64 5,.string (⟨#[]⟩:ByteArray),.int .i64 x4_1,.int .i64 2,.int .i64 0] (0,0) _ rfl (by (with_reducible repeat (first|refine blk_drewN ?_ _|refine blk_drew ?_|refine blk_alloc ?_ _));refine blk_put (cs:=#[.int .i64 5,.string (⟨#[]⟩:ByteArray),.int .i64 x4_1,.int .i64 2,.int .i64 0]) ?_ 4 _ rfl;(with_reducible repeat (first|refine blk_drewN ?_ _|refine blk_drew ?_|refine blk_alloc ?_ _));refine blk_put (cs:=#[.int .i64 5,.string (⟨#[]⟩:ByteArray),.int .i64 x4_1,.int .i64 0,.int .i64 0]) ?_ 3 _ rfl;(with_reducible repeat (first|refine blk_drewN ?_ _|refine blk_drew ?_|refine blk_alloc ?_ _));refine blk_put (cs:=#[.int .i64 5,.string (⟨#[]⟩:ByteArray),.int .i64 0,.int .i64 0,.int .i64 0]) ?_ 2 _ rfl;(with_reducible repeat (first|refine blk_drewN ?_ _|refine blk_drew ?_|refine blk_alloc ?_ _));refine blk_put (cs:=#[.int .i64 5,.string (⟨#[]⟩:ByteArray),.int .i64 0,.int .i64 0,.int .i64 0]) ?_ 1 _ rfl;(with_reducible repeat (first|refine blk_drewN ?_ _|refine blk_drew ?_|refine blk_alloc ?_ _));refine blk_put (cs:=#[.int .i64 0,.string (⟨#[]⟩:ByteArray),.int .i64 0,.int .i64 0,.int .i64 0]) ?_ 0 _ rfl;(with_reducible repeat (first|refine blk_drewN ?_ _|refine blk_drew ?_|refine blk_alloc ?_ _));refine blk_far ?_ NB102_110.out _;(with_reducible repeat (first|refine blk_drewN ?_ _|refine blk_drew ?_|refine blk_alloc ?_ _));refine blk_far ?_ NB102_110.out _;(with_reducible repeat (first|refine blk_drewN ?_ _|refine blk_drew ?_|refine blk_alloc ?_ _));refine blk_far ?_ NB102_110.out _;(with_reducible repeat (first|refine blk_drewN ?_ _|refine blk_drew ?_|refine blk_alloc ?_ _));refine blk_far ?_ NB102_0.out _;(with_reducible repeat (first|refine blk_drewN ?_ _|refine blk_drew ?_|refine blk_alloc ?_ _));refine blk_far ?_ NB102_110.out _;(with_reducible repeat (first|refine blk_drewN ?_ _|refine blk_drew ?_|refine blk_alloc ?_ _));exact BK102.out) Tryd.underlying78 rfl (by kernel_rfl)) rfl ?_
          exact ⟨ew_,by repeat (first|(with_reducible first|exact HI0.out|apply IsS127.alloc|apply IsS127.drewN|apply IsS127.drew|apply IsS127.set_0|apply IsS127.set_1|apply IsS127.far (hne:=NB0_102.out)|apply IsS127.far (hne:=NB0_110.out))|exact HI0.out|apply IsS127.set_0|apply IsS127.set_1),by repeat (first|(with_reducible first|exact HB.out|apply below_alloc|apply pw_below_drewN|apply below_drew1|refine below_set ?_ (IsS127.ge HI0.out)|refine below_set ?_ GE102.out|refine below_set ?_ GE110.out)|exact HB.out),by repeat (first|(with_reducible first|exact HK.out|apply KeepBut.set_|apply keep_drewN|apply keep_drew|apply keep_alloc|refine keep_far ?_ GW102.out _|refine keep_far ?_ GW110.out _)|exact HK.out)⟩
         ·rw [if_neg c47] at H
          have c47b0:decide (0 < x4_1)=false:=decide_eq_false c47
          clear c47
          simp only [Option.some.injEq,Prod.mk.injEq] at H
          obtain ⟨rfl,rfl,rfl,rfl,rfl,rfl,rfl,rfl⟩:=H
          go_wp2_with (first|((with_reducible refine gate_dst (N:=5) rfl ?_);refine box_event ?hg (N:=5) ?hd (cs:=#[.int .i64 0,.string (⟨#[]⟩:ByteArray),.int .i64 0,.int .i64 0,.int .i64 0]) (t:=78) ?hr ?_;(case hd => rfl);(case hg => rfl);(case hr => first|(go_simp;done)|(go_simp;rfl));intro gb110 hg w58 hbox hb;have n0_:=Aside0.mk (blk_below (g:=gb102) (o:=.cells #[.int .i64 0,.string (⟨#[]⟩:ByteArray),.int .i64 0,.int .i64 0,.int .i64 0] 78 (0,0)) bk_ hb);have n1_:=Aside0.mk (IsS127.below (by repeat (first|(with_reducible first|exact HI0.out|apply IsS127.alloc|apply IsS127.drewN|apply IsS127.drew|apply IsS127.set_0|apply IsS127.set_1|apply IsS127.far (hne:=NB0_102.out))|exact HI0.out|apply IsS127.set_0|apply IsS127.set_1)) hb);have n2_:=Aside0.mk (KeepBut.trans (by repeat (first|(with_reducible first|exact HK.out|apply KeepBut.set_|apply keep_drewN|apply keep_drew|apply keep_alloc|refine keep_far ?_ GW102.out _)|exact HK.out)) (KeepBut.of_below hb g none) (.inl rfl));have n3_:=Aside0.mk (below_step (by repeat (first|(with_reducible first|exact HB.out|apply below_alloc|apply pw_below_drewN|apply below_drew1|refine below_set ?_ (IsS127.ge HI0.out)|refine below_set ?_ GE102.out)|exact HB.out)) hb);have n4_:=Aside0.mk (hbox);have n5_:=Aside0.mk ((by rw [hg];exact (keep_size (w:=w) (g:=g) (row:=none) (by repeat (first|(with_reducible first|exact HK.out|apply KeepBut.set_|apply keep_drewN|apply keep_drew|apply keep_alloc|refine keep_far ?_ GW102.out _)|exact HK.out))):w.heap.size≤gb110));have n6_:=Aside0.mk ((Nat.le_trans HW0.out (by rw [hg];exact (keep_size (w:=w) (g:=g) (row:=none) (by repeat (first|(with_reducible first|exact HK.out|apply KeepBut.set_|apply keep_drewN|apply keep_drew|apply keep_alloc|refine keep_far ?_ GW102.out _)|exact HK.out))):w.heap.size≤gb110):w0.heap.size≤gb110));have n7_:=Aside0.mk ((by rw [hg];exact Nat.ne_of_lt (blk_lt (g:=gb102) (o:=.cells #[.int .i64 0,.string (⟨#[]⟩:ByteArray),.int .i64 0,.int .i64 0,.int .i64 0] 78 (0,0)) bk_):gb102 ≠ gb110));have n8_:=Aside0.mk ((by rw [hg];exact Nat.ne_of_gt (blk_lt (g:=gb102) (o:=.cells #[.int .i64 0,.string (⟨#[]⟩:ByteArray),.int .i64 0,.int .i64 0,.int .i64 0] 78 (0,0)) bk_):gb110 ≠ gb102));have n9_:=Aside0.mk ((by rw [hg];exact Nat.ne_of_lt (IsS127.lt (show IsS127 w0 _ g x1000_11 x1001_11 from by repeat (first|(with_reducible first|exact HI0.out|apply IsS127.alloc|apply IsS127.drewN|apply IsS127.drew|apply IsS127.set_0|apply IsS127.set_1|apply IsS127.far (hne:=NB0_102.out))|exact HI0.out|apply IsS127.set_0|apply IsS127.set_1))):g ≠ gb110));have n10_:=Aside0.mk ((by rw [hg];exact Nat.ne_of_gt (IsS127.lt (show IsS127 w0 _ g x1000_11 x1001_11 from by repeat (first|(with_reducible first|exact HI0.out|apply IsS127.alloc|apply IsS127.drewN|apply IsS127.drew|apply IsS127.set_0|apply IsS127.set_1|apply IsS127.far (hne:=NB0_102.out))|exact HI0.out|apply IsS127.set_0|apply IsS127.set_1))):gb110 ≠ g));clear BK102;clear HI0;clear HK;clear HB;have BK102:=n0_;have HI0:=n1_;have HK:=n2_;have HB:=n3_;have BK110:=n4_;have GW110:=n5_;have GE110:=n6_;have NB102_110:=n7_;have NB110_102:=n8_;have NB0_110:=n9_;have NB110_0:=n10_;clear n0_ n1_ n2_ n3_ n4_ n5_ n6_ n7_ n8_ n9_ n10_;clear hb hbox hg;have hnb59:=NB110_102.out;have hnc59:=NB102_110.out;have hnb60:=NB110_0.out;have hnc60:=NB0_110.out;obtain ⟨hcz61_0,hcz61_1,hcz61_2,hcz61_3,hcz61_4,hfz61_0,hfz61_1,hfz61_2,hfz61_3,hfz61_4⟩:=blk5_ BK110.out)|((with_reducible refine gate_store (t:=78) (p:=5) rfl ?_);refine store_event (t:=78) (p:=5) (v:=?vo_w62) (w1:=(((((w58.setCell ⟨gb110,0,none⟩ (.int .i64 0)).setCell ⟨gb110,1,none⟩ (.string (⟨#[]⟩:ByteArray))).setCell ⟨gb110,2,none⟩ (.int .i64 0)).setCell ⟨gb110,3,none⟩ (.int .i64 0)).setCell ⟨gb110,4,none⟩ (.int .i64 0))) ?hg ?ho ?hn ?hr ?_;(case ho => rfl);(case hg => rfl);(case hn => rfl);(case hr => first|(go_simp;done)|(go_simp;rfl));intro w62 hw;have n0_:Aside0 (w62.heap[gb102]?=some (.cells #[.int .i64 0,.string (⟨#[]⟩:ByteArray),.int .i64 0,.int .i64 0,.int .i64 0] 78 (0,0))):=⟨(by rw [hw];exact bk_)⟩;have n1_:Aside0 (w62.heap[gb110]?=some (.cells #[.int .i64 0,.string (⟨#[]⟩:ByteArray),.int .i64 0,.int .i64 0,.int .i64 0] 78 (0,0))):=⟨(by rw [hw];exact (st5_ BK110.out))⟩;have n2_:Aside0 (IsS127 w0 w62 g x1000_11 x1001_11):=⟨(by rw [hw];exact (by repeat (first|(with_reducible first|exact HI0.out|apply IsS127.alloc|apply IsS127.drewN|apply IsS127.drew|apply IsS127.set_0|apply IsS127.set_1|apply IsS127.far (hne:=NB0_102.out)|apply IsS127.far (hne:=NB0_110.out))|exact HI0.out|apply IsS127.set_0|apply IsS127.set_1)))⟩;have n3_:Aside0 (KeepBut w w62 g none):=⟨(by rw [hw];exact (by repeat (first|(with_reducible first|exact HK.out|apply KeepBut.set_|apply keep_drewN|apply keep_drew|apply keep_alloc|refine keep_far ?_ GW102.out _|refine keep_far ?_ GW110.out _)|exact HK.out)))⟩;have n4_:Aside0 (Below w0.heap.size w0 w62):=⟨(by rw [hw];exact (by repeat (first|(with_reducible first|exact HB.out|apply below_alloc|apply pw_below_drewN|apply below_drew1|refine below_set ?_ (IsS127.ge HI0.out)|refine below_set ?_ GE102.out|refine below_set ?_ GE110.out)|exact HB.out)))⟩;clear hw;clear BK102;clear BK110;clear HI0;clear HK;clear HB;have BK102:=n0_;have BK110:=n1_;have HI0:=n2_;have HK:=n3_;have HB:=n4_;clear n0_ n1_ n2_ n3_ n4_)|(refine callA_ (f:=53) (some 41) Tryd.func53 #[.pointer (some ⟨g,0,none⟩)] ?_;(with_reducible refine (kind_scan_left.calls g x1000_11 x1001_11 t111 t112 t113 w0 _ ?side1 ?side2 A21.out).mono ?_);(case side1 => repeat (first|(with_reducible first|exact HI0.out|apply IsS127.alloc|apply IsS127.drewN|apply IsS127.drew|apply IsS127.set_0|apply IsS127.set_1|apply IsS127.far (hne:=NB0_102.out)|apply IsS127.far (hne:=NB0_110.out))|exact HI0.out|apply IsS127.set_0|apply IsS127.set_1));(case side2 => repeat (first|(with_reducible first|exact HB.out|apply below_alloc|apply pw_below_drewN|apply below_drew1|refine below_set ?_ (IsS127.ge HI0.out)|refine below_set ?_ GE102.out|refine below_set ?_ GE110.out)|exact HB.out));rintro e w63 ⟨rfl,hi,hb,hk⟩;refine ⟨_,rfl,?_⟩;have n0_:=Aside0.mk (KeepBut.blk hk (g':=gb102) (o:=.cells #[.int .i64 0,.string (⟨#[]⟩:ByteArray),.int .i64 0,.int .i64 0,.int .i64 0] 78 (0,0)) bk_ NB102_0.out (by simp));have n1_:=Aside0.mk (KeepBut.blk hk (g':=gb110) (o:=.cells #[.int .i64 0,.string (⟨#[]⟩:ByteArray),.int .i64 0,.int .i64 0,.int .i64 0] 78 (0,0)) bk_ NB110_0.out (by simp));have n2_:=Aside0.mk (KeepBut.trans (by repeat (first|(with_reducible first|exact HK.out|apply KeepBut.set_|apply keep_drewN|apply keep_drew|apply keep_alloc|refine keep_far ?_ GW102.out _|refine keep_far ?_ GW110.out _)|exact HK.out)) hk (.inl rfl));have n3_:=Aside0.mk (hb);have n4_:=Aside0.mk (hi);clear BK102;clear BK110;clear HK;clear HB;clear HI0;have BK102:=n0_;have BK110:=n1_;have HK:=n2_;have HB:=n3_;have HI0:=n4_;clear n0_ n1_ n2_ n3_ n4_;(try clear hb);(try clear hb2);(try clear hk);(try clear hi);have p23:0≤(0:Int):=(by omega);have q23:0 < t111.size:=(by have:(0:Int) < (t111.size:Int):=od_;omega);have hx23:∀ h:0 < t111.size,((t111[0]'h).toNat:Int)=bt t111 0:=bt_at t111 0;clear p23;have qi23:(0 < (t111.size:Int))=True:=eq_true (od_);replace q23:=eq_true q23;obtain ⟨hcz64_0,hcz64_1,hcz64_2,hcz64_3,hcz64_4,hfz64_0,hfz64_1,hfz64_2,hfz64_3,hfz64_4⟩:=blk5_ BK110.out;obtain ⟨HGz65,hgz65⟩:=HI0.out;have hcz65_0:=cellS127_0 HGz65;have hcz65_1:=cellS127_1 HGz65;have hfz65_0:=blk_frozen HGz65 0;have hfz65_1:=blk_frozen HGz65 1;clear HGz65 hgz65;have hnb66:=NB102_0.out;have hnc66:=NB0_102.out;obtain ⟨hcz67_0,hcz67_1,hcz67_2,hcz67_3,hcz67_4,hfz67_0,hfz67_1,hfz67_2,hfz67_3,hfz67_4⟩:=blk5_ BK102.out))
          refine bodyPost_ret (results_ct rfl _ _ gb102 78 #[.int .i64 2,.string (⟨#[]⟩:ByteArray),.int .i64 0,.int .i64 0,.int .i64 0] (0,0) _ rfl (by (with_reducible repeat (first|refine blk_drewN ?_ _|refine blk_drew ?_|refine blk_alloc ?_ _));refine blk_put (cs:=#[.int .i64 2,.string (⟨#[]⟩:ByteArray),.int .i64 0,.int .i64 0,.int .i64 0]) ?_ 4 _ rfl;(with_reducible repeat (first|refine blk_drewN ?_ _|refine blk_drew ?_|refine blk_alloc ?_ _));refine blk_put (cs:=#[.int .i64 2,.string (⟨#[]⟩:ByteArray),.int .i64 0,.int .i64 0,.int .i64 0]) ?_ 3 _ rfl;(with_reducible repeat (first|refine blk_drewN ?_ _|refine blk_drew ?_|refine blk_alloc ?_ _));refine blk_put (cs:=#[.int .i64 2,.string (⟨#[]⟩:ByteArray),.int .i64 0,.int .i64 0,.int .i64 0]) ?_ 2 _ rfl;(with_reducible repeat (first|refine blk_drewN ?_ _|refine blk_drew ?_|refine blk_alloc ?_ _));refine blk_put (cs:=#[.int .i64 2,.string (⟨#[]⟩:ByteArray),.int .i64 0,.int .i64 0,.int .i64 0]) ?_ 1 _ rfl;(with_reducible repeat (first|refine blk_drewN ?_ _|refine blk_drew ?_|refine blk_alloc ?_ _));refine blk_put (cs:=#[.int .i64 0,.string (⟨#[]⟩:ByteArray),.int .i64 0,.int .i64 0,.int .i64 0]) ?_ 0 _ rfl;(with_reducible repeat (first|refine blk_drewN ?_ _|refine blk_drew ?_|refine blk_alloc ?_ _));refine blk_far ?_ NB102_0.out _;(with_reducible repeat (first|refine blk_drewN ?_ _|refine blk_drew ?_|refine blk_alloc ?_ _));refine blk_far ?_ NB102_110.out _;(with_reducible repeat (first|refine blk_drewN ?_ _|refine blk_drew ?_|refine blk_alloc ?_ _));exact BK102.out) Tryd.underlying78 rfl (by kernel_rfl)) rfl ?_
          exact ⟨ew_,by repeat (first|(with_reducible first|exact HI0.out|apply IsS127.alloc|apply IsS127.drewN|apply IsS127.drew|apply IsS127.set_0|apply IsS127.set_1|apply IsS127.far (hne:=NB0_102.out)|apply IsS127.far (hne:=NB0_110.out))|exact HI0.out|apply IsS127.set_0|apply IsS127.set_1),by repeat (first|(with_reducible first|exact HB.out|apply below_alloc|apply pw_below_drewN|apply below_drew1|refine below_set ?_ (IsS127.ge HI0.out)|refine below_set ?_ GE102.out|refine below_set ?_ GE110.out)|exact HB.out),by repeat (first|(with_reducible first|exact HK.out|apply KeepBut.set_|apply keep_drewN|apply keep_drew|apply keep_alloc|refine keep_far ?_ GW102.out _|refine keep_far ?_ GW110.out _)|exact HK.out)⟩
        ·rw [if_neg c46] at H
         have c46b0:((bt t111 0)==74)=false:=beq_eq_false_iff_ne.mpr c46
         have c46b1:((bt t111 0) != 74)=true:=bne_iff_ne.mpr c46
         by_cases c68:(bt t111 0)=76
         ·rw [if_pos c68] at H
          have c68b0:((bt t111 0)==76)=true:=beq_iff_eq.mpr c68
          have c68b1:((bt t111 0) != 76)=false:=bne_eq_false_iff_eq.mpr c68
          clear c68
          replace H:=Option.bind_eq_some_iff.mp H
          obtain ⟨⟨t114,t115,t116⟩,A690,H⟩:=H
          try dsimp only at H
          have A69:=Aside0.mk A690
          clear A690
          by_cases c70:1≤(t114.size:Int)
          ·rw [if_pos c70] at H
           have c70b0:=eq_true c70
           have c70b1:decide (1≤(t114.size:Int))=true:=decide_eq_true c70
           clear c70
           replace H:=Option.bind_eq_some_iff.mp H
           obtain ⟨⟨t117,t118,t119⟩,A710,H⟩:=H
           try dsimp only at H
           have A71:=Aside0.mk A710
           clear A710
           have HC72:=Aside0.mk H
           clear H
           go_upto_region 20 with (first|((with_reducible refine gate_dst (N:=5) rfl ?_);refine box_event ?hg (N:=5) ?hd (cs:=#[.int .i64 0,.string (⟨#[]⟩:ByteArray),.int .i64 0,.int .i64 0,.int .i64 0]) (t:=78) ?hr ?_;(case hd => rfl);(case hg => rfl);(case hr => first|(go_simp;done)|(go_simp;rfl));intro gb110 hg w73 hbox hb;have n0_:=Aside0.mk (blk_below (g:=gb102) (o:=.cells #[.int .i64 0,.string (⟨#[]⟩:ByteArray),.int .i64 0,.int .i64 0,.int .i64 0] 78 (0,0)) bk_ hb);have n1_:=Aside0.mk (IsS127.below (by repeat (first|(with_reducible first|exact HI0.out|apply IsS127.alloc|apply IsS127.drewN|apply IsS127.drew|apply IsS127.set_0|apply IsS127.set_1|apply IsS127.far (hne:=NB0_102.out))|exact HI0.out|apply IsS127.set_0|apply IsS127.set_1)) hb);have n2_:=Aside0.mk (KeepBut.trans (by repeat (first|(with_reducible first|exact HK.out|apply KeepBut.set_|apply keep_drewN|apply keep_drew|apply keep_alloc|refine keep_far ?_ GW102.out _)|exact HK.out)) (KeepBut.of_below hb g none) (.inl rfl));have n3_:=Aside0.mk (below_step (by repeat (first|(with_reducible first|exact HB.out|apply below_alloc|apply pw_below_drewN|apply below_drew1|refine below_set ?_ (IsS127.ge HI0.out)|refine below_set ?_ GE102.out)|exact HB.out)) hb);have n4_:=Aside0.mk (hbox);have n5_:=Aside0.mk ((by rw [hg];exact (keep_size (w:=w) (g:=g) (row:=none) (by repeat (first|(with_reducible first|exact HK.out|apply KeepBut.set_|apply keep_drewN|apply keep_drew|apply keep_alloc|refine keep_far ?_ GW102.out _)|exact HK.out))):w.heap.size≤gb110));have n6_:=Aside0.mk ((Nat.le_trans HW0.out (by rw [hg];exact (keep_size (w:=w) (g:=g) (row:=none) (by repeat (first|(with_reducible first|exact HK.out|apply KeepBut.set_|apply keep_drewN|apply keep_drew|apply keep_alloc|refine keep_far ?_ GW102.out _)|exact HK.out))):w.heap.size≤gb110):w0.heap.size≤gb110));have n7_:=Aside0.mk ((by rw [hg];exact Nat.ne_of_lt (blk_lt (g:=gb102) (o:=.cells #[.int .i64 0,.string (⟨#[]⟩:ByteArray),.int .i64 0,.int .i64 0,.int .i64 0] 78 (0,0)) bk_):gb102 ≠ gb110));have n8_:=Aside0.mk ((by rw [hg];exact Nat.ne_of_gt (blk_lt (g:=gb102) (o:=.cells #[.int .i64 0,.string (⟨#[]⟩:ByteArray),.int .i64 0,.int .i64 0,.int .i64 0] 78 (0,0)) bk_):gb110 ≠ gb102));have n9_:=Aside0.mk ((by rw [hg];exact Nat.ne_of_lt (IsS127.lt (show IsS127 w0 _ g x1000_11 x1001_11 from by repeat (first|(with_reducible first|exact HI0.out|apply IsS127.alloc|apply IsS127.drewN|apply IsS127.drew|apply IsS127.set_0|apply IsS127.set_1|apply IsS127.far (hne:=NB0_102.out))|exact HI0.out|apply IsS127.set_0|apply IsS127.set_1))):g ≠ gb110));have n10_:=Aside0.mk ((by rw [hg];exact Nat.ne_of_gt (IsS127.lt (show IsS127 w0 _ g x1000_11 x1001_11 from by repeat (first|(with_reducible first|exact HI0.out|apply IsS127.alloc|apply IsS127.drewN|apply IsS127.drew|apply IsS127.set_0|apply IsS127.set_1|apply IsS127.far (hne:=NB0_102.out))|exact HI0.out|apply IsS127.set_0|apply IsS127.set_1))):gb110 ≠ g));clear BK102;clear HI0;clear HK;clear HB;have BK102:=n0_;have HI0:=n1_;have HK:=n2_;have HB:=n3_;have BK110:=n4_;have GW110:=n5_;have GE110:=n6_;have NB102_110:=n7_;have NB110_102:=n8_;have NB0_110:=n9_;have NB110_0:=n10_;clear n0_ n1_ n2_ n3_ n4_ n5_ n6_ n7_ n8_ n9_ n10_;clear hb hbox hg;have hnb74:=NB110_102.out;have hnc74:=NB102_110.out;have hnb75:=NB110_0.out;have hnc75:=NB0_110.out;obtain ⟨hcz76_0,hcz76_1,hcz76_2,hcz76_3,hcz76_4,hfz76_0,hfz76_1,hfz76_2,hfz76_3,hfz76_4⟩:=blk5_ BK110.out)|((with_reducible refine gate_store (t:=78) (p:=5) rfl ?_);refine store_event (t:=78) (p:=5) (v:=?vo_w77) (w1:=(((((w73.setCell ⟨gb110,0,none⟩ (.int .i64 0)).setCell ⟨gb110,1,none⟩ (.string (⟨#[]⟩:ByteArray))).setCell ⟨gb110,2,none⟩ (.int .i64 0)).setCell ⟨gb110,3,none⟩ (.int .i64 0)).setCell ⟨gb110,4,none⟩ (.int .i64 0))) ?hg ?ho ?hn ?hr ?_;(case ho => rfl);(case hg => rfl);(case hn => rfl);(case hr => first|(go_simp;done)|(go_simp;rfl));intro w77 hw;have n0_:Aside0 (w77.heap[gb102]?=some (.cells #[.int .i64 0,.string (⟨#[]⟩:ByteArray),.int .i64 0,.int .i64 0,.int .i64 0] 78 (0,0))):=⟨(by rw [hw];exact bk_)⟩;have n1_:Aside0 (w77.heap[gb110]?=some (.cells #[.int .i64 0,.string (⟨#[]⟩:ByteArray),.int .i64 0,.int .i64 0,.int .i64 0] 78 (0,0))):=⟨(by rw [hw];exact (st5_ BK110.out))⟩;have n2_:Aside0 (IsS127 w0 w77 g x1000_11 x1001_11):=⟨(by rw [hw];exact (by repeat (first|(with_reducible first|exact HI0.out|apply IsS127.alloc|apply IsS127.drewN|apply IsS127.drew|apply IsS127.set_0|apply IsS127.set_1|apply IsS127.far (hne:=NB0_102.out)|apply IsS127.far (hne:=NB0_110.out))|exact HI0.out|apply IsS127.set_0|apply IsS127.set_1)))⟩;have n3_:Aside0 (KeepBut w w77 g none):=⟨(by rw [hw];exact (by repeat (first|(with_reducible first|exact HK.out|apply KeepBut.set_|apply keep_drewN|apply keep_drew|apply keep_alloc|refine keep_far ?_ GW102.out _|refine keep_far ?_ GW110.out _)|exact HK.out)))⟩;have n4_:Aside0 (Below w0.heap.size w0 w77):=⟨(by rw [hw];exact (by repeat (first|(with_reducible first|exact HB.out|apply below_alloc|apply pw_below_drewN|apply below_drew1|refine below_set ?_ (IsS127.ge HI0.out)|refine below_set ?_ GE102.out|refine below_set ?_ GE110.out)|exact HB.out)))⟩;clear hw;clear BK102;clear BK110;clear HI0;clear HK;clear HB;have BK102:=n0_;have BK110:=n1_;have HI0:=n2_;have HK:=n3_;have HB:=n4_;clear n0_ n1_ n2_ n3_ n4_)|(refine callA_ (f:=53) (some 41) Tryd.func53 #[.pointer (some ⟨g,0,none⟩)] ?_;(with_reducible refine (kind_scan_left.calls g x1000_11 x1001_11 t111 t112 t113 w0 _ ?side1 ?side2 A21.out).mono ?_);(case side1 => repeat (first|(with_reducible first|exact HI0.out|apply IsS127.alloc|apply IsS127.drewN|apply IsS127.drew|apply IsS127.set_0|apply IsS127.set_1|apply IsS127.far (hne:=NB0_102.out)|apply IsS127.far (hne:=NB0_110.out))|exact HI0.out|apply IsS127.set_0|apply IsS127.set_1));(case side2 => repeat (first|(with_reducible first|exact HB.out|apply below_alloc|apply pw_below_drewN|apply below_drew1|refine below_set ?_ (IsS127.ge HI0.out)|refine below_set ?_ GE102.out|refine below_set ?_ GE110.out)|exact HB.out));rintro e w78 ⟨rfl,hi,hb,hk⟩;refine ⟨_,rfl,?_⟩;have n0_:=Aside0.mk (KeepBut.blk hk (g':=gb102) (o:=.cells #[.int .i64 0,.string (⟨#[]⟩:ByteArray),.int .i64 0,.int .i64 0,.int .i64 0] 78 (0,0)) bk_ NB102_0.out (by simp));have n1_:=Aside0.mk (KeepBut.blk hk (g':=gb110) (o:=.cells #[.int .i64 0,.string (⟨#[]⟩:ByteArray),.int .i64 0,.int .i64 0,.int .i64 0] 78 (0,0)) bk_ NB110_0.out (by simp));have n2_:=Aside0.mk (KeepBut.trans (by repeat (first|(with_reducible first|exact HK.out|apply KeepBut.set_|apply keep_drewN|apply keep_drew|apply keep_alloc|refine keep_far ?_ GW102.out _|refine keep_far ?_ GW110.out _)|exact HK.out)) hk (.inl rfl));have n3_:=Aside0.mk (hb);have n4_:=Aside0.mk (hi);clear BK102;clear BK110;clear HK;clear HB;clear HI0;have BK102:=n0_;have BK110:=n1_;have HK:=n2_;have HB:=n3_;have HI0:=n4_;clear n0_ n1_ n2_ n3_ n4_;(try clear hb);(try clear hb2);(try clear hk);(try clear hi);have p23:0≤(0:Int):=(by omega);have q23:0 < t111.size:=(by have:(0:Int) < (t111.size:Int):=od_;omega);have hx23:∀ h:0 < t111.size,((t111[0]'h).toNat:Int)=bt t111 0:=bt_at t111 0;clear p23;have qi23:(0 < (t111.size:Int))=True:=eq_true (od_);replace q23:=eq_true q23)|(refine callA_ (f:=53) (some 55) Tryd.func53 #[.pointer (some ⟨g,0,none⟩)] ?_;(with_reducible refine (kind_scan_left.calls g t112 t113 t114 t115 t116 w0 _ ?side1 ?side2 A69.out).mono ?_);(case side1 => repeat (first|(with_reducible first|exact HI0.out|apply IsS127.alloc|apply IsS127.drewN|apply IsS127.drew|apply IsS127.set_0|apply IsS127.set_1|apply IsS127.far (hne:=NB0_102.out)|apply IsS127.far (hne:=NB0_110.out))|exact HI0.out|apply IsS127.set_0|apply IsS127.set_1));(case side2 => repeat (first|(with_reducible first|exact HB.out|apply below_alloc|apply pw_below_drewN|apply below_drew1|refine below_set ?_ (IsS127.ge HI0.out)|refine below_set ?_ GE102.out|refine below_set ?_ GE110.out)|exact HB.out));rintro e w79 ⟨rfl,hi,hb,hk⟩;refine ⟨_,rfl,?_⟩;have n0_:=Aside0.mk (KeepBut.blk hk (g':=gb102) (o:=.cells #[.int .i64 0,.string (⟨#[]⟩:ByteArray),.int .i64 0,.int .i64 0,.int .i64 0] 78 (0,0)) bk_ NB102_0.out (by simp));have n1_:=Aside0.mk (KeepBut.blk hk (g':=gb110) (o:=.cells #[.int .i64 0,.string (⟨#[]⟩:ByteArray),.int .i64 0,.int .i64 0,.int .i64 0] 78 (0,0)) bk_ NB110_0.out (by simp));have n2_:=Aside0.mk (KeepBut.trans (by repeat (first|(with_reducible first|exact HK.out|apply KeepBut.set_|apply keep_drewN|apply keep_drew|apply keep_alloc|refine keep_far ?_ GW102.out _|refine keep_far ?_ GW110.out _)|exact HK.out)) hk (.inl rfl));have n3_:=Aside0.mk (hb);have n4_:=Aside0.mk (hi);clear BK102;clear BK110;clear HK;clear HB;clear HI0;have BK102:=n0_;have BK110:=n1_;have HK:=n2_;have HB:=n3_;have HI0:=n4_;clear n0_ n1_ n2_ n3_ n4_;(try clear hb);(try clear hb2);(try clear hk);(try clear hi))|(refine callA_ (f:=62) (some 57) Tryd.func62 #[.string (t114.extract 1 t114.size),.string (⟨#[59]⟩:ByteArray)] ?_;(with_reducible refine (strings_Cut.calls (t114.extract 1 t114.size) (⟨#[59]⟩:ByteArray) t117 t118 t119 _ ?side1 A71.out).mono ?_);(case side1 => exact ⟨GG.below hG.out (by repeat (first|(with_reducible first|exact HB.out|apply below_alloc|apply pw_below_drewN|apply below_drew1|refine below_set ?_ (IsS127.ge HI0.out)|refine below_set ?_ GE102.out|refine below_set ?_ GE110.out)|exact HB.out))⟩);rintro e w' ⟨rfl,⟨nd,rfl⟩⟩;refine ⟨_,rfl,?_⟩))
           (try simp only [Act.put,List.setIfInBounds_toArray,List.set_cons_zero,List.set_cons_succ])
           go_cut [67] (fun v67 wc => ∃ (kq:Nat) (x67_71:Bool),v67=.bool x67_71∧Aside0 (kind_scan_field.j3 kq x4_1 t117 x67_71 t115 t116 0 (⟨#[]⟩:ByteArray) 0 0 0=some (r1,r2,r3,r4,r5,r6,r7,r8))∧Aside0 (kq≤kj11)∧Aside0 (wc.heap[gb102]?=some (.cells #[.int .i64 0,.string (⟨#[]⟩:ByteArray),.int .i64 0,.int .i64 0,.int .i64 0] 78 (0,0)))∧Aside0 (wc.heap[gb110]?=some (.cells #[.int .i64 0,.string (⟨#[]⟩:ByteArray),.int .i64 0,.int .i64 0,.int .i64 0] 78 (0,0)))∧Aside0 (IsS127 w0 wc g t115 t116)∧Aside0 (KeepBut w wc g none)∧Aside0 (Below w0.heap.size w0 wc))
           case first =>
            have H:=HC72.out
            clear HC72
            by_cases c80:t119=true
            ·subst c80
             rw [if_pos rfl] at H
             replace H:=Option.bind_eq_some_iff.mp H
             obtain ⟨t120,A810,H⟩:=H
             try dsimp only at H
             have A81:=Aside0.mk A810
             clear A810
             have H':=Aside0.mk H
             clear H
             go_wp2_with (first|(go_at_call 63;(with_reducible refine (kind_plain.calls kj11 t117 t120 _ A81.out).mono ?_);rintro e w' ⟨rfl,⟨nd,rfl⟩⟩))
             go_meet
             case rel => exact ⟨_,(!t120),r3_,H',⟨by have:=HJ1.out;have:=HJ11.out;first|omega|exact Nat.le_refl _⟩,⟨bk_⟩,⟨bk_⟩,⟨by repeat (first|(with_reducible first|exact HI0.out|apply IsS127.alloc|apply IsS127.drewN|apply IsS127.drew|apply IsS127.set_0|apply IsS127.set_1|apply IsS127.far (hne:=NB0_102.out)|apply IsS127.far (hne:=NB0_110.out))|exact HI0.out|apply IsS127.set_0|apply IsS127.set_1)⟩,⟨by repeat (first|(with_reducible first|exact HK.out|apply KeepBut.set_|apply keep_drewN|apply keep_drew|apply keep_alloc|refine keep_far ?_ GW102.out _|refine keep_far ?_ GW110.out _)|exact HK.out)⟩,⟨by repeat (first|(with_reducible first|exact HB.out|apply below_alloc|apply pw_below_drewN|apply below_drew1|refine below_set ?_ (IsS127.ge HI0.out)|refine below_set ?_ GE102.out|refine below_set ?_ GE110.out)|exact HB.out)⟩⟩
            ·replace c80:=Bool.eq_false_iff.mpr c80
             subst c80
             rw [if_neg (show ¬ (false=true) by decide)] at H
             have H':=Aside0.mk H
             clear H
             go_wp2
             go_meet
             case rel => exact ⟨_,(true),r3_,H',⟨by have:=HJ1.out;have:=HJ11.out;first|omega|exact Nat.le_refl _⟩,⟨bk_⟩,⟨bk_⟩,⟨by repeat (first|(with_reducible first|exact HI0.out|apply IsS127.alloc|apply IsS127.drewN|apply IsS127.drew|apply IsS127.set_0|apply IsS127.set_1|apply IsS127.far (hne:=NB0_102.out)|apply IsS127.far (hne:=NB0_110.out))|exact HI0.out|apply IsS127.set_0|apply IsS127.set_1)⟩,⟨by repeat (first|(with_reducible first|exact HK.out|apply KeepBut.set_|apply keep_drewN|apply keep_drew|apply keep_alloc|refine keep_far ?_ GW102.out _|refine keep_far ?_ GW110.out _)|exact HK.out)⟩,⟨by repeat (first|(with_reducible first|exact HB.out|apply below_alloc|apply pw_below_drewN|apply below_drew1|refine below_set ?_ (IsS127.ge HI0.out)|refine below_set ?_ GE102.out|refine below_set ?_ GE110.out)|exact HB.out)⟩⟩
           case rest =>
            clear HC72
            try clear c17;try clear c22;try clear c22b0;try clear c22b1;try clear p23;try clear q23;try clear hx23;try clear qi23;try clear c24;try clear c24b0;try clear c24b1;try clear c46;try clear c46b0;try clear c46b1;try clear c68;try clear c68b0;try clear c68b1;try clear c70;try clear c70b0;try clear c70b1;try clear hcz76_0;try clear hcz76_1;try clear hcz76_2;try clear hcz76_3;try clear hcz76_4;try clear hfz76_0;try clear hfz76_1;try clear hfz76_2;try clear hfz76_3;try clear hfz76_4
            obtain ⟨kq,x67_71,rfl,HA,HJ71,BK102,BK110,HI0,HK,HB⟩:=hcut
            cases kq with
            | zero => exact absurd HA.out (by simp [kind_scan_field.j3])
            | succ kj71 =>
             have H:=HA.out
             clear HA
             simp only [kind_scan_field.j3] at H
             by_cases c82:x67_71=true
             ·subst c82
              rw [if_pos rfl] at H
              simp only [Option.some.injEq,Prod.mk.injEq] at H
              obtain ⟨rfl,rfl,rfl,rfl,rfl,rfl,rfl,rfl⟩:=H
              have hnb83:=NB102_110.out
              have hnc83:=NB110_102.out
              have hnb84:=NB102_0.out
              have hnc84:=NB0_102.out
              obtain ⟨hcz85_0,hcz85_1,hcz85_2,hcz85_3,hcz85_4,hfz85_0,hfz85_1,hfz85_2,hfz85_3,hfz85_4⟩:=blk5_ BK102.out
              go_wp2_with (first|((with_reducible refine gate_store (t:=78) (p:=2) rfl ?_);refine store_event (t:=78) (p:=2) (v:=?vo_w86) (w1:=(((((wc.setCell ⟨gb102,0,none⟩ (.int .i64 0)).setCell ⟨gb102,1,none⟩ (.string (⟨#[]⟩:ByteArray))).setCell ⟨gb102,2,none⟩ (.int .i64 0)).setCell ⟨gb102,3,none⟩ (.int .i64 0)).setCell ⟨gb102,4,none⟩ (.int .i64 0))) ?hg ?ho ?hn ?hr ?_;(case ho => rfl);(case hg => rfl);(case hn => rfl);(case hr => first|(go_simp;done)|(go_simp;rfl));intro w86 hw;have n0_:Aside0 (w86.heap[gb102]?=some (.cells #[.int .i64 0,.string (⟨#[]⟩:ByteArray),.int .i64 0,.int .i64 0,.int .i64 0] 78 (0,0))):=⟨(by rw [hw];exact (st5_ BK102.out))⟩;have n1_:Aside0 (w86.heap[gb110]?=some (.cells #[.int .i64 0,.string (⟨#[]⟩:ByteArray),.int .i64 0,.int .i64 0,.int .i64 0] 78 (0,0))):=⟨(by rw [hw];exact bk_)⟩;have n2_:Aside0 (IsS127 w0 w86 g t115 t116):=⟨(by rw [hw];exact (by repeat (first|(with_reducible first|exact HI0.out|apply IsS127.alloc|apply IsS127.drewN|apply IsS127.drew|apply IsS127.set_0|apply IsS127.set_1|apply IsS127.far (hne:=NB0_102.out)|apply IsS127.far (hne:=NB0_110.out))|exact HI0.out|apply IsS127.set_0|apply IsS127.set_1)))⟩;have n3_:Aside0 (KeepBut w w86 g none):=⟨(by rw [hw];exact (by repeat (first|(with_reducible first|exact HK.out|apply KeepBut.set_|apply keep_drewN|apply keep_drew|apply keep_alloc|refine keep_far ?_ GW102.out _|refine keep_far ?_ GW110.out _)|exact HK.out)))⟩;have n4_:Aside0 (Below w0.heap.size w0 w86):=⟨(by rw [hw];exact (by repeat (first|(with_reducible first|exact HB.out|apply below_alloc|apply pw_below_drewN|apply below_drew1|refine below_set ?_ (IsS127.ge HI0.out)|refine below_set ?_ GE102.out|refine below_set ?_ GE110.out)|exact HB.out)))⟩;clear hw;clear BK102;clear BK110;clear HI0;clear HK;clear HB;have BK102:=n0_;have BK110:=n1_;have HI0:=n2_;have HK:=n3_;have HB:=n4_;clear n0_ n1_ n2_ n3_ n4_))
              refine bodyPost_ret (results_ct rfl _ _ gb102 78 #[.int .i64 0,.string (⟨#[]⟩:ByteArray),.int .i64 0,.int .i64 0,.int .i64 0] (0,0) _ rfl bk_ Tryd.underlying78 rfl (by kernel_rfl)) rfl ?_
              exact ⟨ew_,by repeat (first|(with_reducible first|exact HI0.out|apply IsS127.alloc|apply IsS127.drewN|apply IsS127.drew|apply IsS127.set_0|apply IsS127.set_1|apply IsS127.far (hne:=NB0_102.out)|apply IsS127.far (hne:=NB0_110.out))|exact HI0.out|apply IsS127.set_0|apply IsS127.set_1),by repeat (first|(with_reducible first|exact HB.out|apply below_alloc|apply pw_below_drewN|apply below_drew1|refine below_set ?_ (IsS127.ge HI0.out)|refine below_set ?_ GE102.out|refine below_set ?_ GE110.out)|exact HB.out),by repeat (first|(with_reducible first|exact HK.out|apply KeepBut.set_|apply keep_drewN|apply keep_drew|apply keep_alloc|refine keep_far ?_ GW102.out _|refine keep_far ?_ GW110.out _)|exact HK.out)⟩
             ·replace c82:=Bool.eq_false_iff.mpr c82
              subst c82
              rw [if_neg (show ¬ (false=true) by decide)] at H
              by_cases c87:x4_1 > 0
              ·rw [if_pos c87] at H
               have c87b0:decide (0 < x4_1)=true:=decide_eq_true c87
               clear c87
               simp only [Option.some.injEq,Prod.mk.injEq] at H
               obtain ⟨rfl,rfl,rfl,rfl,rfl,rfl,rfl,rfl⟩:=H
               have hnb88:=NB110_102.out
               have hnc88:=NB102_110.out
               have hnb89:=NB110_0.out
               have hnc89:=NB0_110.out
               obtain ⟨hcz90_0,hcz90_1,hcz90_2,hcz90_3,hcz90_4,hfz90_0,hfz90_1,hfz90_2,hfz90_3,hfz90_4⟩:=blk5_ BK110.out
               obtain ⟨HGz91,hgz91⟩:=HI0.out
               have hcz91_0:=cellS127_0 HGz91
               have hcz91_1:=cellS127_1 HGz91
               have hfz91_0:=blk_frozen HGz91 0
               have hfz91_1:=blk_frozen HGz91 1
               clear HGz91 hgz91
               have hnb92:=NB102_0.out
               have hnc92:=NB0_102.out
               obtain ⟨hcz93_0,hcz93_1,hcz93_2,hcz93_3,hcz93_4,hfz93_0,hfz93_1,hfz93_2,hfz93_3,hfz93_4⟩:=blk5_ BK102.out
               go_wp2
               refine bodyPost_ret (results_ct rfl _ _ gb102 78 #[.int .i64 5,.string t117,.int .i64 x4_1,.int .i64 4,.int .i64 0] (0,0) _ rfl (by (with_reducible repeat (first|refine blk_drewN ?_ _|refine blk_drew ?_|refine blk_alloc ?_ _));refine blk_put (cs:=#[.int .i64 5,.string t117,.int .i64 x4_1,.int .i64 4,.int .i64 0]) ?_ 4 _ rfl;(with_reducible repeat (first|refine blk_drewN ?_ _|refine blk_drew ?_|refine blk_alloc ?_ _));refine blk_put (cs:=#[.int .i64 5,.string t117,.int .i64 x4_1,.int .i64 0,.int .i64 0]) ?_ 3 _ rfl;(with_reducible repeat (first|refine blk_drewN ?_ _|refine blk_drew ?_|refine blk_alloc ?_ _));refine blk_put (cs:=#[.int .i64 5,.string t117,.int .i64 0,.int .i64 0,.int .i64 0]) ?_ 2 _ rfl;(with_reducible repeat (first|refine blk_drewN ?_ _|refine blk_drew ?_|refine blk_alloc ?_ _));refine blk_put (cs:=#[.int .i64 5,.string (⟨#[]⟩:ByteArray),.int .i64 0,.int .i64 0,.int .i64 0]) ?_ 1 _ rfl;(with_reducible repeat (first|refine blk_drewN ?_ _|refine blk_drew ?_|refine blk_alloc ?_ _));refine blk_put (cs:=#[.int .i64 0,.string (⟨#[]⟩:ByteArray),.int .i64 0,.int .i64 0,.int .i64 0]) ?_ 0 _ rfl;(with_reducible repeat (first|refine blk_drewN ?_ _|refine blk_drew ?_|refine blk_alloc ?_ _));refine blk_far ?_ NB102_110.out _;(with_reducible repeat (first|refine blk_drewN ?_ _|refine blk_drew ?_|refine blk_alloc ?_ _));refine blk_far ?_ NB102_110.out _;(with_reducible repeat (first|refine blk_drewN ?_ _|refine blk_drew ?_|refine blk_alloc ?_ _));refine blk_far ?_ NB102_110.out _;(with_reducible repeat (first|refine blk_drewN ?_ _|refine blk_drew ?_|refine blk_alloc ?_ _));refine blk_far ?_ NB102_0.out _;(with_reducible repeat (first|refine blk_drewN ?_ _|refine blk_drew ?_|refine blk_alloc ?_ _));refine blk_far ?_ NB102_0.out _;(with_reducible repeat (first|refine blk_drewN ?_ _|refine blk_drew ?_|refine blk_alloc ?_ _));refine blk_far ?_ NB102_110.out _;(with_reducible repeat (first|refine blk_drewN ?_ _|refine blk_drew ?_|refine blk_alloc ?_ _));refine blk_far ?_ NB102_110.out _;(with_reducible repeat (first|refine blk_drewN ?_ _|refine blk_drew ?_|refine blk_alloc ?_ _));exact BK102.out) Tryd.underlying78 rfl (by kernel_rfl)) rfl ?_
               exact ⟨ew_,by repeat (first|(with_reducible first|exact HI0.out|apply IsS127.alloc|apply IsS127.drewN|apply IsS127.drew|apply IsS127.set_0|apply IsS127.set_1|apply IsS127.far (hne:=NB0_102.out)|apply IsS127.far (hne:=NB0_110.out))|exact HI0.out|apply IsS127.set_0|apply IsS127.set_1),by repeat (first|(with_reducible first|exact HB.out|apply below_alloc|apply pw_below_drewN|apply below_drew1|refine below_set ?_ (IsS127.ge HI0.out)|refine below_set ?_ GE102.out|refine below_set ?_ GE110.out)|exact HB.out),by repeat (first|(with_reducible first|exact HK.out|apply KeepBut.set_|apply keep_drewN|apply keep_drew|apply keep_alloc|refine keep_far ?_ GW102.out _|refine keep_far ?_ GW110.out _)|exact HK.out)⟩
              ·rw [if_neg c87] at H
               have c87b0:decide (0 < x4_1)=false:=decide_eq_false c87
               clear c87
               simp only [Option.some.injEq,Prod.mk.injEq] at H
               obtain ⟨rfl,rfl,rfl,rfl,rfl,rfl,rfl,rfl⟩:=H
               have hnb94:=NB110_102.out
               have hnc94:=NB102_110.out
               have hnb95:=NB110_0.out
               have hnc95:=NB0_110.out
               obtain ⟨hcz96_0,hcz96_1,hcz96_2,hcz96_3,hcz96_4,hfz96_0,hfz96_1,hfz96_2,hfz96_3,hfz96_4⟩:=blk5_ BK110.out
               obtain ⟨HGz97,hgz97⟩:=HI0.out
               have hcz97_0:=cellS127_0 HGz97
               have hcz97_1:=cellS127_1 HGz97
               have hfz97_0:=blk_frozen HGz97 0
               have hfz97_1:=blk_frozen HGz97 1
               clear HGz97 hgz97
               have hnb98:=NB102_0.out
               have hnc98:=NB0_102.out
               obtain ⟨hcz99_0,hcz99_1,hcz99_2,hcz99_3,hcz99_4,hfz99_0,hfz99_1,hfz99_2,hfz99_3,hfz99_4⟩:=blk5_ BK102.out
               go_wp2
               refine bodyPost_ret (results_ct rfl _ _ gb102 78 #[.int .i64 4,.string t117,.int .i64 0,.int .i64 0,.int .i64 0] (0,0) _ rfl (by (with_reducible repeat (first|refine blk_drewN ?_ _|refine blk_drew ?_|refine blk_alloc ?_ _));refine blk_put (cs:=#[.int .i64 4,.string t117,.int .i64 0,.int .i64 0,.int .i64 0]) ?_ 4 _ rfl;(with_reducible repeat (first|refine blk_drewN ?_ _|refine blk_drew ?_|refine blk_alloc ?_ _));refine blk_put (cs:=#[.int .i64 4,.string t117,.int .i64 0,.int .i64 0,.int .i64 0]) ?_ 3 _ rfl;(with_reducible repeat (first|refine blk_drewN ?_ _|refine blk_drew ?_|refine blk_alloc ?_ _));refine blk_put (cs:=#[.int .i64 4,.string t117,.int .i64 0,.int .i64 0,.int .i64 0]) ?_ 2 _ rfl;(with_reducible repeat (first|refine blk_drewN ?_ _|refine blk_drew ?_|refine blk_alloc ?_ _));refine blk_put (cs:=#[.int .i64 4,.string (⟨#[]⟩:ByteArray),.int .i64 0,.int .i64 0,.int .i64 0]) ?_ 1 _ rfl;(with_reducible repeat (first|refine blk_drewN ?_ _|refine blk_drew ?_|refine blk_alloc ?_ _));refine blk_put (cs:=#[.int .i64 0,.string (⟨#[]⟩:ByteArray),.int .i64 0,.int .i64 0,.int .i64 0]) ?_ 0 _ rfl;(with_reducible repeat (first|refine blk_drewN ?_ _|refine blk_drew ?_|refine blk_alloc ?_ _));refine blk_far ?_ NB102_0.out _;(with_reducible repeat (first|refine blk_drewN ?_ _|refine blk_drew ?_|refine blk_alloc ?_ _));refine blk_far ?_ NB102_0.out _;(with_reducible repeat (first|refine blk_drewN ?_ _|refine blk_drew ?_|refine blk_alloc ?_ _));refine blk_far ?_ NB102_110.out _;(with_reducible repeat (first|refine blk_drewN ?_ _|refine blk_drew ?_|refine blk_alloc ?_ _));refine blk_far ?_ NB102_110.out _;(with_reducible repeat (first|refine blk_drewN ?_ _|refine blk_drew ?_|refine blk_alloc ?_ _));exact BK102.out) Tryd.underlying78 rfl (by kernel_rfl)) rfl ?_
               exact ⟨ew_,by repeat (first|(with_reducible first|exact HI0.out|apply IsS127.alloc|apply IsS127.drewN|apply IsS127.drew|apply IsS127.set_0|apply IsS127.set_1|apply IsS127.far (hne:=NB0_102.out)|apply IsS127.far (hne:=NB0_110.out))|exact HI0.out|apply IsS127.set_0|apply IsS127.set_1),by repeat (first|(with_reducible first|exact HB.out|apply below_alloc|apply pw_below_drewN|apply below_drew1|refine below_set ?_ (IsS127.ge HI0.out)|refine below_set ?_ GE102.out|refine below_set ?_ GE110.out)|exact HB.out),by repeat (first|(with_reducible first|exact HK.out|apply KeepBut.set_|apply keep_drewN|apply keep_drew|apply keep_alloc|refine keep_far ?_ GW102.out _|refine keep_far ?_ GW110.out _)|exact HK.out)⟩
          ·rw [if_neg c70] at H
           exact absurd H (by simp)
         ·rw [if_neg c68] at H
          have c68b0:((bt t111 0)==76)=false:=beq_eq_false_iff_ne.mpr c68
          have c68b1:((bt t111 0) != 76)=true:=bne_iff_ne.mpr c68
          simp only [Option.some.injEq,Prod.mk.injEq] at H
          obtain ⟨rfl,rfl,rfl,rfl,rfl,rfl,rfl,rfl⟩:=H
          go_wp2_with (first|((with_reducible refine gate_dst (N:=5) rfl ?_);refine box_event ?hg (N:=5) ?hd (cs:=#[.int .i64 0,.string (⟨#[]⟩:ByteArray),.int .i64 0,.int .i64 0,.int .i64 0]) (t:=78) ?hr ?_;(case hd => rfl);(case hg => rfl);(case hr => first|(go_simp;done)|(go_simp;rfl));intro gb110 hg w100 hbox hb;have n0_:=Aside0.mk (blk_below (g:=gb102) (o:=.cells #[.int .i64 0,.string (⟨#[]⟩:ByteArray),.int .i64 0,.int .i64 0,.int .i64 0] 78 (0,0)) bk_ hb);have n1_:=Aside0.mk (IsS127.below (by repeat (first|(with_reducible first|exact HI0.out|apply IsS127.alloc|apply IsS127.drewN|apply IsS127.drew|apply IsS127.set_0|apply IsS127.set_1|apply IsS127.far (hne:=NB0_102.out))|exact HI0.out|apply IsS127.set_0|apply IsS127.set_1)) hb);have n2_:=Aside0.mk (KeepBut.trans (by repeat (first|(with_reducible first|exact HK.out|apply KeepBut.set_|apply keep_drewN|apply keep_drew|apply keep_alloc|refine keep_far ?_ GW102.out _)|exact HK.out)) (KeepBut.of_below hb g none) (.inl rfl));have n3_:=Aside0.mk (below_step (by repeat (first|(with_reducible first|exact HB.out|apply below_alloc|apply pw_below_drewN|apply below_drew1|refine below_set ?_ (IsS127.ge HI0.out)|refine below_set ?_ GE102.out)|exact HB.out)) hb);have n4_:=Aside0.mk (hbox);have n5_:=Aside0.mk ((by rw [hg];exact (keep_size (w:=w) (g:=g) (row:=none) (by repeat (first|(with_reducible first|exact HK.out|apply KeepBut.set_|apply keep_drewN|apply keep_drew|apply keep_alloc|refine keep_far ?_ GW102.out _)|exact HK.out))):w.heap.size≤gb110));have n6_:=Aside0.mk ((Nat.le_trans HW0.out (by rw [hg];exact (keep_size (w:=w) (g:=g) (row:=none) (by repeat (first|(with_reducible first|exact HK.out|apply KeepBut.set_|apply keep_drewN|apply keep_drew|apply keep_alloc|refine keep_far ?_ GW102.out _)|exact HK.out))):w.heap.size≤gb110):w0.heap.size≤gb110));have n7_:=Aside0.mk ((by rw [hg];exact Nat.ne_of_lt (blk_lt (g:=gb102) (o:=.cells #[.int .i64 0,.string (⟨#[]⟩:ByteArray),.int .i64 0,.int .i64 0,.int .i64 0] 78 (0,0)) bk_):gb102 ≠ gb110));have n8_:=Aside0.mk ((by rw [hg];exact Nat.ne_of_gt (blk_lt (g:=gb102) (o:=.cells #[.int .i64 0,.string (⟨#[]⟩:ByteArray),.int .i64 0,.int .i64 0,.int .i64 0] 78 (0,0)) bk_):gb110 ≠ gb102));have n9_:=Aside0.mk ((by rw [hg];exact Nat.ne_of_lt (IsS127.lt (show IsS127 w0 _ g x1000_11 x1001_11 from by repeat (first|(with_reducible first|exact HI0.out|apply IsS127.alloc|apply IsS127.drewN|apply IsS127.drew|apply IsS127.set_0|apply IsS127.set_1|apply IsS127.far (hne:=NB0_102.out))|exact HI0.out|apply IsS127.set_0|apply IsS127.set_1))):g ≠ gb110));have n10_:=Aside0.mk ((by rw [hg];exact Nat.ne_of_gt (IsS127.lt (show IsS127 w0 _ g x1000_11 x1001_11 from by repeat (first|(with_reducible first|exact HI0.out|apply IsS127.alloc|apply IsS127.drewN|apply IsS127.drew|apply IsS127.set_0|apply IsS127.set_1|apply IsS127.far (hne:=NB0_102.out))|exact HI0.out|apply IsS127.set_0|apply IsS127.set_1))):gb110 ≠ g));clear BK102;clear HI0;clear HK;clear HB;have BK102:=n0_;have HI0:=n1_;have HK:=n2_;have HB:=n3_;have BK110:=n4_;have GW110:=n5_;have GE110:=n6_;have NB102_110:=n7_;have NB110_102:=n8_;have NB0_110:=n9_;have NB110_0:=n10_;clear n0_ n1_ n2_ n3_ n4_ n5_ n6_ n7_ n8_ n9_ n10_;clear hb hbox hg;have hnb101:=NB110_102.out;have hnc101:=NB102_110.out;have hnb102:=NB110_0.out;have hnc102:=NB0_110.out;obtain ⟨hcz103_0,hcz103_1,hcz103_2,hcz103_3,hcz103_4,hfz103_0,hfz103_1,hfz103_2,hfz103_3,hfz103_4⟩:=blk5_ BK110.out)|((with_reducible refine gate_store (t:=78) (p:=5) rfl ?_);refine store_event (t:=78) (p:=5) (v:=?vo_w104) (w1:=(((((w100.setCell ⟨gb110,0,none⟩ (.int .i64 0)).setCell ⟨gb110,1,none⟩ (.string (⟨#[]⟩:ByteArray))).setCell ⟨gb110,2,none⟩ (.int .i64 0)).setCell ⟨gb110,3,none⟩ (.int .i64 0)).setCell ⟨gb110,4,none⟩ (.int .i64 0))) ?hg ?ho ?hn ?hr ?_;(case ho => rfl);(case hg => rfl);(case hn => rfl);(case hr => first|(go_simp;done)|(go_simp;rfl));intro w104 hw;have n0_:Aside0 (w104.heap[gb102]?=some (.cells #[.int .i64 0,.string (⟨#[]⟩:ByteArray),.int .i64 0,.int .i64 0,.int .i64 0] 78 (0,0))):=⟨(by rw [hw];exact bk_)⟩;have n1_:Aside0 (w104.heap[gb110]?=some (.cells #[.int .i64 0,.string (⟨#[]⟩:ByteArray),.int .i64 0,.int .i64 0,.int .i64 0] 78 (0,0))):=⟨(by rw [hw];exact (st5_ BK110.out))⟩;have n2_:Aside0 (IsS127 w0 w104 g x1000_11 x1001_11):=⟨(by rw [hw];exact (by repeat (first|(with_reducible first|exact HI0.out|apply IsS127.alloc|apply IsS127.drewN|apply IsS127.drew|apply IsS127.set_0|apply IsS127.set_1|apply IsS127.far (hne:=NB0_102.out)|apply IsS127.far (hne:=NB0_110.out))|exact HI0.out|apply IsS127.set_0|apply IsS127.set_1)))⟩;have n3_:Aside0 (KeepBut w w104 g none):=⟨(by rw [hw];exact (by repeat (first|(with_reducible first|exact HK.out|apply KeepBut.set_|apply keep_drewN|apply keep_drew|apply keep_alloc|refine keep_far ?_ GW102.out _|refine keep_far ?_ GW110.out _)|exact HK.out)))⟩;have n4_:Aside0 (Below w0.heap.size w0 w104):=⟨(by rw [hw];exact (by repeat (first|(with_reducible first|exact HB.out|apply below_alloc|apply pw_below_drewN|apply below_drew1|refine below_set ?_ (IsS127.ge HI0.out)|refine below_set ?_ GE102.out|refine below_set ?_ GE110.out)|exact HB.out)))⟩;clear hw;clear BK102;clear BK110;clear HI0;clear HK;clear HB;have BK102:=n0_;have BK110:=n1_;have HI0:=n2_;have HK:=n3_;have HB:=n4_;clear n0_ n1_ n2_ n3_ n4_)|(refine callA_ (f:=53) (some 41) Tryd.func53 #[.pointer (some ⟨g,0,none⟩)] ?_;(with_reducible refine (kind_scan_left.calls g x1000_11 x1001_11 t111 t112 t113 w0 _ ?side1 ?side2 A21.out).mono ?_);(case side1 => repeat (first|(with_reducible first|exact HI0.out|apply IsS127.alloc|apply IsS127.drewN|apply IsS127.drew|apply IsS127.set_0|apply IsS127.set_1|apply IsS127.far (hne:=NB0_102.out)|apply IsS127.far (hne:=NB0_110.out))|exact HI0.out|apply IsS127.set_0|apply IsS127.set_1));(case side2 => repeat (first|(with_reducible first|exact HB.out|apply below_alloc|apply pw_below_drewN|apply below_drew1|refine below_set ?_ (IsS127.ge HI0.out)|refine below_set ?_ GE102.out|refine below_set ?_ GE110.out)|exact HB.out));rintro e w105 ⟨rfl,hi,hb,hk⟩;refine ⟨_,rfl,?_⟩;have n0_:=Aside0.mk (KeepBut.blk hk (g':=gb102) (o:=.cells #[.int .i64 0,.string (⟨#[]⟩:ByteArray),.int .i64 0,.int .i64 0,.int .i64 0] 78 (0,0)) bk_ NB102_0.out (by simp));have n1_:=Aside0.mk (KeepBut.blk hk (g':=gb110) (o:=.cells #[.int .i64 0,.string (⟨#[]⟩:ByteArray),.int .i64 0,.int .i64 0,.int .i64 0] 78 (0,0)) bk_ NB110_0.out (by simp));have n2_:=Aside0.mk (KeepBut.trans (by repeat (first|(with_reducible first|exact HK.out|apply KeepBut.set_|apply keep_drewN|apply keep_drew|apply keep_alloc|refine keep_far ?_ GW102.out _|refine keep_far ?_ GW110.out _)|exact HK.out)) hk (.inl rfl));have n3_:=Aside0.mk (hb);have n4_:=Aside0.mk (hi);clear BK102;clear BK110;clear HK;clear HB;clear HI0;have BK102:=n0_;have BK110:=n1_;have HK:=n2_;have HB:=n3_;have HI0:=n4_;clear n0_ n1_ n2_ n3_ n4_;(try clear hb);(try clear hb2);(try clear hk);(try clear hi);have p23:0≤(0:Int):=(by omega);have q23:0 < t111.size:=(by have:(0:Int) < (t111.size:Int):=od_;omega);have hx23:∀ h:0 < t111.size,((t111[0]'h).toNat:Int)=bt t111 0:=bt_at t111 0;clear p23;have qi23:(0 < (t111.size:Int))=True:=eq_true (od_);replace q23:=eq_true q23;have hnb106:=NB102_0.out;have hnc106:=NB0_102.out;obtain ⟨hcz107_0,hcz107_1,hcz107_2,hcz107_3,hcz107_4,hfz107_0,hfz107_1,hfz107_2,hfz107_3,hfz107_4⟩:=blk5_ BK102.out)|((with_reducible refine gate_store (t:=78) (p:=2) rfl ?_);refine store_event (t:=78) (p:=2) (v:=?vo_w108) (w1:=(((((w105.setCell ⟨gb102,0,none⟩ (.int .i64 0)).setCell ⟨gb102,1,none⟩ (.string (⟨#[]⟩:ByteArray))).setCell ⟨gb102,2,none⟩ (.int .i64 0)).setCell ⟨gb102,3,none⟩ (.int .i64 0)).setCell ⟨gb102,4,none⟩ (.int .i64 0))) ?hg ?ho ?hn ?hr ?_;(case ho => rfl);(case hg => rfl);(case hn => rfl);(case hr => first|(go_simp;done)|(go_simp;rfl));intro w108 hw;have n0_:Aside0 (w108.heap[gb102]?=some (.cells #[.int .i64 0,.string (⟨#[]⟩:ByteArray),.int .i64 0,.int .i64 0,.int .i64 0] 78 (0,0))):=⟨(by rw [hw];exact (st5_ BK102.out))⟩;have n1_:Aside0 (w108.heap[gb110]?=some (.cells #[.int .i64 0,.string (⟨#[]⟩:ByteArray),.int .i64 0,.int .i64 0,.int .i64 0] 78 (0,0))):=⟨(by rw [hw];exact bk_)⟩;have n2_:Aside0 (IsS127 w0 w108 g t112 t113):=⟨(by rw [hw];exact (by repeat (first|(with_reducible first|exact HI0.out|apply IsS127.alloc|apply IsS127.drewN|apply IsS127.drew|apply IsS127.set_0|apply IsS127.set_1|apply IsS127.far (hne:=NB0_102.out)|apply IsS127.far (hne:=NB0_110.out))|exact HI0.out|apply IsS127.set_0|apply IsS127.set_1)))⟩;have n3_:Aside0 (KeepBut w w108 g none):=⟨(by rw [hw];exact (by repeat (first|(with_reducible first|exact HK.out|apply KeepBut.set_|apply keep_drewN|apply keep_drew|apply keep_alloc|refine keep_far ?_ GW102.out _|refine keep_far ?_ GW110.out _)|exact HK.out)))⟩;have n4_:Aside0 (Below w0.heap.size w0 w108):=⟨(by rw [hw];exact (by repeat (first|(with_reducible first|exact HB.out|apply below_alloc|apply pw_below_drewN|apply below_drew1|refine below_set ?_ (IsS127.ge HI0.out)|refine below_set ?_ GE102.out|refine below_set ?_ GE110.out)|exact HB.out)))⟩;clear hw;clear BK102;clear BK110;clear HI0;clear HK;clear HB;have BK102:=n0_;have BK110:=n1_;have HI0:=n2_;have HK:=n3_;have HB:=n4_;clear n0_ n1_ n2_ n3_ n4_))
          refine bodyPost_ret (results_ct rfl _ _ gb102 78 #[.int .i64 0,.string (⟨#[]⟩:ByteArray),.int .i64 0,.int .i64 0,.int .i64 0] (0,0) _ rfl bk_ Tryd.underlying78 rfl (by kernel_rfl)) rfl ?_
          exact ⟨ew_,by repeat (first|(with_reducible first|exact HI0.out|apply IsS127.alloc|apply IsS127.drewN|apply IsS127.drew|apply IsS127.set_0|apply IsS127.set_1|apply IsS127.far (hne:=NB0_102.out)|apply IsS127.far (hne:=NB0_110.out))|exact HI0.out|apply IsS127.set_0|apply IsS127.set_1),by repeat (first|(with_reducible first|exact HB.out|apply below_alloc|apply pw_below_drewN|apply below_drew1|refine below_set ?_ (IsS127.ge HI0.out)|refine below_set ?_ GE102.out|refine below_set ?_ GE110.out)|exact HB.out),by repeat (first|(with_reducible first|exact HK.out|apply KeepBut.set_|apply keep_drewN|apply keep_drew|apply keep_alloc|refine keep_far ?_ GW102.out _|refine keep_far ?_ GW110.out _)|exact HK.out)⟩
      ·rw [if_neg c22] at H
       exact absurd H (by simp)
def kind_Field.f (k:Nat) (a0:ByteArray):Option (Int × ByteArray × Int × Int × Int × Int):=(kind_scan_field.f k a0 0).bind fun bt123 => (if bt123.2.2.2.2.2.1=true then ((kind_scan_left.f bt123.2.2.2.2.2.2.1 bt123.2.2.2.2.2.2.2).bind fun bt132 => (if bt132.1.toList=([]:List UInt8) then (some (bt123.1,bt123.2.1,bt123.2.2.1,bt123.2.2.2.1,bt123.2.2.2.2.1,0)) else (some (0,(⟨#[]⟩:ByteArray),0,0,0,80)))) else (some (0,(⟨#[]⟩:ByteArray),0,0,0,80)))
set_option maxHeartbeats 80000000 in
set_option maxRecDepth 100000 in
theorem kind_Field.calls (k:Nat) (a0:ByteArray) (r1:Int) (r2:ByteArray) (r3:Int) (r4:Int) (r5:Int) (r6:Int) (w:World) (hG:Aside0 (GG w)) (h:kind_Field.f k a0=some (r1,r2,r3,r4,r5,r6)) :
  Calls Tryd.prog 42 #[.string a0] w fun e w' => e=.returned (.tuple #[.agg #[.int .i64 r1,.string r2,.int .i64 r3,.int .i64 r4,.int .i64 r5],.int .i64 r6])∧Below w.heap.size w w':=by
 have hu78:=Tryd.underlying78
 have hu127:=Tryd.underlying127
 have HB:=Aside0.mk (Below.refl w.heap.size w)
 have H:((kind_scan_field.f k a0 0).bind fun bt123 => (if bt123.2.2.2.2.2.1=true then ((kind_scan_left.f bt123.2.2.2.2.2.2.1 bt123.2.2.2.2.2.2.2).bind fun bt132 => (if bt132.1.toList=([]:List UInt8) then (some (bt123.1,bt123.2.1,bt123.2.2.1,bt123.2.2.2.1,bt123.2.2.2.2.1,0)) else (some (0,(⟨#[]⟩:ByteArray),0,0,0,80)))) else (some (0,(⟨#[]⟩:ByteArray),0,0,0,80))))=some (r1,r2,r3,r4,r5,r6):=h
 clear h
 replace H:=Option.bind_eq_some_iff.mp H
 obtain ⟨⟨t123,t124,t125,t126,t127,t128,t129,t130⟩,A20,H⟩:=H
 try dsimp only at H
 have A2:=Aside0.mk A20
 clear A20
 by_cases c3:t128=true
 ·subst c3
  rw [if_pos rfl] at H
  replace H:=Option.bind_eq_some_iff.mp H
  obtain ⟨⟨t132,t133,t134⟩,A40,H⟩:=H
  try dsimp only at H
  have A4:=Aside0.mk A40
  clear A40
  by_cases c5:t132.toList=([]:List UInt8)
  ·rw [if_pos c5] at H
   have c5b0:(t132.toList==([]:List UInt8))=true:=beq_iff_eq.mpr c5
   have c5b1:(t132.toList != ([]:List UInt8))=false:=bne_eq_false_iff_eq.mpr c5
   clear c5
   simp only [Option.some.injEq,Prod.mk.injEq] at H
   obtain ⟨rfl,rfl,rfl,rfl,rfl,rfl⟩:=H
   go_enter Tryd.func42,Tryd.ntmps42
   go_wp2_with (first|((with_reducible refine gate_dst (N:=2) rfl ?_);refine box_event ?hg (N:=2) ?hd (cs:=#[.int .i64 0,.string (⟨#[]⟩:ByteArray),.int .i64 0,.int .i64 0,.int .i64 0]) (t:=78) ?hr ?_;(case hd => rfl);(case hg => rfl);(case hr => first|(go_simp;done)|(go_simp;rfl));intro gb121 hg w6 hbox hb;have n0_:=Aside0.mk (below_step bl_ hb);have n1_:=Aside0.mk (hbox);have n2_:=Aside0.mk ((by rw [hg];exact (below_size bl_):w.heap.size≤gb121));have n3_:=Aside0.mk ((by rw [hg];exact (below_size bl_):w.heap.size≤gb121));clear HB;have HB:=n0_;have BK121:=n1_;have GW121:=n2_;have GE121:=n3_;clear n0_ n1_ n2_ n3_;clear hb hbox hg)|((with_reducible refine gate_dst (N:=9) rfl ?_);refine box_event ?hg (N:=9) ?hd (cs:=#[.string a0,.int .i64 0]) (t:=127) ?hr ?_;(case hd => rfl);(case hg => rfl);(case hr => first|(go_simp;done)|(go_simp;rfl));intro gb122 hg w7 hbox hb;have n0_:=Aside0.mk (blk_below (g:=gb121) (o:=.cells #[.int .i64 0,.string (⟨#[]⟩:ByteArray),.int .i64 0,.int .i64 0,.int .i64 0] 78 (0,0)) bk_ hb);have n1_:=Aside0.mk (below_step bl_ hb);have n2_:=Aside0.mk (hbox);have n3_:=Aside0.mk ((by rw [hg];exact (below_size bl_):w.heap.size≤gb122));have n4_:=Aside0.mk ((by rw [hg];exact (below_size bl_):w.heap.size≤gb122));have n5_:=Aside0.mk ((by rw [hg];exact Nat.ne_of_lt (blk_lt (g:=gb121) (o:=.cells #[.int .i64 0,.string (⟨#[]⟩:ByteArray),.int .i64 0,.int .i64 0,.int .i64 0] 78 (0,0)) bk_):gb121 ≠ gb122));have n6_:=Aside0.mk ((by rw [hg];exact Nat.ne_of_gt (blk_lt (g:=gb121) (o:=.cells #[.int .i64 0,.string (⟨#[]⟩:ByteArray),.int .i64 0,.int .i64 0,.int .i64 0] 78 (0,0)) bk_):gb122 ≠ gb121));clear BK121;clear HB;have BK121:=n0_;have HB:=n1_;have BK122:=n2_;have GW122:=n3_;have GE122:=n4_;have NB121_122:=n5_;have NB122_121:=n6_;clear n0_ n1_ n2_ n3_ n4_ n5_ n6_;clear hb hbox hg;have HI122:=Aside0.mk (show IsS127 w w7 gb122 a0 0 from ⟨BK122.out,GE122.out⟩);clear BK122)|(refine callA_ (f:=52) (some 12) Tryd.func52 #[.pointer (some ⟨gb122,0,none⟩)] ?_;(with_reducible refine (kind_scan_field.calls k gb122 a0 0 t123 t124 t125 t126 t127 true t129 t130 w _ hG ?side1 ?side2 A2.out).mono ?_);(case side1 => repeat (first|(with_reducible first|exact HI122.out|apply IsS127.alloc|apply IsS127.drewN|apply IsS127.drew|apply IsS127.set_0|apply IsS127.set_1|apply IsS127.far (hne:=NB122_121.out))|exact HI122.out|apply IsS127.set_0|apply IsS127.set_1));(case side2 => repeat (first|(with_reducible first|exact HB.out|apply below_alloc|apply pw_below_drewN|apply below_drew1|refine below_set ?_ (IsS127.ge HI122.out)|refine below_set ?_ GE121.out)|exact HB.out));rintro e w8 ⟨rfl,hi,hb,hk⟩;refine ⟨_,rfl,?_⟩;have n0_:=Aside0.mk (KeepBut.blk hk (g':=gb121) (o:=.cells #[.int .i64 0,.string (⟨#[]⟩:ByteArray),.int .i64 0,.int .i64 0,.int .i64 0] 78 (0,0)) bk_ NB121_122.out (by simp));have n1_:=Aside0.mk (hb);have n2_:=Aside0.mk (hi);clear BK121;clear HB;clear HI122;have BK121:=n0_;have HB:=n1_;have HI122:=n2_;clear n0_ n1_ n2_;(try clear hb);(try clear hb2);(try clear hk);(try clear hi))|((with_reducible refine gate_dst (N:=5) rfl ?_);refine box_event ?hg (N:=5) ?hd (cs:=#[.int .i64 0,.string (⟨#[]⟩:ByteArray),.int .i64 0,.int .i64 0,.int .i64 0]) (t:=78) ?hr ?_;(case hd => rfl);(case hg => rfl);(case hr => first|(go_simp;done)|(go_simp;rfl));intro gb131 hg w9 hbox hb;have n0_:=Aside0.mk (blk_below (g:=gb121) (o:=.cells #[.int .i64 0,.string (⟨#[]⟩:ByteArray),.int .i64 0,.int .i64 0,.int .i64 0] 78 (0,0)) bk_ hb);have n1_:=Aside0.mk (IsS127.below (by repeat (first|(with_reducible first|exact HI122.out|apply IsS127.alloc|apply IsS127.drewN|apply IsS127.drew|apply IsS127.set_0|apply IsS127.set_1|apply IsS127.far (hne:=NB122_121.out))|exact HI122.out|apply IsS127.set_0|apply IsS127.set_1)) hb);have n2_:=Aside0.mk (below_step (by repeat (first|(with_reducible first|exact HB.out|apply below_alloc|apply pw_below_drewN|apply below_drew1|refine below_set ?_ (IsS127.ge HI122.out)|refine below_set ?_ GE121.out)|exact HB.out)) hb);have n3_:=Aside0.mk (hbox);have n4_:=Aside0.mk ((by rw [hg];exact (below_size (by repeat (first|(with_reducible first|exact HB.out|apply below_alloc|apply pw_below_drewN|apply below_drew1|refine below_set ?_ (IsS127.ge HI122.out)|refine below_set ?_ GE121.out)|exact HB.out))):w.heap.size≤gb131));have n5_:=Aside0.mk ((by rw [hg];exact (below_size (by repeat (first|(with_reducible first|exact HB.out|apply below_alloc|apply pw_below_drewN|apply below_drew1|refine below_set ?_ (IsS127.ge HI122.out)|refine below_set ?_ GE121.out)|exact HB.out))):w.heap.size≤gb131));have n6_:=Aside0.mk ((by rw [hg];exact Nat.ne_of_lt (blk_lt (g:=gb121) (o:=.cells #[.int .i64 0,.string (⟨#[]⟩:ByteArray),.int .i64 0,.int .i64 0,.int .i64 0] 78 (0,0)) bk_):gb121 ≠ gb131));have n7_:=Aside0.mk ((by rw [hg];exact Nat.ne_of_gt (blk_lt (g:=gb121) (o:=.cells #[.int .i64 0,.string (⟨#[]⟩:ByteArray),.int .i64 0,.int .i64 0,.int .i64 0] 78 (0,0)) bk_):gb131 ≠ gb121));have n8_:=Aside0.mk ((by rw [hg];exact Nat.ne_of_lt (IsS127.lt (show IsS127 w _ gb122 t129 t130 from by repeat (first|(with_reducible first|exact HI122.out|apply IsS127.alloc|apply IsS127.drewN|apply IsS127.drew|apply IsS127.set_0|apply IsS127.set_1|apply IsS127.far (hne:=NB122_121.out))|exact HI122.out|apply IsS127.set_0|apply IsS127.set_1))):gb122 ≠ gb131));have n9_:=Aside0.mk ((by rw [hg];exact Nat.ne_of_gt (IsS127.lt (show IsS127 w _ gb122 t129 t130 from by repeat (first|(with_reducible first|exact HI122.out|apply IsS127.alloc|apply IsS127.drewN|apply IsS127.drew|apply IsS127.set_0|apply IsS127.set_1|apply IsS127.far (hne:=NB122_121.out))|exact HI122.out|apply IsS127.set_0|apply IsS127.set_1))):gb131 ≠ gb122));clear BK121;clear HI122;clear HB;have BK121:=n0_;have HI122:=n1_;have HB:=n2_;have BK131:=n3_;have GW131:=n4_;have GE131:=n5_;have NB121_131:=n6_;have NB131_121:=n7_;have NB122_131:=n8_;have NB131_122:=n9_;clear n0_ n1_ n2_ n3_ n4_ n5_ n6_ n7_ n8_ n9_;clear hb hbox hg;have hnb10:=NB131_121.out;have hnc10:=NB121_131.out;have hnb11:=NB131_122.out;have hnc11:=NB122_131.out;obtain ⟨hcz12_0,hcz12_1,hcz12_2,hcz12_3,hcz12_4,hfz12_0,hfz12_1,hfz12_2,hfz12_3,hfz12_4⟩:=blk5_ BK131.out)|((with_reducible refine gate_store (t:=78) (p:=5) rfl ?_);refine store_event (t:=78) (p:=5) (v:=?vo_w13) (w1:=(((((w9.setCell ⟨gb131,0,none⟩ (.int .i64 t123)).setCell ⟨gb131,1,none⟩ (.string t124)).setCell ⟨gb131,2,none⟩ (.int .i64 t125)).setCell ⟨gb131,3,none⟩ (.int .i64 t126)).setCell ⟨gb131,4,none⟩ (.int .i64 t127))) ?hg ?ho ?hn ?hr ?_;(case ho => rfl);(case hg => rfl);(case hn => rfl);(case hr => first|(go_simp;done)|(go_simp;rfl));intro w13 hw;have n0_:Aside0 (w13.heap[gb121]?=some (.cells #[.int .i64 0,.string (⟨#[]⟩:ByteArray),.int .i64 0,.int .i64 0,.int .i64 0] 78 (0,0))):=⟨(by rw [hw];exact bk_)⟩;have n1_:Aside0 (w13.heap[gb131]?=some (.cells #[.int .i64 t123,.string t124,.int .i64 t125,.int .i64 t126,.int .i64 t127] 78 (0,0))):=⟨(by rw [hw];exact (st5_ BK131.out))⟩;have n2_:Aside0 (IsS127 w w13 gb122 t129 t130):=⟨(by rw [hw];exact (by repeat (first|(with_reducible first|exact HI122.out|apply IsS127.alloc|apply IsS127.drewN|apply IsS127.drew|apply IsS127.set_0|apply IsS127.set_1|apply IsS127.far (hne:=NB122_121.out)|apply IsS127.far (hne:=NB122_131.out))|exact HI122.out|apply IsS127.set_0|apply IsS127.set_1)))⟩;have n3_:Aside0 (Below w.heap.size w w13):=⟨(by rw [hw];exact (by repeat (first|(with_reducible first|exact HB.out|apply below_alloc|apply pw_below_drewN|apply below_drew1|refine below_set ?_ (IsS127.ge HI122.out)|refine below_set ?_ GE121.out|refine below_set ?_ GE131.out)|exact HB.out)))⟩;clear hw;clear BK121;clear BK131;clear HI122;clear HB;have BK121:=n0_;have BK131:=n1_;have HI122:=n2_;have HB:=n3_;clear n0_ n1_ n2_ n3_)|(go_at_call 53;(with_reducible refine (kind_scan_left.calls gb122 t129 t130 t132 t133 t134 w _ ?side1 ?side2 A4.out).mono ?_);(case side1 => repeat (first|(with_reducible first|exact HI122.out|apply IsS127.alloc|apply IsS127.drewN|apply IsS127.drew|apply IsS127.set_0|apply IsS127.set_1|apply IsS127.far (hne:=NB122_121.out)|apply IsS127.far (hne:=NB122_131.out))|exact HI122.out|apply IsS127.set_0|apply IsS127.set_1));(case side2 => repeat (first|(with_reducible first|exact HB.out|apply below_alloc|apply pw_below_drewN|apply below_drew1|refine below_set ?_ (IsS127.ge HI122.out)|refine below_set ?_ GE121.out|refine below_set ?_ GE131.out)|exact HB.out));rintro e w14 ⟨rfl,hi,hb,hk⟩;have n0_:=Aside0.mk (KeepBut.blk hk (g':=gb121) (o:=.cells #[.int .i64 0,.string (⟨#[]⟩:ByteArray),.int .i64 0,.int .i64 0,.int .i64 0] 78 (0,0)) bk_ NB121_122.out (by simp));have n1_:=Aside0.mk (KeepBut.blk hk (g':=gb131) (o:=.cells #[.int .i64 t123,.string t124,.int .i64 t125,.int .i64 t126,.int .i64 t127] 78 (0,0)) bk_ NB131_122.out (by simp));have n2_:=Aside0.mk (hb);have n3_:=Aside0.mk (hi);clear BK121;clear BK131;clear HB;clear HI122;have BK121:=n0_;have BK131:=n1_;have HB:=n2_;have HI122:=n3_;clear n0_ n1_ n2_ n3_;(try clear hb);(try clear hb2);(try clear hk);(try clear hi);obtain ⟨hcz15_0,hcz15_1,hcz15_2,hcz15_3,hcz15_4,hfz15_0,hfz15_1,hfz15_2,hfz15_3,hfz15_4⟩:=blk5_ BK131.out;have hnb16:=NB121_122.out;have hnc16:=NB122_121.out;obtain ⟨hcz17_0,hcz17_1,hcz17_2,hcz17_3,hcz17_4,hfz17_0,hfz17_1,hfz17_2,hfz17_3,hfz17_4⟩:=blk5_ BK121.out)|((with_reducible refine gate_store (t:=78) (p:=2) rfl ?_);refine store_event (t:=78) (p:=2) (v:=?vo_w18) (w1:=(((((w14.setCell ⟨gb121,0,none⟩ (.int .i64 t123)).setCell ⟨gb121,1,none⟩ (.string t124)).setCell ⟨gb121,2,none⟩ (.int .i64 t125)).setCell ⟨gb121,3,none⟩ (.int .i64 t126)).setCell ⟨gb121,4,none⟩ (.int .i64 t127))) ?hg ?ho ?hn ?hr ?_;(case ho => rfl);(case hg => rfl);(case hn => rfl);(case hr => first|(go_simp;done)|(go_simp;rfl));intro w18 hw;have n0_:Aside0 (w18.heap[gb121]?=some (.cells #[.int .i64 t123,.string t124,.int .i64 t125,.int .i64 t126,.int .i64 t127] 78 (0,0))):=⟨(by rw [hw];exact (st5_ BK121.out))⟩;have n1_:Aside0 (w18.heap[gb131]?=some (.cells #[.int .i64 t123,.string t124,.int .i64 t125,.int .i64 t126,.int .i64 t127] 78 (0,0))):=⟨(by rw [hw];exact bk_)⟩;have n2_:Aside0 (IsS127 w w18 gb122 t133 t134):=⟨(by rw [hw];exact (by repeat (first|(with_reducible first|exact HI122.out|apply IsS127.alloc|apply IsS127.drewN|apply IsS127.drew|apply IsS127.set_0|apply IsS127.set_1|apply IsS127.far (hne:=NB122_121.out)|apply IsS127.far (hne:=NB122_131.out))|exact HI122.out|apply IsS127.set_0|apply IsS127.set_1)))⟩;have n3_:Aside0 (Below w.heap.size w w18):=⟨(by rw [hw];exact (by repeat (first|(with_reducible first|exact HB.out|apply below_alloc|apply pw_below_drewN|apply below_drew1|refine below_set ?_ (IsS127.ge HI122.out)|refine below_set ?_ GE121.out|refine below_set ?_ GE131.out)|exact HB.out)))⟩;clear hw;clear BK121;clear BK131;clear HI122;clear HB;have BK121:=n0_;have BK131:=n1_;have HI122:=n2_;have HB:=n3_;clear n0_ n1_ n2_ n3_))
   refine bodyPost_ret (results_ct rfl _ _ gb121 78 #[.int .i64 t123,.string t124,.int .i64 t125,.int .i64 t126,.int .i64 t127] (0,0) _ rfl bk_ Tryd.underlying78 rfl (by kernel_rfl)) rfl ?_
   exact ⟨ew_,by repeat (first|(with_reducible first|exact HB.out|apply below_alloc|apply pw_below_drewN|apply below_drew1|refine below_set ?_ (IsS127.ge HI122.out)|refine below_set ?_ GE121.out|refine below_set ?_ GE131.out)|exact HB.out)⟩
  ·rw [if_neg c5] at H
   have c5b0:(t132.toList==([]:List UInt8))=false:=beq_eq_false_iff_ne.mpr c5
   have c5b1:(t132.toList != ([]:List UInt8))=true:=bne_iff_ne.mpr c5
   simp only [Option.some.injEq,Prod.mk.injEq] at H
   obtain ⟨rfl,rfl,rfl,rfl,rfl,rfl⟩:=H
   go_enter Tryd.func42,Tryd.ntmps42
   go_wp2_with (first|((with_reducible refine gate_dst (N:=2) rfl ?_);refine box_event ?hg (N:=2) ?hd (cs:=#[.int .i64 0,.string (⟨#[]⟩:ByteArray),.int .i64 0,.int .i64 0,.int .i64 0]) (t:=78) ?hr ?_;(case hd => rfl);(case hg => rfl);(case hr => first|(go_simp;done)|(go_simp;rfl));intro gb121 hg w19 hbox hb;have n0_:=Aside0.mk (below_step bl_ hb);have n1_:=Aside0.mk (hbox);have n2_:=Aside0.mk ((by rw [hg];exact (below_size bl_):w.heap.size≤gb121));have n3_:=Aside0.mk ((by rw [hg];exact (below_size bl_):w.heap.size≤gb121));clear HB;have HB:=n0_;have BK121:=n1_;have GW121:=n2_;have GE121:=n3_;clear n0_ n1_ n2_ n3_;clear hb hbox hg)|((with_reducible refine gate_dst (N:=9) rfl ?_);refine box_event ?hg (N:=9) ?hd (cs:=#[.string a0,.int .i64 0]) (t:=127) ?hr ?_;(case hd => rfl);(case hg => rfl);(case hr => first|(go_simp;done)|(go_simp;rfl));intro gb122 hg w20 hbox hb;have n0_:=Aside0.mk (blk_below (g:=gb121) (o:=.cells #[.int .i64 0,.string (⟨#[]⟩:ByteArray),.int .i64 0,.int .i64 0,.int .i64 0] 78 (0,0)) bk_ hb);have n1_:=Aside0.mk (below_step bl_ hb);have n2_:=Aside0.mk (hbox);have n3_:=Aside0.mk ((by rw [hg];exact (below_size bl_):w.heap.size≤gb122));have n4_:=Aside0.mk ((by rw [hg];exact (below_size bl_):w.heap.size≤gb122));have n5_:=Aside0.mk ((by rw [hg];exact Nat.ne_of_lt (blk_lt (g:=gb121) (o:=.cells #[.int .i64 0,.string (⟨#[]⟩:ByteArray),.int .i64 0,.int .i64 0,.int .i64 0] 78 (0,0)) bk_):gb121 ≠ gb122));have n6_:=Aside0.mk ((by rw [hg];exact Nat.ne_of_gt (blk_lt (g:=gb121) (o:=.cells #[.int .i64 0,.string (⟨#[]⟩:ByteArray),.int .i64 0,.int .i64 0,.int .i64 0] 78 (0,0)) bk_):gb122 ≠ gb121));clear BK121;clear HB;have BK121:=n0_;have HB:=n1_;have BK122:=n2_;have GW122:=n3_;have GE122:=n4_;have NB121_122:=n5_;have NB122_121:=n6_;clear n0_ n1_ n2_ n3_ n4_ n5_ n6_;clear hb hbox hg;have HI122:=Aside0.mk (show IsS127 w w20 gb122 a0 0 from ⟨BK122.out,GE122.out⟩);clear BK122)|(refine callA_ (f:=52) (some 12) Tryd.func52 #[.pointer (some ⟨gb122,0,none⟩)] ?_;(with_reducible refine (kind_scan_field.calls k gb122 a0 0 t123 t124 t125 t126 t127 true t129 t130 w _ hG ?side1 ?side2 A2.out).mono ?_);(case side1 => repeat (first|(with_reducible first|exact HI122.out|apply IsS127.alloc|apply IsS127.drewN|apply IsS127.drew|apply IsS127.set_0|apply IsS127.set_1|apply IsS127.far (hne:=NB122_121.out))|exact HI122.out|apply IsS127.set_0|apply IsS127.set_1));(case side2 => repeat (first|(with_reducible first|exact HB.out|apply below_alloc|apply pw_below_drewN|apply below_drew1|refine below_set ?_ (IsS127.ge HI122.out)|refine below_set ?_ GE121.out)|exact HB.out));rintro e w21 ⟨rfl,hi,hb,hk⟩;refine ⟨_,rfl,?_⟩;have n0_:=Aside0.mk (KeepBut.blk hk (g':=gb121) (o:=.cells #[.int .i64 0,.string (⟨#[]⟩:ByteArray),.int .i64 0,.int .i64 0,.int .i64 0] 78 (0,0)) bk_ NB121_122.out (by simp));have n1_:=Aside0.mk (hb);have n2_:=Aside0.mk (hi);clear BK121;clear HB;clear HI122;have BK121:=n0_;have HB:=n1_;have HI122:=n2_;clear n0_ n1_ n2_;(try clear hb);(try clear hb2);(try clear hk);(try clear hi))|((with_reducible refine gate_dst (N:=5) rfl ?_);refine box_event ?hg (N:=5) ?hd (cs:=#[.int .i64 0,.string (⟨#[]⟩:ByteArray),.int .i64 0,.int .i64 0,.int .i64 0]) (t:=78) ?hr ?_;(case hd => rfl);(case hg => rfl);(case hr => first|(go_simp;done)|(go_simp;rfl));intro gb131 hg w22 hbox hb;have n0_:=Aside0.mk (blk_below (g:=gb121) (o:=.cells #[.int .i64 0,.string (⟨#[]⟩:ByteArray),.int .i64 0,.int .i64 0,.int .i64 0] 78 (0,0)) bk_ hb);have n1_:=Aside0.mk (IsS127.below (by repeat (first|(with_reducible first|exact HI122.out|apply IsS127.alloc|apply IsS127.drewN|apply IsS127.drew|apply IsS127.set_0|apply IsS127.set_1|apply IsS127.far (hne:=NB122_121.out))|exact HI122.out|apply IsS127.set_0|apply IsS127.set_1)) hb);have n2_:=Aside0.mk (below_step (by repeat (first|(with_reducible first|exact HB.out|apply below_alloc|apply pw_below_drewN|apply below_drew1|refine below_set ?_ (IsS127.ge HI122.out)|refine below_set ?_ GE121.out)|exact HB.out)) hb);have n3_:=Aside0.mk (hbox);have n4_:=Aside0.mk ((by rw [hg];exact (below_size (by repeat (first|(with_reducible first|exact HB.out|apply below_alloc|apply pw_below_drewN|apply below_drew1|refine below_set ?_ (IsS127.ge HI122.out)|refine below_set ?_ GE121.out)|exact HB.out))):w.heap.size≤gb131));have n5_:=Aside0.mk ((by rw [hg];exact (below_size (by repeat (first|(with_reducible first|exact HB.out|apply below_alloc|apply pw_below_drewN|apply below_drew1|refine below_set ?_ (IsS127.ge HI122.out)|refine below_set ?_ GE121.out)|exact HB.out))):w.heap.size≤gb131));have n6_:=Aside0.mk ((by rw [hg];exact Nat.ne_of_lt (blk_lt (g:=gb121) (o:=.cells #[.int .i64 0,.string (⟨#[]⟩:ByteArray),.int .i64 0,.int .i64 0,.int .i64 0] 78 (0,0)) bk_):gb121 ≠ gb131));have n7_:=Aside0.mk ((by rw [hg];exact Nat.ne_of_gt (blk_lt (g:=gb121) (o:=.cells #[.int .i64 0,.string (⟨#[]⟩:ByteArray),.int .i64 0,.int .i64 0,.int .i64 0] 78 (0,0)) bk_):gb131 ≠ gb121));have n8_:=Aside0.mk ((by rw [hg];exact Nat.ne_of_lt (IsS127.lt (show IsS127 w _ gb122 t129 t130 from by repeat (first|(with_reducible first|exact HI122.out|apply IsS127.alloc|apply IsS127.drewN|apply IsS127.drew|apply IsS127.set_0|apply IsS127.set_1|apply IsS127.far (hne:=NB122_121.out))|exact HI122.out|apply IsS127.set_0|apply IsS127.set_1))):gb122 ≠ gb131));have n9_:=Aside0.mk ((by rw [hg];exact Nat.ne_of_gt (IsS127.lt (show IsS127 w _ gb122 t129 t130 from by repeat (first|(with_reducible first|exact HI122.out|apply IsS127.alloc|apply IsS127.drewN|apply IsS127.drew|apply IsS127.set_0|apply IsS127.set_1|apply IsS127.far (hne:=NB122_121.out))|exact HI122.out|apply IsS127.set_0|apply IsS127.set_1))):gb131 ≠ gb122));clear BK121;clear HI122;clear HB;have BK121:=n0_;have HI122:=n1_;have HB:=n2_;have BK131:=n3_;have GW131:=n4_;have GE131:=n5_;have NB121_131:=n6_;have NB131_121:=n7_;have NB122_131:=n8_;have NB131_122:=n9_;clear n0_ n1_ n2_ n3_ n4_ n5_ n6_ n7_ n8_ n9_;clear hb hbox hg;have hnb23:=NB131_121.out;have hnc23:=NB121_131.out;have hnb24:=NB131_122.out;have hnc24:=NB122_131.out;obtain ⟨hcz25_0,hcz25_1,hcz25_2,hcz25_3,hcz25_4,hfz25_0,hfz25_1,hfz25_2,hfz25_3,hfz25_4⟩:=blk5_ BK131.out)|((with_reducible refine gate_store (t:=78) (p:=5) rfl ?_);refine store_event (t:=78) (p:=5) (v:=?vo_w26) (w1:=(((((w22.setCell ⟨gb131,0,none⟩ (.int .i64 t123)).setCell ⟨gb131,1,none⟩ (.string t124)).setCell ⟨gb131,2,none⟩ (.int .i64 t125)).setCell ⟨gb131,3,none⟩ (.int .i64 t126)).setCell ⟨gb131,4,none⟩ (.int .i64 t127))) ?hg ?ho ?hn ?hr ?_;(case ho => rfl);(case hg => rfl);(case hn => rfl);(case hr => first|(go_simp;done)|(go_simp;rfl));intro w26 hw;have n0_:Aside0 (w26.heap[gb121]?=some (.cells #[.int .i64 0,.string (⟨#[]⟩:ByteArray),.int .i64 0,.int .i64 0,.int .i64 0] 78 (0,0))):=⟨(by rw [hw];exact bk_)⟩;have n1_:Aside0 (w26.heap[gb131]?=some (.cells #[.int .i64 t123,.string t124,.int .i64 t125,.int .i64 t126,.int .i64 t127] 78 (0,0))):=⟨(by rw [hw];exact (st5_ BK131.out))⟩;have n2_:Aside0 (IsS127 w w26 gb122 t129 t130):=⟨(by rw [hw];exact (by repeat (first|(with_reducible first|exact HI122.out|apply IsS127.alloc|apply IsS127.drewN|apply IsS127.drew|apply IsS127.set_0|apply IsS127.set_1|apply IsS127.far (hne:=NB122_121.out)|apply IsS127.far (hne:=NB122_131.out))|exact HI122.out|apply IsS127.set_0|apply IsS127.set_1)))⟩;have n3_:Aside0 (Below w.heap.size w w26):=⟨(by rw [hw];exact (by repeat (first|(with_reducible first|exact HB.out|apply below_alloc|apply pw_below_drewN|apply below_drew1|refine below_set ?_ (IsS127.ge HI122.out)|refine below_set ?_ GE121.out|refine below_set ?_ GE131.out)|exact HB.out)))⟩;clear hw;clear BK121;clear BK131;clear HI122;clear HB;have BK121:=n0_;have BK131:=n1_;have HI122:=n2_;have HB:=n3_;clear n0_ n1_ n2_ n3_)|(go_at_call 53;(with_reducible refine (kind_scan_left.calls gb122 t129 t130 t132 t133 t134 w _ ?side1 ?side2 A4.out).mono ?_);(case side1 => repeat (first|(with_reducible first|exact HI122.out|apply IsS127.alloc|apply IsS127.drewN|apply IsS127.drew|apply IsS127.set_0|apply IsS127.set_1|apply IsS127.far (hne:=NB122_121.out)|apply IsS127.far (hne:=NB122_131.out))|exact HI122.out|apply IsS127.set_0|apply IsS127.set_1));(case side2 => repeat (first|(with_reducible first|exact HB.out|apply below_alloc|apply pw_below_drewN|apply below_drew1|refine below_set ?_ (IsS127.ge HI122.out)|refine below_set ?_ GE121.out|refine below_set ?_ GE131.out)|exact HB.out));rintro e w27 ⟨rfl,hi,hb,hk⟩;have n0_:=Aside0.mk (KeepBut.blk hk (g':=gb121) (o:=.cells #[.int .i64 0,.string (⟨#[]⟩:ByteArray),.int .i64 0,.int .i64 0,.int .i64 0] 78 (0,0)) bk_ NB121_122.out (by simp));have n1_:=Aside0.mk (KeepBut.blk hk (g':=gb131) (o:=.cells #[.int .i64 t123,.string t124,.int .i64 t125,.int .i64 t126,.int .i64 t127] 78 (0,0)) bk_ NB131_122.out (by simp));have n2_:=Aside0.mk (hb);have n3_:=Aside0.mk (hi);clear BK121;clear BK131;clear HB;clear HI122;have BK121:=n0_;have BK131:=n1_;have HB:=n2_;have HI122:=n3_;clear n0_ n1_ n2_ n3_;(try clear hb);(try clear hb2);(try clear hk);(try clear hi);have hnb28:=NB121_122.out;have hnc28:=NB122_121.out;obtain ⟨hcz29_0,hcz29_1,hcz29_2,hcz29_3,hcz29_4,hfz29_0,hfz29_1,hfz29_2,hfz29_3,hfz29_4⟩:=blk5_ BK121.out)|((with_reducible refine gate_store (t:=78) (p:=2) rfl ?_);refine store_event (t:=78) (p:=2) (v:=?vo_w30) (w1:=(((((w27.setCell ⟨gb121,0,none⟩ (.int .i64 0)).setCell ⟨gb121,1,none⟩ (.string (⟨#[]⟩:ByteArray))).setCell ⟨gb121,2,none⟩ (.int .i64 0)).setCell ⟨gb121,3,none⟩ (.int .i64 0)).setCell ⟨gb121,4,none⟩ (.int .i64 0))) ?hg ?ho ?hn ?hr ?_;(case ho => rfl);(case hg => rfl);(case hn => rfl);(case hr => first|(go_simp;done)|(go_simp;rfl));intro w30 hw;have n0_:Aside0 (w30.heap[gb121]?=some (.cells #[.int .i64 0,.string (⟨#[]⟩:ByteArray),.int .i64 0,.int .i64 0,.int .i64 0] 78 (0,0))):=⟨(by rw [hw];exact (st5_ BK121.out))⟩;have n1_:Aside0 (w30.heap[gb131]?=some (.cells #[.int .i64 t123,.string t124,.int .i64 t125,.int .i64 t126,.int .i64 t127] 78 (0,0))):=⟨(by rw [hw];exact bk_)⟩;have n2_:Aside0 (IsS127 w w30 gb122 t133 t134):=⟨(by rw [hw];exact (by repeat (first|(with_reducible first|exact HI122.out|apply IsS127.alloc|apply IsS127.drewN|apply IsS127.drew|apply IsS127.set_0|apply IsS127.set_1|apply IsS127.far (hne:=NB122_121.out)|apply IsS127.far (hne:=NB122_131.out))|exact HI122.out|apply IsS127.set_0|apply IsS127.set_1)))⟩;have n3_:Aside0 (Below w.heap.size w w30):=⟨(by rw [hw];exact (by repeat (first|(with_reducible first|exact HB.out|apply below_alloc|apply pw_below_drewN|apply below_drew1|refine below_set ?_ (IsS127.ge HI122.out)|refine below_set ?_ GE121.out|refine below_set ?_ GE131.out)|exact HB.out)))⟩;clear hw;clear BK121;clear BK131;clear HI122;clear HB;have BK121:=n0_;have BK131:=n1_;have HI122:=n2_;have HB:=n3_;clear n0_ n1_ n2_ n3_))
   refine bodyPost_ret (results_ct rfl _ _ gb121 78 #[.int .i64 0,.string (⟨#[]⟩:ByteArray),.int .i64 0,.int .i64 0,.int .i64 0] (0,0) _ rfl bk_ Tryd.underlying78 rfl (by kernel_rfl)) rfl ?_
   exact ⟨ew_,by repeat (first|(with_reducible first|exact HB.out|apply below_alloc|apply pw_below_drewN|apply below_drew1|refine below_set ?_ (IsS127.ge HI122.out)|refine below_set ?_ GE121.out|refine below_set ?_ GE131.out)|exact HB.out)⟩
 ·replace c3:=Bool.eq_false_iff.mpr c3
  subst c3
  rw [if_neg (show ¬ (false=true) by decide)] at H
  simp only [Option.some.injEq,Prod.mk.injEq] at H
  obtain ⟨rfl,rfl,rfl,rfl,rfl,rfl⟩:=H
  go_enter Tryd.func42,Tryd.ntmps42
  go_wp2_with (first|((with_reducible refine gate_dst (N:=2) rfl ?_);refine box_event ?hg (N:=2) ?hd (cs:=#[.int .i64 0,.string (⟨#[]⟩:ByteArray),.int .i64 0,.int .i64 0,.int .i64 0]) (t:=78) ?hr ?_;(case hd => rfl);(case hg => rfl);(case hr => first|(go_simp;done)|(go_simp;rfl));intro gb121 hg w31 hbox hb;have n0_:=Aside0.mk (below_step bl_ hb);have n1_:=Aside0.mk (hbox);have n2_:=Aside0.mk ((by rw [hg];exact (below_size bl_):w.heap.size≤gb121));have n3_:=Aside0.mk ((by rw [hg];exact (below_size bl_):w.heap.size≤gb121));clear HB;have HB:=n0_;have BK121:=n1_;have GW121:=n2_;have GE121:=n3_;clear n0_ n1_ n2_ n3_;clear hb hbox hg)|((with_reducible refine gate_dst (N:=9) rfl ?_);refine box_event ?hg (N:=9) ?hd (cs:=#[.string a0,.int .i64 0]) (t:=127) ?hr ?_;(case hd => rfl);(case hg => rfl);(case hr => first|(go_simp;done)|(go_simp;rfl));intro gb122 hg w32 hbox hb;have n0_:=Aside0.mk (blk_below (g:=gb121) (o:=.cells #[.int .i64 0,.string (⟨#[]⟩:ByteArray),.int .i64 0,.int .i64 0,.int .i64 0] 78 (0,0)) bk_ hb);have n1_:=Aside0.mk (below_step bl_ hb);have n2_:=Aside0.mk (hbox);have n3_:=Aside0.mk ((by rw [hg];exact (below_size bl_):w.heap.size≤gb122));have n4_:=Aside0.mk ((by rw [hg];exact (below_size bl_):w.heap.size≤gb122));have n5_:=Aside0.mk ((by rw [hg];exact Nat.ne_of_lt (blk_lt (g:=gb121) (o:=.cells #[.int .i64 0,.string (⟨#[]⟩:ByteArray),.int .i64 0,.int .i64 0,.int .i64 0] 78 (0,0)) bk_):gb121 ≠ gb122));have n6_:=Aside0.mk ((by rw [hg];exact Nat.ne_of_gt (blk_lt (g:=gb121) (o:=.cells #[.int .i64 0,.string (⟨#[]⟩:ByteArray),.int .i64 0,.int .i64 0,.int .i64 0] 78 (0,0)) bk_):gb122 ≠ gb121));clear BK121;clear HB;have BK121:=n0_;have HB:=n1_;have BK122:=n2_;have GW122:=n3_;have GE122:=n4_;have NB121_122:=n5_;have NB122_121:=n6_;clear n0_ n1_ n2_ n3_ n4_ n5_ n6_;clear hb hbox hg;have HI122:=Aside0.mk (show IsS127 w w32 gb122 a0 0 from ⟨BK122.out,GE122.out⟩);clear BK122)|(refine callA_ (f:=52) (some 12) Tryd.func52 #[.pointer (some ⟨gb122,0,none⟩)] ?_;(with_reducible refine (kind_scan_field.calls k gb122 a0 0 t123 t124 t125 t126 t127 false t129 t130 w _ hG ?side1 ?side2 A2.out).mono ?_);(case side1 => repeat (first|(with_reducible first|exact HI122.out|apply IsS127.alloc|apply IsS127.drewN|apply IsS127.drew|apply IsS127.set_0|apply IsS127.set_1|apply IsS127.far (hne:=NB122_121.out))|exact HI122.out|apply IsS127.set_0|apply IsS127.set_1));(case side2 => repeat (first|(with_reducible first|exact HB.out|apply below_alloc|apply pw_below_drewN|apply below_drew1|refine below_set ?_ (IsS127.ge HI122.out)|refine below_set ?_ GE121.out)|exact HB.out));rintro e w33 ⟨rfl,hi,hb,hk⟩;refine ⟨_,rfl,?_⟩;have n0_:=Aside0.mk (KeepBut.blk hk (g':=gb121) (o:=.cells #[.int .i64 0,.string (⟨#[]⟩:ByteArray),.int .i64 0,.int .i64 0,.int .i64 0] 78 (0,0)) bk_ NB121_122.out (by simp));have n1_:=Aside0.mk (hb);have n2_:=Aside0.mk (hi);clear BK121;clear HB;clear HI122;have BK121:=n0_;have HB:=n1_;have HI122:=n2_;clear n0_ n1_ n2_;(try clear hb);(try clear hb2);(try clear hk);(try clear hi))|((with_reducible refine gate_dst (N:=5) rfl ?_);refine box_event ?hg (N:=5) ?hd (cs:=#[.int .i64 0,.string (⟨#[]⟩:ByteArray),.int .i64 0,.int .i64 0,.int .i64 0]) (t:=78) ?hr ?_;(case hd => rfl);(case hg => rfl);(case hr => first|(go_simp;done)|(go_simp;rfl));intro gb131 hg w34 hbox hb;have n0_:=Aside0.mk (blk_below (g:=gb121) (o:=.cells #[.int .i64 0,.string (⟨#[]⟩:ByteArray),.int .i64 0,.int .i64 0,.int .i64 0] 78 (0,0)) bk_ hb);have n1_:=Aside0.mk (IsS127.below (by repeat (first|(with_reducible first|exact HI122.out|apply IsS127.alloc|apply IsS127.drewN|apply IsS127.drew|apply IsS127.set_0|apply IsS127.set_1|apply IsS127.far (hne:=NB122_121.out))|exact HI122.out|apply IsS127.set_0|apply IsS127.set_1)) hb);have n2_:=Aside0.mk (below_step (by repeat (first|(with_reducible first|exact HB.out|apply below_alloc|apply pw_below_drewN|apply below_drew1|refine below_set ?_ (IsS127.ge HI122.out)|refine below_set ?_ GE121.out)|exact HB.out)) hb);have n3_:=Aside0.mk (hbox);have n4_:=Aside0.mk ((by rw [hg];exact (below_size (by repeat (first|(with_reducible first|exact HB.out|apply below_alloc|apply pw_below_drewN|apply below_drew1|refine below_set ?_ (IsS127.ge HI122.out)|refine below_set ?_ GE121.out)|exact HB.out))):w.heap.size≤gb131));have n5_:=Aside0.mk ((by rw [hg];exact (below_size (by repeat (first|(with_reducible first|exact HB.out|apply below_alloc|apply pw_below_drewN|apply below_drew1|refine below_set ?_ (IsS127.ge HI122.out)|refine below_set ?_ GE121.out)|exact HB.out))):w.heap.size≤gb131));have n6_:=Aside0.mk ((by rw [hg];exact Nat.ne_of_lt (blk_lt (g:=gb121) (o:=.cells #[.int .i64 0,.string (⟨#[]⟩:ByteArray),.int .i64 0,.int .i64 0,.int .i64 0] 78 (0,0)) bk_):gb121 ≠ gb131));have n7_:=Aside0.mk ((by rw [hg];exact Nat.ne_of_gt (blk_lt (g:=gb121) (o:=.cells #[.int .i64 0,.string (⟨#[]⟩:ByteArray),.int .i64 0,.int .i64 0,.int .i64 0] 78 (0,0)) bk_):gb131 ≠ gb121));have n8_:=Aside0.mk ((by rw [hg];exact Nat.ne_of_lt (IsS127.lt (show IsS127 w _ gb122 t129 t130 from by repeat (first|(with_reducible first|exact HI122.out|apply IsS127.alloc|apply IsS127.drewN|apply IsS127.drew|apply IsS127.set_0|apply IsS127.set_1|apply IsS127.far (hne:=NB122_121.out))|exact HI122.out|apply IsS127.set_0|apply IsS127.set_1))):gb122 ≠ gb131));have n9_:=Aside0.mk ((by rw [hg];exact Nat.ne_of_gt (IsS127.lt (show IsS127 w _ gb122 t129 t130 from by repeat (first|(with_reducible first|exact HI122.out|apply IsS127.alloc|apply IsS127.drewN|apply IsS127.drew|apply IsS127.set_0|apply IsS127.set_1|apply IsS127.far (hne:=NB122_121.out))|exact HI122.out|apply IsS127.set_0|apply IsS127.set_1))):gb131 ≠ gb122));clear BK121;clear HI122;clear HB;have BK121:=n0_;have HI122:=n1_;have HB:=n2_;have BK131:=n3_;have GW131:=n4_;have GE131:=n5_;have NB121_131:=n6_;have NB131_121:=n7_;have NB122_131:=n8_;have NB131_122:=n9_;clear n0_ n1_ n2_ n3_ n4_ n5_ n6_ n7_ n8_ n9_;clear hb hbox hg;have hnb35:=NB131_121.out;have hnc35:=NB121_131.out;have hnb36:=NB131_122.out;have hnc36:=NB122_131.out;obtain ⟨hcz37_0,hcz37_1,hcz37_2,hcz37_3,hcz37_4,hfz37_0,hfz37_1,hfz37_2,hfz37_3,hfz37_4⟩:=blk5_ BK131.out)|((with_reducible refine gate_store (t:=78) (p:=5) rfl ?_);refine store_event (t:=78) (p:=5) (v:=?vo_w38) (w1:=(((((w34.setCell ⟨gb131,0,none⟩ (.int .i64 t123)).setCell ⟨gb131,1,none⟩ (.string t124)).setCell ⟨gb131,2,none⟩ (.int .i64 t125)).setCell ⟨gb131,3,none⟩ (.int .i64 t126)).setCell ⟨gb131,4,none⟩ (.int .i64 t127))) ?hg ?ho ?hn ?hr ?_;(case ho => rfl);(case hg => rfl);(case hn => rfl);(case hr => first|(go_simp;done)|(go_simp;rfl));intro w38 hw;have n0_:Aside0 (w38.heap[gb121]?=some (.cells #[.int .i64 0,.string (⟨#[]⟩:ByteArray),.int .i64 0,.int .i64 0,.int .i64 0] 78 (0,0))):=⟨(by rw [hw];exact bk_)⟩;have n1_:Aside0 (w38.heap[gb131]?=some (.cells #[.int .i64 t123,.string t124,.int .i64 t125,.int .i64 t126,.int .i64 t127] 78 (0,0))):=⟨(by rw [hw];exact (st5_ BK131.out))⟩;have n2_:Aside0 (IsS127 w w38 gb122 t129 t130):=⟨(by rw [hw];exact (by repeat (first|(with_reducible first|exact HI122.out|apply IsS127.alloc|apply IsS127.drewN|apply IsS127.drew|apply IsS127.set_0|apply IsS127.set_1|apply IsS127.far (hne:=NB122_121.out)|apply IsS127.far (hne:=NB122_131.out))|exact HI122.out|apply IsS127.set_0|apply IsS127.set_1)))⟩;have n3_:Aside0 (Below w.heap.size w w38):=⟨(by rw [hw];exact (by repeat (first|(with_reducible first|exact HB.out|apply below_alloc|apply pw_below_drewN|apply below_drew1|refine below_set ?_ (IsS127.ge HI122.out)|refine below_set ?_ GE121.out|refine below_set ?_ GE131.out)|exact HB.out)))⟩;clear hw;clear BK121;clear BK131;clear HI122;clear HB;have BK121:=n0_;have BK131:=n1_;have HI122:=n2_;have HB:=n3_;clear n0_ n1_ n2_ n3_;have hnb39:=NB121_122.out;have hnc39:=NB122_121.out;obtain ⟨hcz40_0,hcz40_1,hcz40_2,hcz40_3,hcz40_4,hfz40_0,hfz40_1,hfz40_2,hfz40_3,hfz40_4⟩:=blk5_ BK121.out)|((with_reducible refine gate_store (t:=78) (p:=2) rfl ?_);refine store_event (t:=78) (p:=2) (v:=?vo_w41) (w1:=(((((w38.setCell ⟨gb121,0,none⟩ (.int .i64 0)).setCell ⟨gb121,1,none⟩ (.string (⟨#[]⟩:ByteArray))).setCell ⟨gb121,2,none⟩ (.int .i64 0)).setCell ⟨gb121,3,none⟩ (.int .i64 0)).setCell ⟨gb121,4,none⟩ (.int .i64 0))) ?hg ?ho ?hn ?hr ?_;(case ho => rfl);(case hg => rfl);(case hn => rfl);(case hr => first|(go_simp;done)|(go_simp;rfl));intro w41 hw;have n0_:Aside0 (w41.heap[gb121]?=some (.cells #[.int .i64 0,.string (⟨#[]⟩:ByteArray),.int .i64 0,.int .i64 0,.int .i64 0] 78 (0,0))):=⟨(by rw [hw];exact (st5_ BK121.out))⟩;have n1_:Aside0 (w41.heap[gb131]?=some (.cells #[.int .i64 t123,.string t124,.int .i64 t125,.int .i64 t126,.int .i64 t127] 78 (0,0))):=⟨(by rw [hw];exact bk_)⟩;have n2_:Aside0 (IsS127 w w41 gb122 t129 t130):=⟨(by rw [hw];exact (by repeat (first|(with_reducible first|exact HI122.out|apply IsS127.alloc|apply IsS127.drewN|apply IsS127.drew|apply IsS127.set_0|apply IsS127.set_1|apply IsS127.far (hne:=NB122_121.out)|apply IsS127.far (hne:=NB122_131.out))|exact HI122.out|apply IsS127.set_0|apply IsS127.set_1)))⟩;have n3_:Aside0 (Below w.heap.size w w41):=⟨(by rw [hw];exact (by repeat (first|(with_reducible first|exact HB.out|apply below_alloc|apply pw_below_drewN|apply below_drew1|refine below_set ?_ (IsS127.ge HI122.out)|refine below_set ?_ GE121.out|refine below_set ?_ GE131.out)|exact HB.out)))⟩;clear hw;clear BK121;clear BK131;clear HI122;clear HB;have BK121:=n0_;have BK131:=n1_;have HI122:=n2_;have HB:=n3_;clear n0_ n1_ n2_ n3_))
  refine bodyPost_ret (results_ct rfl _ _ gb121 78 #[.int .i64 0,.string (⟨#[]⟩:ByteArray),.int .i64 0,.int .i64 0,.int .i64 0] (0,0) _ rfl bk_ Tryd.underlying78 rfl (by kernel_rfl)) rfl ?_
  exact ⟨ew_,by repeat (first|(with_reducible first|exact HB.out|apply below_alloc|apply pw_below_drewN|apply below_drew1|refine below_set ?_ (IsS127.ge HI122.out)|refine below_set ?_ GE121.out|refine below_set ?_ GE131.out)|exact HB.out)⟩
end Go.Proofs.YtoonhpcjcimecaaDoor.Px
namespace Go.Proofs.YtoonhpcjcimecaaDoor.Px
open Go.RowKit Go.Proofs.YtoonhpcjcimecaaDoorW.PrintWords Go.Proofs.YtoonhpcjcimecaaDoorW.PrintLast Go.Proofs.YtoonhpcjcimecaaDoorW.PrintMore
set_option linter.unusedVariables false
set_option linter.unusedSimpArgs false
def badC (c:UInt8):Bool:=c==46 || c==59 || c==91 || c==47 || c==60 || c==62
def plainV (l:List UInt8):Bool:=!l.any badC && !l.isEmpty && decide (l.length≤256)
theorem badC_iff (c:UInt8):badC c=true ↔ ((c.toNat:Int)=46 ∨ (c.toNat:Int)=59 ∨ (c.toNat:Int)=91 ∨ (c.toNat:Int)=47 ∨ (c.toNat:Int)=60 ∨ (c.toNat:Int)=62):=by
 unfold badC
 simp only [Bool.or_eq_true,beq_iff_eq,← UInt8.toNat_inj,UInt8.reduceToNat]
 omega
theorem badC_if {α:Type} (c:UInt8) (x y:Option α):(if (c.toNat:Int)=46 then x else if (c.toNat:Int)=59 then x else if (c.toNat:Int)=91 then x else if (c.toNat:Int)=47 then x else if (c.toNat:Int)=60 then x else if (c.toNat:Int)=62 then x else y)=if badC c=true then x else y:=by
 by_cases h:badC c=true
 ·rw [if_pos h]
  rw [badC_iff] at h
  by_cases h1:(c.toNat:Int)=46
  ·rw [if_pos h1]
  rw [if_neg h1]
  by_cases h2:(c.toNat:Int)=59
  ·rw [if_pos h2]
  rw [if_neg h2]
  by_cases h3:(c.toNat:Int)=91
  ·rw [if_pos h3]
  rw [if_neg h3]
  by_cases h4:(c.toNat:Int)=47
  ·rw [if_pos h4]
  rw [if_neg h4]
  by_cases h5:(c.toNat:Int)=60
  ·rw [if_pos h5]
  rw [if_neg h5]
  by_cases h6:(c.toNat:Int)=62
  ·rw [if_pos h6]
  omega
 ·rw [if_neg h]
  rw [badC_iff] at h
  rw [if_neg (by omega),if_neg (by omega),if_neg (by omega),if_neg (by omega),if_neg (by omega),if_neg (by omega)]
theorem kind_plain.ev_l (l:List UInt8) (hl:l.length≤4294967280):∀ n i,l.length - i≤n→i≤l.length→Ev (fun k => kind_plain.l0 k (BA l) (l.length:Int) (i:Int)) (!(l.drop i).any badC && !l.isEmpty && decide (l.length≤256)):=by
 intro n
 induction n with
 | zero =>
  intro i h1 h2
  have e:i=l.length:=by omega
  subst e
  refine Ev.step (f:=fun _ => some (!l.isEmpty && decide (l.length≤256))) (fun k => ?_) (by rw [List.drop_length];exact Ev.now _)
  simp only [kind_plain.l0]
  rw [if_neg (by omega),BA_list,BA_size]
  cases l with
  | nil => rfl
  | cons c t =>
   rw [if_neg (by simp)]
   simp only [List.isEmpty_cons,Bool.not_false,Bool.true_and]
   exact congrArg some (decide_eq_decide.2 (by omega))
 | succ n ih =>
  intro i h1 h2
  by_cases hi:i < l.length
  ·have hd:l.drop i=l[i] :: l.drop (i + 1):=List.drop_eq_getElem_cons hi
   refine Ev.step (f:=fun k => if badC l[i]=true then some false else kind_plain.l0 k (BA l) (l.length:Int) ((i + 1:Nat):Int)) (fun k => ?_) ?_
   ·simp only [kind_plain.l0]
    rw [if_pos (by omega),if_pos (by omega),if_pos (by rw [BA_size];omega),bt_BA l i hi,badC_if,w64s i (by omega)]
   ·rw [hd,List.any_cons]
    by_cases hb:badC l[i]=true
    ·simp only [hb,if_true,Bool.true_or,Bool.not_true,Bool.false_and];exact Ev.now _
    ·simp only [hb,if_false,Bool.false_or,Bool.false_eq_true];exact ih (i + 1) (by omega) (by omega)
  ·exact ih i (by omega) (by omega)
theorem kind_plain.ev (l:List UInt8) (hl:l.length≤4294967280):Ev (fun k => kind_plain.f k (BA l)) (plainV l):=by
 have h:=kind_plain.ev_l l hl l.length 0 (by omega) (by omega)
 unfold kind_plain.f plainV
 rw [BA_size]
 exact h
abbrev Ty:Type:=Int × ByteArray × Int × Int × Int
def tyV (d:Nat) (K:Int) (nm:ByteArray):Ty:=if d > 0 then (5,nm,d,K,0) else (K,nm,0,0,0)
def kRestV (d:Nat):List UInt8→Option (Ty × List UInt8)
 | [] => none
 | c :: t =>
  if d > 4 then none
  else if c=73 then some (tyV d 1 (BA []),t)
  else if c=74 then some (tyV d 2 (BA []),t)
  else if c=76 then (if (59:UInt8) ∈ t∧plainV (t.takeWhile (· != 59))=true then some (tyV d 4 (BA (t.takeWhile (· != 59))),(t.dropWhile (· != 59)).drop 1) else none)
  else none
def nb (l:List UInt8):Nat:=(l.takeWhile (·==91)).length
def kFieldV (l:List UInt8):Option (Ty × List UInt8):=kRestV (nb l) (l.drop (nb l))
def FieldV (l:List UInt8):Ty × Int:=match kFieldV l with|some (t,[]) => (t,0)|_ => ((0,BA [],0,0,0),80)
theorem nb_cons (c:UInt8) (t:List UInt8):nb (c :: t)=if c=91 then nb t + 1 else 0:=by
 unfold nb
 rw [List.takeWhile_cons]
 by_cases h:c=91
 ·simp [h]
 ·simp [h]
theorem nb_le (l:List UInt8):nb l≤l.length:=by
 unfold nb
 exact (List.takeWhile_prefix _).length_le
theorem kind_left.eq (l:List UInt8) (a:Nat) (h:a≤l.length):kind_scan_left.f (BA l) (a:Int)=some (BA (l.drop a),BA l,(a:Int)):=by
 unfold kind_scan_left.f
 rw [if_pos (by omega),if_pos (by rw [BA_size];omega),Int.toNat_natCast,BA_drop]
theorem hasPrefix1.eq (l:List UInt8) (b:UInt8):strings_HasPrefix.f (BA l) (BA [b])=some (l.head?==some b):=by
 unfold strings_HasPrefix.f stringslite_HasPrefix.f
 rw [BA_size,BA_size]
 cases l with
 | nil => rfl
 | cons c t =>
  rw [if_pos (by simp only [List.length_cons,List.length_nil];omega),if_pos (by simp only [List.length_cons,List.length_nil];omega),if_pos (by simp only [List.length_cons,List.length_nil];omega)]
  simp only [Option.bind_some,List.length_singleton]
  congr 1
  rw [show ((((1:Nat):Int):Int).toNat)=1 from rfl,BA_ext,BA_list,BA_list]
  simp
def kAns (l:List UInt8) (a:Nat):Option (Ty × List UInt8)→Int × ByteArray × Int × Int × Int × Bool × ByteArray × Int
 | none => (0,BA [],0,0,0,false,BA l,(a:Int))
 | some (t,u) => (t.1,t.2.1,t.2.2.1,t.2.2.2.1,t.2.2.2.2,true,BA l,((l.length - u.length:Nat):Int))
theorem tyV_if {α:Type} (d:Nat) (K:Int) (nm:ByteArray) (f:Ty→α):(if (d:Int) > 0 then f (5,nm,(d:Int),K,0) else f (K,nm,0,0,0))=f (tyV d K nm):=by
 unfold tyV
 by_cases h:d > 0
 ·rw [if_pos h,if_pos (by omega)]
 ·rw [if_neg h,if_neg (by omega)]
theorem takeWhile_len (p:UInt8→Bool) (l:List UInt8):(l.takeWhile p).length≤l.length:=(List.takeWhile_prefix _).length_le
theorem until_ne:∀ t:List UInt8,(59:UInt8) ∈ t→(t.dropWhile (· != 59)).length ≠ 0
 | [],h => by cases h
 | c :: t,h => by
  rw [List.dropWhile_cons]
  by_cases hc:c=59
  ·subst hc;simp
  ·have h1:(c != 59)=true:=by simpa using hc
   rw [if_pos h1]
   exact until_ne t ((List.mem_cons.1 h).resolve_left (fun e => hc e.symm))
theorem until_len (t:List UInt8) (h:(59:UInt8) ∈ t):(t.takeWhile (· != 59)).length + 1 + ((t.dropWhile (· != 59)).drop 1).length=t.length:=by
 have h1:(t.takeWhile (· != 59)).length + (t.dropWhile (· != 59)).length=t.length:=by
  rw [← List.length_append,List.takeWhile_append_dropWhile]
 have h2:=until_ne t h
 rw [List.length_drop]
 omega
theorem kind_j2.ev (l:List UInt8) (hl:l.length≤4294967280) (a:Nat) (ha:a≤l.length) (d:Nat) (h:l.drop a ≠ []) (hd:d≤4) :
  Ev (fun k => kind_scan_field.j2 k (d:Int) false (BA l) (a:Int)) (kAns l a (kRestV d (l.drop a))):=by
 obtain ⟨c,t,e⟩:∃ c t,l.drop a=c :: t:=by
  cases hh:l.drop a with
  | nil => exact absurd hh h
  | cons c t => exact ⟨c,t,rfl⟩
 have hlen:l.length - a=t.length + 1:=by have:=congrArg List.length e;rw [List.length_drop] at this;simpa using this
 have hj:∀ k,kind_scan_field.j2 (k + 1) (d:Int) false (BA l) (a:Int)=(if (c.toNat:Int)=73 then some (kAns l a (some (tyV d 1 (BA []),t))) else if (c.toNat:Int)=74 then some (kAns l a (some (tyV d 2 (BA []),t))) else if (c.toNat:Int)=76 then (strings_Cut.f (BA t) (BA [59])).bind fun q => (if q.2.2=true then ((kind_plain.f k q.1).bind fun t182 => (kind_scan_field.j3 k d q.1 (!t182) (BA l) a 0 (BA []) 0 0 0)) else (kind_scan_field.j3 k d q.1 true (BA l) a 0 (BA []) 0 0 0)) else some (kAns l a none)):=by
  intro k
  simp only [kind_scan_field.j2]
  rw [if_neg (by simp),kind_left.eq l a ha,Option.bind_some,e]
  dsimp only
  rw [if_pos (by rw [BA_size,List.length_cons];omega),bt_BA0]
  have ea:((l.length - t.length:Nat):Int)=wrap64 ((a:Int) + 1):=by rw [w64s a (by omega)];omega
  have e1:=tyV_if d 1 (BA []) (fun T => some (kAns l a (some (T,t))))
  have e2:=tyV_if d 2 (BA []) (fun T => some (kAns l a (some (T,t))))
  rw [← e1,← e2]
  simp only [kAns,ea]
  rw [kind_left.eq l a ha,Option.bind_some,e]
  dsimp only
  rw [if_pos (c:=1≤_) (by rw [BA_size,List.length_cons];omega),BA_drop]
  rfl
 have hcut:strings_Cut.f (BA t) (BA [59])=some (if (59:UInt8) ∈ t then (BA (t.takeWhile (· != 59)),BA ((t.dropWhile (· != 59)).drop 1),true) else (BA t,BA [],false)):=by
  unfold strings_Cut.f
  rw [if_pos (by rw [BA_size];omega)]
  simp only [BA_data]
  rw [cut_until]
  by_cases hm:(59:UInt8) ∈ t
  ·rw [if_pos hm,if_pos hm]
  ·rw [if_neg hm,if_neg hm]
 refine Ev.step (f:=fun k => if (c.toNat:Int)=73 then some (kAns l a (some (tyV d 1 (BA []),t))) else if (c.toNat:Int)=74 then some (kAns l a (some (tyV d 2 (BA []),t))) else if (c.toNat:Int)=76 then (strings_Cut.f (BA t) (BA [59])).bind fun q => (if q.2.2=true then ((kind_plain.f k q.1).bind fun t182 => (kind_scan_field.j3 k d q.1 (!t182) (BA l) a 0 (BA []) 0 0 0)) else (kind_scan_field.j3 k d q.1 true (BA l) a 0 (BA []) 0 0 0)) else some (kAns l a none)) hj ?_
 rw [e]
 unfold kRestV
 simp only [if_neg (show ¬ d > 4 by omega)]
 by_cases c1:c=73
 ·subst c1
  simp only [if_true,show (((73:UInt8).toNat:Int)=73) from rfl]
  exact Ev.now _
 have c1':¬ (c.toNat:Int)=73:=fun h => c1 ((u8_int c 73 (by decide)).1 h)
 simp only [if_neg c1,if_neg c1']
 by_cases c2:c=74
 ·subst c2
  simp only [if_true,show (((74:UInt8).toNat:Int)=74) from rfl]
  exact Ev.now _
 have c2':¬ (c.toNat:Int)=74:=fun h => c2 ((u8_int c 74 (by decide)).1 h)
 simp only [if_neg c2,if_neg c2']
 by_cases c3:c=76
 ·subst c3
  simp only [if_true,show (((76:UInt8).toNat:Int)=76) from rfl,hcut,Option.bind_some]
  by_cases hm:(59:UInt8) ∈ t
  ·simp only [if_pos hm,hm,true_and,if_true]
   have hu:=until_len t hm
   have ht:=takeWhile_len (· != 59) t
   refine Ev.bind (kind_plain.ev _ (by omega)) ?_
   by_cases hp:plainV (t.takeWhile (· != 59))=true
   ·simp only [hp,Bool.not_true,if_true]
    have e4:=tyV_if d 4 (BA (t.takeWhile (· != 59))) (fun T => some (kAns l a (some (T,(t.dropWhile (· != 59)).drop 1))))
    have ea:((l.length - ((t.dropWhile (· != 59)).drop 1).length:Nat):Int)=wrap64 ((wrap64 ((a:Int) + (wrap64 (((BA (t.takeWhile (· != 59))).size:Int) + 1)))) + 1):=by
     rw [BA_size,w64s _ (by omega),w64n _ _ (by omega),w64s _ (by omega)]
     omega
    refine Ev.step (f:=fun _ => some (kAns l a (some (tyV d 4 (BA (t.takeWhile (· != 59))),(t.dropWhile (· != 59)).drop 1)))) (fun k => ?_) (Ev.now _)
    rw [← e4]
    simp only [kind_scan_field.j3,kAns,ea]
    simp
   ·simp only [hp,if_false,Bool.false_eq_true]
    refine Ev.step (f:=fun _ => some (kAns l a none)) (fun k => ?_) (Ev.now _)
    simp [kind_scan_field.j3,kAns]
  ·simp only [if_neg hm,hm,false_and,if_false,Bool.false_eq_true]
   refine Ev.step (f:=fun _ => some (kAns l a none)) (fun k => ?_) (Ev.now _)
   simp [kind_scan_field.j3,kAns]
 have c3':¬ (c.toNat:Int)=76:=fun h => c3 ((u8_int c 76 (by decide)).1 h)
 simp only [if_neg c3,if_neg c3']
 exact Ev.now _
theorem kind_j1.ev (l:List UInt8) (hl:l.length≤4294967280) (a:Nat) (ha:a≤l.length) (d:Nat) :
  Ev (fun k => kind_scan_field.j1 k (d:Int) (BA l) (a:Int)) (kAns l a (kRestV d (l.drop a))):=by
 refine Ev.step (f:=fun k => if l.drop a=[] then kind_scan_field.j2 k (d:Int) true (BA l) (a:Int) else kind_scan_field.j2 k (d:Int) (decide ((d:Int) > 4)) (BA l) (a:Int)) (fun k => ?_) ?_
 ·simp only [kind_scan_field.j1]
  rw [kind_left.eq l a ha,Option.bind_some]
  simp only [BA_list]
 ·have hbad:Ev (fun k => kind_scan_field.j2 k (d:Int) true (BA l) (a:Int)) (kAns l a none):=by
   refine Ev.step (f:=fun _ => some (kAns l a none)) (fun k => ?_) (Ev.now _)
   simp [kind_scan_field.j2,kAns]
  by_cases h:l.drop a=[]
  ·simp only [h,if_true,kRestV];exact hbad
  ·simp only [if_neg h]
   by_cases hd:d≤4
   ·rw [show decide ((d:Int) > 4)=false from decide_eq_false (by omega)]
    exact kind_j2.ev l hl a ha d h hd
   ·rw [show decide ((d:Int) > 4)=true from decide_eq_true (by omega)]
    rw [show kRestV d (l.drop a)=none by cases l.drop a with|nil => rfl|cons c t => exact if_pos (by omega)]
    exact hbad
theorem kind_l0.ev (l:List UInt8) (hl:l.length≤4294967280):∀ n a i d,nb (l.drop a)=n→i≤a→a≤l.length→d≤a →
  Ev (fun k => kind_scan_field.l0 k (d:Int) (l.length:Int) (i:Int) (BA l) (a:Int)) (kAns l (a + n) (kRestV (d + n) (l.drop (a + n)))):=by
 intro n
 induction n with
 | zero =>
  intro a i d hn hi ha hd
  by_cases h:(i:Int) < (l.length:Int)
  ·refine Ev.step (f:=fun k => kind_scan_field.j1 k (d:Int) (BA l) (a:Int)) (fun k => ?_) (kind_j1.ev l hl a ha d)
   simp only [kind_scan_field.l0]
   rw [if_pos h,kind_left.eq l a ha,Option.bind_some,hasPrefix1.eq,Option.bind_some,if_neg]
   intro hh
   cases e:l.drop a with
   | nil => rw [e] at hh;simp at hh
   | cons c t =>
    rw [e,nb_cons] at hn
    rw [e] at hh
    simp at hh
    rw [if_pos hh] at hn
    omega
  ·refine Ev.step (f:=fun k => kind_scan_field.j1 k (d:Int) (BA l) (a:Int)) (fun k => ?_) (kind_j1.ev l hl a ha d)
   simp only [kind_scan_field.l0]
   rw [if_neg h]
 | succ n ih =>
  intro a i d hn hi ha hd
  cases e:l.drop a with
  | nil => rw [e] at hn;cases hn
  | cons c t =>
   rw [e,nb_cons] at hn
   by_cases hc:c=91
   ·rw [if_pos hc] at hn
    have hlen:l.length - a=t.length + 1:=by have:=congrArg List.length e;rw [List.length_drop] at this;simpa using this
    have et:l.drop (a + 1)=t:=by rw [← List.drop_drop,e];rfl
    have h:=ih (a + 1) (i + 1) (d + 1) (by rw [et];omega) (by omega) (by omega) (by omega)
    rw [show a + 1 + n=a + (n + 1) by omega,show d + 1 + n=d + (n + 1) by omega] at h
    refine Ev.step (f:=fun k => kind_scan_field.l0 k ((d + 1:Nat):Int) (l.length:Int) ((i + 1:Nat):Int) (BA l) ((a + 1:Nat):Int)) (fun k => ?_) h
    simp only [kind_scan_field.l0]
    rw [if_pos (by omega),kind_left.eq l a ha,Option.bind_some,hasPrefix1.eq,Option.bind_some,e,if_pos (by simp [hc])]
    simp only []
    rw [w64s d (by omega),w64s i (by omega),w64s a (by omega)]
   ·rw [if_neg hc] at hn
    cases hn
theorem kind_field.ev (l:List UInt8) (hl:l.length≤4294967280) (a:Nat) (ha:a≤l.length) :
  Ev (fun k => kind_scan_field.f k (BA l) (a:Int)) (kAns l (a + nb (l.drop a)) (kFieldV (l.drop a))):=by
 have h:=kind_l0.ev l hl _ a 0 0 rfl (by omega) ha (by omega)
 unfold kind_scan_field.f kFieldV
 rw [BA_size,List.drop_drop]
 simpa using h
theorem kRestV_len:∀ (d:Nat) (l:List UInt8) (t:Ty) (u:List UInt8),kRestV d l=some (t,u)→u.length < l.length∧∃ p,l=p++u:=by
 intro d l t u h
 cases l with
 | nil => cases h
 | cons c l =>
  simp only [kRestV] at h
  split at h
  ·cases h
  split at h
  ·cases h;exact ⟨by simp,⟨[c],rfl⟩⟩
  split at h
  ·cases h;exact ⟨by simp,⟨[c],rfl⟩⟩
  split at h
  ·split at h
   ·rename_i hm
    cases h
    have:=until_len l hm.1
    refine ⟨by rw [List.length_cons];omega,⟨c :: l.take ((l.takeWhile (· != 59)).length + 1),?_⟩⟩
    rw [← drop_until,List.drop_drop,List.cons_append,List.take_append_drop]
   ·cases h
  ·cases h
theorem kFieldV_len (l:List UInt8) (t:Ty) (u:List UInt8) (h:kFieldV l=some (t,u)):u.length < l.length∧l.drop (l.length - u.length)=u:=by
 obtain ⟨h1,p,hp⟩:=kRestV_len _ _ _ _ h
 rw [List.length_drop] at h1
 have hn:=nb_le l
 refine ⟨by omega,?_⟩
 obtain ⟨A,hA⟩:∃ A,l=A++u:=⟨l.take (nb l)++p,by rw [List.append_assoc,← hp,List.take_append_drop]⟩
 rw [hA,List.length_append,Nat.add_sub_cancel]
 exact List.drop_left
def fAns (q:Ty × Int):Int × ByteArray × Int × Int × Int × Int:=(q.1.1,q.1.2.1,q.1.2.2.1,q.1.2.2.2.1,q.1.2.2.2.2,q.2)
theorem kind_Field.ev (l:List UInt8) (hl:l.length≤4294967280):Ev (fun k => kind_Field.f k (BA l)) (fAns (FieldV l)):=by
 unfold kind_Field.f
 have h:=kind_field.ev l hl 0 (by omega)
 rw [List.drop_zero] at h
 refine Ev.bind h ?_
 unfold FieldV
 cases e:kFieldV l with
 | none => simp only [kAns,Bool.false_eq_true,if_false];exact Ev.now _
 | some q =>
  obtain ⟨t,u⟩:=q
  obtain ⟨h1,h2⟩:=kFieldV_len l t u e
  simp only [kAns,if_true]
  rw [kind_left.eq l _ (by omega),Option.bind_some,h2]
  simp only [BA_list]
  cases u with
  | nil => simp only [if_true];exact Ev.now _
  | cons c u => simp only [if_neg (List.cons_ne_nil c u)];exact Ev.now _
end Go.Proofs.YtoonhpcjcimecaaDoor.Px
namespace Go.Proofs.YtoonhpcjcimecaaDoor.Px
open Go.RowKit Go.Extern.Stop Go.Stop Go.Extern
set_option linter.unusedVariables false
set_option linter.unusedSimpArgs false
theorem as_nil (t:Value) (w:World) :
  Calls Tryd.prog 46 #[.nilIface,t] w fun e w' => e=.returned (.bool false)∧w'=w:=by
 go_enter Tryd.func46,Tryd.ntmps46
 go_wp2
 go_ret
 exact ⟨rfl,rfl⟩
theorem as_valueOf27 (t:Addr) (w:World):(ReflectliteValue.unpack (.iface 115 (.pointer (some t)))).run Tryd.prog w
  = .ok (.agg #[.pointer (some ⟨4,115,none⟩),.pointer (some ⟨w.heap.size,0,none⟩),.int .u64 150]) (w.alloc (.cells #[.pointer (some t)] 115)):=by kernel_rfl
theorem as_type27 (a : Addr) (w : World) : (ReflectliteValue.methodAny (ReflectliteValue.valueError "reflectlite.Value.Type" 0) (fun t _ _ _ => ReflectliteType.toType t) #[.agg #[.pointer (some ⟨4, 115, none⟩), .pointer (some a), .int .u64 150]]).run Tryd.prog w
  = .ok (.iface 151 (.agg #[.pointer (some ⟨4,115,none⟩)])) w:=by kernel_rfl
theorem as_methodKind (h : Value) (w : World) : (Go.method 308 151 (.agg #[h]) "Kind").run Tryd.prog w = .ok (94, h) w := by kernel_rfl
theorem as_kind27 (w:World):((ReflectliteType.abiMethod fun t => (fun a:Nat => Value.int IntKind.u8 (a:Int)) <$> Rtype.kind t) #[.pointer (some ⟨4,115,none⟩)]).run Tryd.prog w=.ok (.int .u8 22) w:=by kernel_rfl
theorem as_kind25 (w:World):((ReflectliteType.abiMethod fun t => (fun a:Nat => Value.int IntKind.u8 (a:Int)) <$> Rtype.kind t) #[.pointer (some ⟨4,110,none⟩)]).run Tryd.prog w=.ok (.int .u8 22) w:=by kernel_rfl
theorem rlm (z:Sem Value) (f:TypeId→Addr→Nat→Nat→Sem Value) (v:Value) :
  ReflectliteValue.method z f #[v]=(do match ← ReflectliteValue.parts v with|none => z|some (t,a,fl) => f t a fl (fl % 32)):=rfl
theorem as_parts27 (a:Addr) (w:World):(ReflectliteValue.parts (.agg #[.pointer (some ⟨4,115,none⟩),.pointer (some a),.int .u64 150])).run Tryd.prog w=.ok (some (115,a,150)) w:=by kernel_rfl
theorem as_isNil27 (a p:Addr) (W:World) (ha:W.cell? a=some (.pointer (some p))) :
  (ReflectliteValue.method (ReflectliteValue.valueError "reflectlite.Value.IsNil" 0) ReflectliteValue.isNil #[.agg #[.pointer (some ⟨4, 115, none⟩), .pointer (some a), .int .u64 150]]).run Tryd.prog W = .ok (.bool false) W := by
 rw [rlm]
 simp only [Sem.run_bind,as_parts27,Result.andThen]
 simp [ReflectliteValue.isNil,loadVar,isAgg,underlying,Tryd.underlying115,ha,Result.andThen]
theorem as_methodElem (h : Value) (w : World) : (Go.method 308 151 (.agg #[h]) "Elem").run Tryd.prog w = .ok (115, .agg #[h]) w := by kernel_rfl
theorem as_methodImplements (h : Value) (w : World) : (Go.method 308 151 (.agg #[h]) "Implements").run Tryd.prog w = .ok (116, .agg #[h]) w := by kernel_rfl
theorem as_methodAssignableTo (h : Value) (w : World) : (Go.method 308 151 (.agg #[h]) "AssignableTo").run Tryd.prog w = .ok (113, .agg #[h]) w := by kernel_rfl
theorem as_elem27 (w:World):(ReflectliteType.method ReflectliteType.elem #[.agg #[.pointer (some ⟨4,115,none⟩)]]).run Tryd.prog w=.ok (.iface 151 (.agg #[.pointer (some ⟨4,110,none⟩)])) w:=by kernel_rfl
theorem as_implements25 (w : World) : (ReflectliteType.relation "Implements" ReflectliteType.implements_ #[.agg #[.pointer (some ⟨4, 110, none⟩)], .iface 151 (.agg #[.pointer (some ⟨4, 113, none⟩)])]).run Tryd.prog w = .ok (.bool true) w := by kernel_rfl
theorem as_typeOf25 (v:Value) (w:World):(ReflectliteType.typeOf #[.iface 110 v]).run Tryd.prog w=.ok (.iface 151 (.agg #[.pointer (some ⟨4,110,none⟩)])) w:=by kernel_rfl
theorem as_assignable25 (w : World) : (ReflectliteType.relation "AssignableTo" ReflectliteType.assignableTo #[.agg #[.pointer (some ⟨4, 110, none⟩)], .iface 151 (.agg #[.pointer (some ⟨4, 110, none⟩)])]).run Tryd.prog w = .ok (.bool true) w := by kernel_rfl
theorem as_valueOf25 (e:Addr) (w:World):(ReflectliteValue.unpack (.iface 110 (.pointer (some e)))).run Tryd.prog w
  = .ok (.agg #[.pointer (some ⟨4,110,none⟩),.pointer (some ⟨w.heap.size,0,none⟩),.int .u64 150]) (w.alloc (.cells #[.pointer (some e)] 110)):=by kernel_rfl
theorem as_elemOf27 (w:World):(Rtype.elem? 115).run Tryd.prog w=.ok (some 110) w:=by kernel_rfl
theorem as_mk25 (p:Addr) (w:World):(ReflectliteValue.mk 110 p ReflectliteValue.flagAddr).run Tryd.prog w=.ok (.agg #[.pointer (some ⟨4,110,none⟩),.pointer (some p),.int .u64 406]) w:=by kernel_rfl
theorem as_elemV27 (a p:Addr) (W:World) (ha:W.cell? a=some (.pointer (some p))) :
  (ReflectliteValue.method (ReflectliteValue.valueError "reflectlite.Value.Elem" 0) ReflectliteValue.elem #[.agg #[.pointer (some ⟨4, 115, none⟩), .pointer (some a), .int .u64 150]]).run Tryd.prog W
   = .ok (.agg #[.pointer (some ⟨4,110,none⟩),.pointer (some p),.int .u64 406]) W:=by
 rw [rlm]
 simp only [Sem.run_bind,as_parts27,Result.andThen]
 simp [ReflectliteValue.elem,loadVar,isAgg,underlying,Tryd.underlying115,ha,Result.andThen,as_elemOf27,as_mk25]
theorem rls (v x:Value):ReflectliteValue.set #[v,x]=(do
  let (some (dst,a,fl),some (src,b,_)):=(← ReflectliteValue.parts v,← ReflectliteValue.parts x)
   | unsupported (.noEntry "extern/(internal/reflectlite.Value).Set.zeroValue")
  if fl / ReflectliteValue.flagAddr % 2 == 0 then unsupported (.noEntry "extern/(internal/reflectlite.Value).Set.unaddressable")
  let val ← loadVar src b
  if ← Rtype.directlyAssignable dst src then storeVar dst a val
  else if ← Rtype.implements dst src then
   if (← Rtype.kind src)==20 then
    match val with
    | .nilIface => unsupported (.noEntry "extern/reflectlite: a nil value of one interface type handed on as a value of another")
    | _ => storeVar dst a val
   else storeVar dst a (.iface src val)
  else panicString ("reflectlite.Set: value of type " ++ (← Rtype.spelt src) ++ " is not assignable to type " ++ (← Rtype.spelt dst))
  pure (.tuple #[])):=rfl
theorem as_parts25a (a:Addr) (w:World):(ReflectliteValue.parts (.agg #[.pointer (some ⟨4,110,none⟩),.pointer (some a),.int .u64 406])).run Tryd.prog w=.ok (some (110,a,406)) w:=by kernel_rfl
theorem as_parts25 (a:Addr) (w:World):(ReflectliteValue.parts (.agg #[.pointer (some ⟨4,110,none⟩),.pointer (some a),.int .u64 150])).run Tryd.prog w=.ok (some (110,a,150)) w:=by kernel_rfl
theorem as_direct25 (w:World):(Rtype.directlyAssignable 110 110).run Tryd.prog w=.ok true w:=by kernel_rfl
theorem as_set25 (ta b e:Addr) (old:Value) (W:World) (hb:W.cell? b=some (.pointer (some e))) (ht:W.cell? ta=some old) (hf:W.frozen? ta=false) :
  (ReflectliteValue.set #[.agg #[.pointer (some ⟨4,110,none⟩),.pointer (some ta),.int .u64 406],.agg #[.pointer (some ⟨4,110,none⟩),.pointer (some b),.int .u64 150]]).run Tryd.prog W
   = .ok (.tuple #[]) (W.setCell ta (.pointer (some e))):=by
 rw [rls]
 simp only [Sem.run_bind,as_parts25a,as_parts25,Result.andThen]
 simp [ReflectliteValue.flagAddr,loadVar,isAgg,underlying,Tryd.underlying110,hb,Result.andThen,as_direct25,storeVar,Value.cells,storeCells,Addr.add]
 rw [run_store Tryd.prog W ta _ _ (by rfl)]
 simp [ht,hf]
set_option maxHeartbeats 4000000 in
theorem as_hit (e t:Addr) (old:Value) (w:World) (hg:w.cell? ⟨0,0,none⟩=some (.iface 151 (.agg #[.pointer (some ⟨4,113,none⟩)]))) (ht0:w.cell? t=some old) (hf0:w.frozen? t=false) :
  Calls Tryd.prog 46 #[.iface 110 (.pointer (some e)),.iface 115 (.pointer (some t))] w fun ev w' => ev=.returned (.bool true)∧w'=((((w.alloc (.cells #[.pointer (some t)] 115)).alloc (.cells #[.pointer (some ⟨4,115,none⟩),.pointer (some ⟨w.heap.size,0,none⟩),.int .u64 150] 134)).alloc (.cells #[.pointer (some ⟨4,115,none⟩),.pointer (some ⟨w.heap.size,0,none⟩),.int .u64 150] 134)).alloc (.cells #[.pointer (some e)] 110)).setCell t (.pointer (some e)):=by
 have h6:=@run_callFunc_extern Tryd.prog 54 _ (fun args => ReflectliteValue.unpack (args.getD 0 (.tuple #[]))) Tryd.func54 (by kernel_rfl) (by kernel_rfl) (by kernel_rfl) (by kernel_rfl)
 have h7 := @run_callFunc_extern Tryd.prog 55 _ (ReflectliteValue.methodAny (ReflectliteValue.valueError "reflectlite.Value.Type" 0) (fun t _ _ _ => ReflectliteType.toType t)) Tryd.func55 (by kernel_rfl) (by kernel_rfl) (by kernel_rfl) (by kernel_rfl)
 have h8 := @run_callFunc_extern Tryd.prog 56 _ (ReflectliteValue.method (ReflectliteValue.valueError "reflectlite.Value.IsNil" 0) ReflectliteValue.isNil) Tryd.func56 (by kernel_rfl) (by kernel_rfl) (by kernel_rfl) (by kernel_rfl)
 have h27:=@run_callFunc_extern Tryd.prog 94 _ (ReflectliteType.abiMethod fun t => do pure (.int .u8 (← Rtype.kind t))) Tryd.func94 (by kernel_rfl) (by kernel_rfl) (by kernel_rfl) (by kernel_rfl)
 have h37:=@run_callFunc_extern Tryd.prog 115 _ (ReflectliteType.method ReflectliteType.elem) Tryd.func115 (by kernel_rfl) (by kernel_rfl) (by kernel_rfl) (by kernel_rfl)
 have h38 := @run_callFunc_extern Tryd.prog 116 _ (ReflectliteType.relation "Implements" ReflectliteType.implements_) Tryd.func116 (by kernel_rfl) (by kernel_rfl) (by kernel_rfl) (by kernel_rfl)
 have h10:=@run_callFunc_extern Tryd.prog 64 _ ReflectliteType.typeOf Tryd.func64 (by kernel_rfl) (by kernel_rfl) (by kernel_rfl) (by kernel_rfl)
 have h35 := @run_callFunc_extern Tryd.prog 113 _ (ReflectliteType.relation "AssignableTo" ReflectliteType.assignableTo) Tryd.func113 (by kernel_rfl) (by kernel_rfl) (by kernel_rfl) (by kernel_rfl)
 have h11 := @run_callFunc_extern Tryd.prog 65 _ (ReflectliteValue.method (ReflectliteValue.valueError "reflectlite.Value.Elem" 0) ReflectliteValue.elem) Tryd.func65 (by kernel_rfl) (by kernel_rfl) (by kernel_rfl) (by kernel_rfl)
 have h12:=@run_callFunc_extern Tryd.prog 66 _ ReflectliteValue.set Tryd.func66 (by kernel_rfl) (by kernel_rfl) (by kernel_rfl) (by kernel_rfl)
 have tO:=as_typeOf25
 have mA:=as_methodAssignableTo
 have a25:=as_assignable25
 have v25:=as_valueOf25
 have f6:=as_valueOf27
 have f7:=as_type27
 have mK:=as_methodKind
 have mE:=as_methodElem
 have mI:=as_methodImplements
 have k27:=as_kind27
 have k25:=as_kind25
 have e27:=as_elem27
 have i25:=as_implements25
 have n8:=as_isNil27 ⟨w.heap.size,0,none⟩ t ((w.alloc (.cells #[.pointer (some t)] 115)).alloc (.cells #[.pointer (some ⟨4,115,none⟩),.pointer (some ⟨w.heap.size,0,none⟩),.int .u64 150] 134)) (by simp)
 have hlt:0 < w.heap.size:=by
  rcases Nat.lt_or_ge 0 w.heap.size with h|h
  ·exact h
  ·simp [World.cell?,Array.getElem?_eq_none h] at hg
 have hg2:((w.alloc (.cells #[.pointer (some t)] 115)).alloc (.cells #[.pointer (some ⟨4,115,none⟩),.pointer (some ⟨w.heap.size,0,none⟩),.int .u64 150] 134)).cell? ⟨0,0,none⟩=some (.iface 151 (.agg #[.pointer (some ⟨4,113,none⟩)])):=by
  rw [World.cell?_alloc_lt _ _ ⟨0,0,none⟩ (by simp <;> omega),World.cell?_alloc_lt _ _ ⟨0,0,none⟩ hlt];exact hg
 have htl:t.block < w.heap.size:=by
  rcases Nat.lt_or_ge t.block w.heap.size with h|h
  ·exact h
  ·simp [World.cell?,Array.getElem?_eq_none h] at ht0
 have el:=as_elemV27 ⟨w.heap.size,0,none⟩ t (((w.alloc (.cells #[.pointer (some t)] 115)).alloc (.cells #[.pointer (some ⟨4,115,none⟩),.pointer (some ⟨w.heap.size,0,none⟩),.int .u64 150] 134)).alloc (.cells #[.pointer (some ⟨4,115,none⟩),.pointer (some ⟨w.heap.size,0,none⟩),.int .u64 150] 134)) (by rw [World.cell?_alloc_lt _ _ ⟨w.heap.size,0,none⟩ (by simp <;> omega)];simp)
 have st:=as_set25 t ⟨w.heap.size + 1 + 1 + 1,0,none⟩ e old ((((w.alloc (.cells #[.pointer (some t)] 115)).alloc (.cells #[.pointer (some ⟨4,115,none⟩),.pointer (some ⟨w.heap.size,0,none⟩),.int .u64 150] 134)).alloc (.cells #[.pointer (some ⟨4,115,none⟩),.pointer (some ⟨w.heap.size,0,none⟩),.int .u64 150] 134)).alloc (.cells #[.pointer (some e)] 110))
  (by rw [World.cell?_alloc_at _ _ _ _ (by simp)];rfl)
  (by rw [World.cell?_alloc_lt _ _ t (by simp <;> omega),World.cell?_alloc_lt _ _ t (by simp <;> omega),World.cell?_alloc_lt _ _ t (by simp <;> omega),World.cell?_alloc_lt _ _ t htl];exact ht0)
  (by rw [World.frozen?_alloc_old _ _ t (by simp <;> omega),World.frozen?_alloc_old _ _ t (by simp <;> omega),World.frozen?_alloc_old _ _ t (by simp <;> omega),World.frozen?_alloc_old _ _ t (Nat.ne_of_lt htl)];exact hf0)
 go_enter Tryd.func46,Tryd.ntmps46
 go_wp2
 refine wp_loop_rounds 1 ?_
 rw [rounds_succ]
 go_wp2
 go_ret
 exact ⟨rfl,rfl⟩
end Go.Proofs.YtoonhpcjcimecaaDoor.Px
