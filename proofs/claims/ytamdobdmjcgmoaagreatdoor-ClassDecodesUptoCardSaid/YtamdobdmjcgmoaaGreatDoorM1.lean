/- What the bound on bulk gives. -/
/- What the package-level variables hold, as a fact of the world that stays as the world grows: unicode/utf8's tables; errors.errorType, the handle of 'error'. -/
/- Small laws for the rows: what the bound on bulk gives; a slice of whole numbers, as the walks want it; what the listed tables and errors.errorType give. -/
/- What a type's reading as data gives of a value: a value of the printed kinds, well formed, no bulkier than the datum. -/
/- errors.As at the target that pool.Check hands it: the worked example toyas, turned to this program. -/
/- text.Encode: what the Go function computes, as a Lean function, and the walk of it; utf8.ValidString by the shelf's contract, text.split and text.unit by the printed contracts. -/
/- pool.check, pool.Check: what they compute, as Lean functions, and the walks; errors.As by the worked example's contracts. -/
/- Words for wire's readers and writers. -/
/- The words of a class: its members, the names of its attributes (in place of class.Encode's text, where that is not reached). -/
/- understudylaw05.same, of classes that are alike: true. -/
/- understudyref01.Reader: Bytes and Int, walked by hand (Uint is printed). -/
import Derived.Test.YtamdobdmjcgmoaaGreatDoorRows
import Derived.Test.YtamdobdmjcgmoaaGreatDoorProg
import Derived.Below
import Derived.Deep.Draws
import Derived.Deep.AppendLies
import Derived.Maps.AppendAt
import Derived.OwnWalk
import Derived.Laws.BytesArg
import Derived.Laws.MakeOwn
import Derived.Laws.OwnMore
import Derived.Deep.OwnRows
import Derived.Tactics
import Derived.Lib.ConvBytes
import Derived.Laws.Slices
import Derived.WalkKit
import Derived.KernelRfl
import Derived.RowKit3
import Derived.Deep.LoopGhost
import Derived.Deep.QuietTactic
import Derived.BigQuiet
import Derived.WideLaws
import Derived.Deep.DeepCutAuto
import Derived.Deep.CutBlock
import Derived.Deep.RegionHeld3
import Derived.Laws.Rows
import Derived.Lib.AppendStr
import Derived.ArgAppend
import Derived.Laws.IdiomCopy
import Derived.OrdersHeld
import Derived.Laws.BitsLemmas
import Derived.RowKit
import Derived.Test.YtamdobdmjcgmoaaGreatDoorWWords
import Derived.Test.YtamdobdmjcgmoaaGreatDoorWLast
import Derived.Test.YtamdobdmjcgmoaaGreatDoorWTab
import Derived.Test.YtamdobdmjcgmoaaGreatDoorWFour
import Derived.Test.YtamdobdmjcgmoaaGreatDoorWQPut
import Derived.Test.YtamdobdmjcgmoaaGreatDoorWApart
import Derived.Test.YtamdobdmjcgmoaaGreatDoorWArr
import Derived.Test.YtamdobdmjcgmoaaGreatDoorWZeros
import Derived.Test.YtamdobdmjcgmoaaGreatDoorWFoot
import Derived.Test.YtamdobdmjcgmoaaGreatDoorWKept
import Derived.Test.YtamdobdmjcgmoaaGreatDoorWShare
import Derived.Test.YtamdobdmjcgmoaaGreatDoorWN
import Derived.Test.YtamdobdmjcgmoaaGreatDoorWFootNe
import Derived.Test.YtamdobdmjcgmoaaGreatDoorWAt
import Derived.Test.YtamdobdmjcgmoaaGreatDoorWEqStruct
import Derived.Test.YtamdobdmjcgmoaaGreatDoorWRepsOne
import Derived.Test.YtamdobdmjcgmoaaGreatDoorWInv
import Derived.Test.YtamdobdmjcgmoaaGreatDoorWInvWords
import Derived.Test.YtamdobdmjcgmoaaGreatDoorWGuard
import Derived.Test.YtamdobdmjcgmoaaGreatDoorWNEv
import Derived.Test.YtamdobdmjcgmoaaGreatDoorWMore
import Derived.Test.YtamdobdmjcgmoaaGreatDoorShelf
import Derived.Shelf.Unicode.DecodeSlow
import Derived.Lib.ValidU
import Derived.Test.YtamdobdmjcgmoaaGreatDoorWSized
import Derived.ProofKit
import Derived.OpenShut
import Derived.ShutString
import Derived.Lib.LaidU8T
import Derived.Lib.LaidIn
import Derived.PinnedBridge
import Derived.MakeChecks
import Derived.LaidSub
import Derived.LaidHandle
import Derived.ChangeArms
import Derived.ChangeOld
import Derived.LaidEql
import Derived.Stop.Asserts
import Derived.RowKitTokens
import Derived.Lib.OthersKept
import Derived.BigCall
import Derived.Shelf.Unicode.ValidAny
namespace Go.Proofs.YtamdobdmjcgmoaaGreatDoor.Px
set_option linter.unusedVariables false
theorem bulk_one {H : Type} (d : DataW H) : 1 ≤ Rows.uptoBulk d := by
  cases d with
  | lit l => cases l <;> simp [Rows.uptoBulk]
  | nil => simp [Rows.uptoBulk]
  | ptr d => simp [Rows.uptoBulk]
  | slice elems spare => simp [Rows.uptoBulk]
  | agg parts => simp [Rows.uptoBulk]
  | iface t d => simp [Rows.uptoBulk]
  | map entries => simp [Rows.uptoBulk]
  | held h => simp [Rows.uptoBulk]
theorem bulk_part_le {H : Type} {d : DataW H} {l : List (DataW H)} (h : d ∈ l) : Rows.uptoBulk d ≤ Rows.uptoBulkAll l := by
  induction l with
  | nil => cases h
  | cons x r ih =>
    simp only [Rows.uptoBulkAll]
    rcases List.mem_cons.1 h with e | e
    · subst e; omega
    have := ih e; omega
theorem bulk_length {H : Type} (l : List (DataW H)) : l.length ≤ Rows.uptoBulkAll l := by
  induction l with
  | nil => simp [Rows.uptoBulkAll]
  | cons x r ih => have := bulk_one x; simp only [Rows.uptoBulkAll, List.length_cons]; omega
theorem bulk_part {H : Type} {ds gs : List (DataW H)} {d : DataW H} (hk : Rows.uptoSmall H (ds ++ gs) = true) (hm : d ∈ ds) : Rows.uptoBulk d ≤ 1048576 := by
  have h : Rows.uptoBulkAll (ds ++ gs) ≤ 1048576 := of_decide_eq_true hk
  exact Nat.le_trans (bulk_part_le (List.mem_append_left _ hm)) h
end Go.Proofs.YtamdobdmjcgmoaaGreatDoor.Px
namespace Go.Proofs.YtamdobdmjcgmoaaGreatDoor.Px
open Go.RowKit Go.Proofs.YtamdobdmjcgmoaaGreatDoorW.PrintWords Go.Proofs.YtamdobdmjcgmoaaGreatDoorW.PrintLast Go.Proofs.YtamdobdmjcgmoaaGreatDoorW.PrintMore
attribute [local go_sem] max2_int min2_int max_two min_two max_three min_three max_four min_four
set_option linter.unusedVariables false
set_option linter.unusedSimpArgs false
def errW:Option Int→Value
 | none => .nilIface
 | some c => .iface 0 (.int .i64 c)
theorem errW_none:errW none=.nilIface:=rfl
theorem errW_some (c:Int):errW (some c)=.iface 0 (.int .i64 c):=rfl
theorem info5:(Tryz.prog.info? 5).map (fun i => (i.zero,i.size,i.bytes))=some (some (.int .u8 0),1,1):=by kernel_rfl
theorem info54:(Tryz.prog.info? 54).map (fun i => (i.zero,i.size,i.bytes))=some (some (.agg #[(.int .i64 0),(.int .i64 0),(.int .i64 0)]),3,24):=by kernel_rfl
theorem info57:(Tryz.prog.info? 57).map (fun i => (i.zero,i.size,i.bytes))=some (some (.agg #[(.int .i64 0),(.int .i64 0),(.int .i64 0),(.int .i64 0),(.int .i64 0),(.slice none 0 0),(.slice none 0 0),(.slice none 0 0)]),8,112):=by kernel_rfl
theorem info61:(Tryz.prog.info? 61).map (fun i => (i.zero,i.size,i.bytes))=some (some (.agg #[(.int .i64 0),(.string ⟨#[]⟩),(.int .i64 0),(.int .i64 0),(.int .i64 0)]),5,48):=by kernel_rfl
structure S61 where
 f0:Int
 f1:ByteArray
 f2:Int
 f3:Int
 f4:Int
def z61:S61:=⟨(0:Int),(⟨#[]⟩:ByteArray),(0:Int),(0:Int),(0:Int)⟩
def k61:Kd S61:=Kd.iso (Kd.pair (Kd.int .i64) (Kd.pair Kd.string (Kd.pair (Kd.int .i64) (Kd.pair (Kd.int .i64) (Kd.int .i64))))) (fun x:S61 => (x.f0,x.f1,x.f2,x.f3,x.f4))
theorem k61_open {w:World} {x:S61} {cs:List Value} (h:k61.K w x cs):cs=[.int .i64 x.f0,.string x.f1,.int .i64 x.f2,.int .i64 x.f3,.int .i64 x.f4]:=by
 obtain ⟨_,_,rfl,rfl,⟨_,_,rfl,rfl,⟨_,_,rfl,rfl,⟨_,_,rfl,rfl,rfl⟩⟩⟩⟩:=h
 exact rfl
theorem k61_mkM (w:World) (base:Nat) (ok:Nat→Prop) (x:S61) :k61.M w base ok x [.int .i64 x.f0,.string x.f1,.int .i64 x.f2,.int .i64 x.f3,.int .i64 x.f4]:=⟨[.int .i64 x.f0],[.string x.f1,.int .i64 x.f2,.int .i64 x.f3,.int .i64 x.f4],rfl,rfl,⟨[.string x.f1],[.int .i64 x.f2,.int .i64 x.f3,.int .i64 x.f4],rfl,rfl,⟨[.int .i64 x.f2],[.int .i64 x.f3,.int .i64 x.f4],rfl,rfl,⟨[.int .i64 x.f3],[.int .i64 x.f4],rfl,rfl,rfl⟩⟩⟩⟩
def rd_T61 (xs:List S61) (i:Int):S61:=xs.getD i.toNat z61
theorem at_T61 {w:World} {A:Option Addr} {n:Nat} {xs:List S61} (h:Kd.C k61 w A n xs) (i:Int) (h0:0≤i) (h1:i < n):∃ ad ,A=some ad∧w.cell? (ad.add (i.toNat * 5))=some (.int .i64 (rd_T61 xs i).f0)∧w.cell? ⟨(ad.add (i.toNat * 5)).block,(ad.add (i.toNat * 5)).off + 1,none⟩=some (.string (rd_T61 xs i).f1)∧w.cell? ⟨(ad.add (i.toNat * 5)).block,(ad.add (i.toNat * 5)).off + 2,none⟩=some (.int .i64 (rd_T61 xs i).f2)∧w.cell? ⟨(ad.add (i.toNat * 5)).block,(ad.add (i.toNat * 5)).off + 3,none⟩=some (.int .i64 (rd_T61 xs i).f3)∧w.cell? ⟨(ad.add (i.toNat * 5)).block,(ad.add (i.toNat * 5)).off + 4,none⟩=some (.int .i64 (rd_T61 xs i).f4):=by
 obtain ⟨ad,c,e,_,hK,hc0⟩:=Kd.C_get h z61 i h0 h1
 have hc:∀ j u,c[j]?=some u→w.cell? (ad.add (i.toNat * 5 + j))=some u:=hc0
 obtain rfl:=k61_open hK
 exact ⟨ad,e,hc 0 _ rfl,by rw [← add_field _ _ 1 (by omega)];exact hc 1 _ rfl,by rw [← add_field _ _ 2 (by omega)];exact hc 2 _ rfl,by rw [← add_field _ _ 3 (by omega)];exact hc 3 _ rfl,by rw [← add_field _ _ 4 (by omega)];exact hc 4 _ rfl⟩
structure S63 where
 f0:Int
 f1:Int
 f2:Int
 f3:Int
def z63:S63:=⟨(0:Int),(0:Int),(0:Int),(0:Int)⟩
def k63:Kd S63:=Kd.iso (Kd.pair (Kd.int .i64) (Kd.pair (Kd.int .i64) (Kd.pair (Kd.int .i64) (Kd.int .i64)))) (fun x:S63 => (x.f0,x.f1,x.f2,x.f3))
theorem k63_open {w:World} {x:S63} {cs:List Value} (h:k63.K w x cs):cs=[.int .i64 x.f0,.int .i64 x.f1,.int .i64 x.f2,.int .i64 x.f3]:=by
 obtain ⟨_,_,rfl,rfl,⟨_,_,rfl,rfl,⟨_,_,rfl,rfl,rfl⟩⟩⟩:=h
 exact rfl
theorem k63_mkM (w:World) (base:Nat) (ok:Nat→Prop) (x:S63) :k63.M w base ok x [.int .i64 x.f0,.int .i64 x.f1,.int .i64 x.f2,.int .i64 x.f3]:=⟨[.int .i64 x.f0],[.int .i64 x.f1,.int .i64 x.f2,.int .i64 x.f3],rfl,rfl,⟨[.int .i64 x.f1],[.int .i64 x.f2,.int .i64 x.f3],rfl,rfl,⟨[.int .i64 x.f2],[.int .i64 x.f3],rfl,rfl,rfl⟩⟩⟩
def rd_T63 (xs:List S63) (i:Int):S63:=xs.getD i.toNat z63
theorem at_T63 {w:World} {A:Option Addr} {n:Nat} {xs:List S63} (h:Kd.C k63 w A n xs) (i:Int) (h0:0≤i) (h1:i < n):∃ ad ,A=some ad∧w.cell? (ad.add (i.toNat * 4))=some (.int .i64 (rd_T63 xs i).f0)∧w.cell? ⟨(ad.add (i.toNat * 4)).block,(ad.add (i.toNat * 4)).off + 1,none⟩=some (.int .i64 (rd_T63 xs i).f1)∧w.cell? ⟨(ad.add (i.toNat * 4)).block,(ad.add (i.toNat * 4)).off + 2,none⟩=some (.int .i64 (rd_T63 xs i).f2)∧w.cell? ⟨(ad.add (i.toNat * 4)).block,(ad.add (i.toNat * 4)).off + 3,none⟩=some (.int .i64 (rd_T63 xs i).f3):=by
 obtain ⟨ad,c,e,_,hK,hc0⟩:=Kd.C_get h z63 i h0 h1
 have hc:∀ j u,c[j]?=some u→w.cell? (ad.add (i.toNat * 4 + j))=some u:=hc0
 obtain rfl:=k63_open hK
 exact ⟨ad,e,hc 0 _ rfl,by rw [← add_field _ _ 1 (by omega)];exact hc 1 _ rfl,by rw [← add_field _ _ 2 (by omega)];exact hc 2 _ rfl,by rw [← add_field _ _ 3 (by omega)];exact hc 3 _ rfl⟩
structure S57 where
 f0:Int
 f1:Int
 f2:Int
 f3:Int
 f4:Int
 f5:(List Int)
 f6:(List S63)
 f7:(List Int)
def z57:S57:=⟨(0:Int),(0:Int),(0:Int),(0:Int),(0:Int),([]:List Int),([]:List S63),([]:List Int)⟩
def k57:Kd S57:=Kd.iso (Kd.pair (Kd.int .i64) (Kd.pair (Kd.int .i64) (Kd.pair (Kd.int .i64) (Kd.pair (Kd.int .i64) (Kd.pair (Kd.int .i64) (Kd.pair (Kd.slice 5 (Kd.int .u8)) (Kd.pair (Kd.slice 63 k63) (Kd.slice 5 (Kd.int .u8))))))))) (fun x:S57 => (x.f0,x.f1,x.f2,x.f3,x.f4,x.f5,x.f6,x.f7))
theorem k57_open {w:World} {x:S57} {cs:List Value} (h:k57.K w x cs):∃ A5 c5 A6 c6 A7 c7,cs=[.int .i64 x.f0,.int .i64 x.f1,.int .i64 x.f2,.int .i64 x.f3,.int .i64 x.f4,.slice A5 x.f5.length c5,.slice A6 x.f6.length c6,.slice A7 x.f7.length c7]∧x.f5.length≤c5∧(Kd.int .u8).C w A5 x.f5.length x.f5∧x.f6.length≤c6∧k63.C w A6 x.f6.length x.f6∧x.f7.length≤c7∧(Kd.int .u8).C w A7 x.f7.length x.f7:=by
 obtain ⟨_,_,rfl,rfl,⟨_,_,rfl,rfl,⟨_,_,rfl,rfl,⟨_,_,rfl,rfl,⟨_,_,rfl,rfl,⟨_,_,rfl,⟨A5,c5,rfl,l5,g5⟩,⟨_,_,rfl,⟨A6,c6,rfl,l6,g6⟩,⟨A7,c7,rfl,l7,g7⟩⟩⟩⟩⟩⟩⟩⟩:=h
 exact ⟨A5,c5,A6,c6,A7,c7,rfl,l5,g5,l6,g6,l7,g7⟩
theorem k57_mkM (w:World) (base:Nat) (ok:Nat→Prop) (x:S57) {v5:Value} (g5:(Kd.int .u8).R 5 w base ok v5 x.f5) {v6:Value} (g6:k63.R 63 w base ok v6 x.f6) {v7:Value} (g7:(Kd.int .u8).R 5 w base ok v7 x.f7):k57.M w base ok x [.int .i64 x.f0,.int .i64 x.f1,.int .i64 x.f2,.int .i64 x.f3,.int .i64 x.f4,v5,v6,v7]:=⟨[.int .i64 x.f0],[.int .i64 x.f1,.int .i64 x.f2,.int .i64 x.f3,.int .i64 x.f4,v5,v6,v7],rfl,rfl,⟨[.int .i64 x.f1],[.int .i64 x.f2,.int .i64 x.f3,.int .i64 x.f4,v5,v6,v7],rfl,rfl,⟨[.int .i64 x.f2],[.int .i64 x.f3,.int .i64 x.f4,v5,v6,v7],rfl,rfl,⟨[.int .i64 x.f3],[.int .i64 x.f4,v5,v6,v7],rfl,rfl,⟨[.int .i64 x.f4],[v5,v6,v7],rfl,rfl,⟨[v5],[v6,v7],rfl,⟨v5,rfl,g5⟩,⟨[v6],[v7],rfl,⟨v6,rfl,g6⟩,⟨v7,rfl,g7⟩⟩⟩⟩⟩⟩⟩⟩
def rd_T57 (xs:List S57) (i:Int):S57:=xs.getD i.toNat z57
theorem at_T57 {w:World} {A:Option Addr} {n:Nat} {xs:List S57} (h:Kd.C k57 w A n xs) (i:Int) (h0:0≤i) (h1:i < n):∃ ad A5 c5 A6 c6 A7 c7,A=some ad∧w.cell? (ad.add (i.toNat * 8))=some (.int .i64 (rd_T57 xs i).f0)∧w.cell? ⟨(ad.add (i.toNat * 8)).block,(ad.add (i.toNat * 8)).off + 1,none⟩=some (.int .i64 (rd_T57 xs i).f1)∧w.cell? ⟨(ad.add (i.toNat * 8)).block,(ad.add (i.toNat * 8)).off + 2,none⟩=some (.int .i64 (rd_T57 xs i).f2)∧w.cell? ⟨(ad.add (i.toNat * 8)).block,(ad.add (i.toNat * 8)).off + 3,none⟩=some (.int .i64 (rd_T57 xs i).f3)∧w.cell? ⟨(ad.add (i.toNat * 8)).block,(ad.add (i.toNat * 8)).off + 4,none⟩=some (.int .i64 (rd_T57 xs i).f4)∧w.cell? ⟨(ad.add (i.toNat * 8)).block,(ad.add (i.toNat * 8)).off + 5,none⟩=some (.slice A5 (rd_T57 xs i).f5.length c5)∧w.cell? ⟨(ad.add (i.toNat * 8)).block,(ad.add (i.toNat * 8)).off + 6,none⟩=some (.slice A6 (rd_T57 xs i).f6.length c6)∧w.cell? ⟨(ad.add (i.toNat * 8)).block,(ad.add (i.toNat * 8)).off + 7,none⟩=some (.slice A7 (rd_T57 xs i).f7.length c7)∧(rd_T57 xs i).f5.length≤c5∧(Kd.int .u8).C w A5 (rd_T57 xs i).f5.length (rd_T57 xs i).f5∧(rd_T57 xs i).f6.length≤c6∧k63.C w A6 (rd_T57 xs i).f6.length (rd_T57 xs i).f6∧(rd_T57 xs i).f7.length≤c7∧(Kd.int .u8).C w A7 (rd_T57 xs i).f7.length (rd_T57 xs i).f7:=by
 obtain ⟨ad,c,e,_,hK,hc0⟩:=Kd.C_get h z57 i h0 h1
 have hc:∀ j u,c[j]?=some u→w.cell? (ad.add (i.toNat * 8 + j))=some u:=hc0
 obtain ⟨A5,c5,A6,c6,A7,c7,rfl,l5,g5,l6,g6,l7,g7⟩:=k57_open hK
 exact ⟨ad,A5,c5,A6,c6,A7,c7,e,hc 0 _ rfl,by rw [← add_field _ _ 1 (by omega)];exact hc 1 _ rfl,by rw [← add_field _ _ 2 (by omega)];exact hc 2 _ rfl,by rw [← add_field _ _ 3 (by omega)];exact hc 3 _ rfl,by rw [← add_field _ _ 4 (by omega)];exact hc 4 _ rfl,by rw [← add_field _ _ 5 (by omega)];exact hc 5 _ rfl,by rw [← add_field _ _ 6 (by omega)];exact hc 6 _ rfl,by rw [← add_field _ _ 7 (by omega)];exact hc 7 _ rfl,l5,g5,l6,g6,l7,g7⟩
structure S54 where
 f0:Int
 f1:Int
 f2:Int
def z54:S54:=⟨(0:Int),(0:Int),(0:Int)⟩
def k54:Kd S54:=Kd.iso (Kd.pair (Kd.int .i64) (Kd.pair (Kd.int .i64) (Kd.int .i64))) (fun x:S54 => (x.f0,x.f1,x.f2))
theorem k54_open {w:World} {x:S54} {cs:List Value} (h:k54.K w x cs):cs=[.int .i64 x.f0,.int .i64 x.f1,.int .i64 x.f2]:=by
 obtain ⟨_,_,rfl,rfl,⟨_,_,rfl,rfl,rfl⟩⟩:=h
 exact rfl
theorem k54_mkM (w:World) (base:Nat) (ok:Nat→Prop) (x:S54) :k54.M w base ok x [.int .i64 x.f0,.int .i64 x.f1,.int .i64 x.f2]:=⟨[.int .i64 x.f0],[.int .i64 x.f1,.int .i64 x.f2],rfl,rfl,⟨[.int .i64 x.f1],[.int .i64 x.f2],rfl,rfl,rfl⟩⟩
def rd_T54 (xs:List S54) (i:Int):S54:=xs.getD i.toNat z54
theorem at_T54 {w:World} {A:Option Addr} {n:Nat} {xs:List S54} (h:Kd.C k54 w A n xs) (i:Int) (h0:0≤i) (h1:i < n):∃ ad ,A=some ad∧w.cell? (ad.add (i.toNat * 3))=some (.int .i64 (rd_T54 xs i).f0)∧w.cell? ⟨(ad.add (i.toNat * 3)).block,(ad.add (i.toNat * 3)).off + 1,none⟩=some (.int .i64 (rd_T54 xs i).f1)∧w.cell? ⟨(ad.add (i.toNat * 3)).block,(ad.add (i.toNat * 3)).off + 2,none⟩=some (.int .i64 (rd_T54 xs i).f2):=by
 obtain ⟨ad,c,e,_,hK,hc0⟩:=Kd.C_get h z54 i h0 h1
 have hc:∀ j u,c[j]?=some u→w.cell? (ad.add (i.toNat * 3 + j))=some u:=hc0
 obtain rfl:=k54_open hK
 exact ⟨ad,e,hc 0 _ rfl,by rw [← add_field _ _ 1 (by omega)];exact hc 1 _ rfl,by rw [← add_field _ _ 2 (by omega)];exact hc 2 _ rfl⟩
structure S27 where
 f0:(List S61)
 f1:Int
 f2:Int
 f3:(List S54)
 f4:(List S57)
def k27:Kd S27:=Kd.iso (Kd.pair (Kd.slice 61 k61) (Kd.pair (Kd.int .i64) (Kd.pair (Kd.int .i64) (Kd.pair (Kd.slice 54 k54) (Kd.slice 57 k57))))) (fun x:S27 => (x.f0,x.f1,x.f2,x.f3,x.f4))
theorem bl_ {w W:World} (h:Below w.heap.size w W:=by repeat (first|(with_reducible first|(refine Aside0.out ?_;assumption)|apply below_alloc|apply pw_below_drewN|apply below_drew1|refine below_set ?_ (Aside0.out (by assumption)))|(refine Aside0.out ?_;assumption))):Below w.heap.size w W:=h
theorem bk_ {w:World} {g:Nat} {o:Obj} (h:w.heap[g]?=some o:=by (repeat (first|(with_reducible (refine Aside0.out ?_;assumption))|(with_reducible refine blk_drewN ?_ _)|(with_reducible refine blk_drew ?_)|(with_reducible refine blk_alloc ?_ _)|refine blk_far ?_ (Aside0.out (by assumption)) _))):w.heap[g]?=some o:=h
theorem kr_ {p q:Prop} (h0:p) (h:p→q:=by (intro h_;(with_reducible repeat (first|apply Kd.R_alloc|apply Kd.R_drewN|apply Kd.R_drew|apply Kd.S_alloc|apply Kd.S_drewN|apply Kd.S_drew));exact h_)):q:=h h0
theorem kc_ {p q:Prop} (h0:p) (h:p→q:=by (intro h_;repeat (first|exact h_|(with_reducible refine Kd.C_alloc ?_ _)|(with_reducible refine Kd.C_drewN ?_ _)|(with_reducible refine Kd.C_drew ?_)))):q:=h h0
theorem od_ {p:Prop} [Decidable p] (h:decide p=true:=by first|(with_reducible assumption)|assumption):p:=of_decide_eq_true h
theorem hb_ {w W:World} {q:Addr} {v:Value} (h:Aside0 (Below w.heap.size w W)) (hx:w.cell? q=some v):W.cell? q=some v:=(h.out.cell (World.block_lt_of_cell? w _ hx)).trans hx
theorem ew_ {p:Prop} (h:p:=by first|rfl|(simp [errW_none,errW_some] <;> rfl)|(simp [*,errW_none,errW_some] <;> rfl)):p:=h
theorem r3_ {p:Prop} (h:p:=by first|rfl|(simp;done)|(simp [*];done)):p:=h
theorem pr_ {P:Program} {ops:Array Oper} {Q:Exit→Act→World→Prop} {md:Region.Mode} {S:World→Prop} {ds:List Nat} (i:Nat) (N:Option Tmp) {oi:Oper} {v:Value} {fuel:Nat} {l:Array Bool} {a a':Act} {w:World} (h:wpAnyLast P md ops Q S ds fuel (l.setIfInBounds i true) a' w) (hi:ops[i]?=some oi:=by exact rfl) (hN:oi.dst=N:=by exact rfl) (hc:anyB md ops l (l.setIfInBounds i true) i=true:=by kernel_rfl)
  (hQ:∀ c a w,Q (.panic c) (a.put oi.dst v) w→Q (.panic c) a w:=by exact fun _ _ _ h => h) (hy:Yields P ops oi v a:=by (refine Or.inl ⟨by rfl,?_⟩;intro w';go_simp;with_reducible rfl)) (ha:a.put N v=a':=by (simp only [Act.put,List.setIfInBounds_toArray,List.set_cons_zero,List.set_cons_succ,i64_w,i32_w];rfl)):wpAnyLast P md ops Q S ds (fuel + 1) l a w:=pure_ _ hi hN hc hQ hy ha h
theorem tk_ {P:Program} {ops:Array Oper} {Q:Exit→Act→World→Prop} {md:Region.Mode} {S:World→Prop} {ds:List Nat} (i:Nat) (N:Option Tmp) {oi:Oper} {v:Value} {fuel:Nat} {l:Array Bool} {a a':Act} {w:World} (hS:S w) (h:wpAnyLast P md ops Q S ds fuel (l.setIfInBounds i true) a' w) (hi:ops[i]?=some oi:=by exact rfl) (hN:oi.dst=N:=by exact rfl) (hc:takeB md ops ds l (l.setIfInBounds i true) i=true:=by kernel_rfl)
  (hQ:∀ c a w,Q (.panic c) (a.put oi.dst v) w→Q (.panic c) a w:=by exact fun _ _ _ h => h) (hw:Region.wanted oi (yielded ops a.tmps)=true:=by rfl) (hy:∀ w',S w'→(execOp a.eval oi).run P w'=.ok (.value v) w') (ha:a.put N v=a':=by (simp only [Act.put,List.setIfInBounds_toArray,List.set_cons_zero,List.set_cons_succ,i64_w,i32_w];rfl)):wpAnyLast P md ops Q S ds (fuel + 1) l a w:=take_ _ hi hN hc hQ (Or.inl ⟨hw,hy⟩) hS ha h
theorem callA_ {P:Program} {ops:Array Oper} {Q:Exit→Act→World→Prop} {rest:List Oper} {oi:Oper} {a:Act} {w:World} {f:FuncId} {fn:Func} {ars:Array Operand} {ts:Array TypeId} (N:Option Tmp) (hf:P.funcs[f]?=some fn) (args:Array Value)
  (h:Calls P f args w fun e w' => ∃ v,e=.returned v∧wpList P ops Q rest (a.put N v) w') (hop:oi.op=.call { callee:=.value (.func f),args:=ars,argTypes:=ts }:=by with_reducible rfl) (hd:oi.dst=N:=by rfl) (hg:oi.guard=none:=by rfl)
  (hname : (fn.name == "runtime.NumGoroutine") = false := by kernel_rfl) (hb : fn.body.isSome = true := by rfl) (hargs : ars.map a.eval = args := by (try simp only [List.map_toArray, List.map_cons, List.map_nil]); first | done | rfl | (simp only [List.length_drop, List.length_take]; rfl)) : wpList P ops Q (oi :: rest) a w :=
 goesL_ N hd hg hf hname hb args hop hargs h
theorem blk3_ {w:World} {g t:Nat} {v0 v1 v2:Value} (h:w.heap[g]?=some (.cells #[v0,v1,v2] t (0,0))):w.cell? ⟨g,0,none⟩=some v0∧w.cell? ⟨g,1,none⟩=some v1∧w.cell? ⟨g,2,none⟩=some v2∧w.frozen? ⟨g,0,none⟩=false∧w.frozen? ⟨g,1,none⟩=false∧w.frozen? ⟨g,2,none⟩=false :=
 ⟨(blk_cell h 0).trans rfl,(blk_cell h 1).trans rfl,(blk_cell h 2).trans rfl,blk_frozen h 0,blk_frozen h 1,blk_frozen h 2⟩
theorem blk4_ {w:World} {g t:Nat} {v0 v1 v2 v3:Value} (h:w.heap[g]?=some (.cells #[v0,v1,v2,v3] t (0,0))):w.cell? ⟨g,0,none⟩=some v0∧w.cell? ⟨g,1,none⟩=some v1∧w.cell? ⟨g,2,none⟩=some v2∧w.cell? ⟨g,3,none⟩=some v3∧w.frozen? ⟨g,0,none⟩=false∧w.frozen? ⟨g,1,none⟩=false∧w.frozen? ⟨g,2,none⟩=false∧w.frozen? ⟨g,3,none⟩=false :=
 ⟨(blk_cell h 0).trans rfl,(blk_cell h 1).trans rfl,(blk_cell h 2).trans rfl,(blk_cell h 3).trans rfl,blk_frozen h 0,blk_frozen h 1,blk_frozen h 2,blk_frozen h 3⟩
theorem blk5_ {w:World} {g t:Nat} {v0 v1 v2 v3 v4:Value} (h:w.heap[g]?=some (.cells #[v0,v1,v2,v3,v4] t (0,0))):w.cell? ⟨g,0,none⟩=some v0∧w.cell? ⟨g,1,none⟩=some v1∧w.cell? ⟨g,2,none⟩=some v2∧w.cell? ⟨g,3,none⟩=some v3∧w.cell? ⟨g,4,none⟩=some v4∧w.frozen? ⟨g,0,none⟩=false∧w.frozen? ⟨g,1,none⟩=false∧w.frozen? ⟨g,2,none⟩=false∧w.frozen? ⟨g,3,none⟩=false∧w.frozen? ⟨g,4,none⟩=false :=
 ⟨(blk_cell h 0).trans rfl,(blk_cell h 1).trans rfl,(blk_cell h 2).trans rfl,(blk_cell h 3).trans rfl,(blk_cell h 4).trans rfl,blk_frozen h 0,blk_frozen h 1,blk_frozen h 2,blk_frozen h 3,blk_frozen h 4⟩
theorem blk8_ {w:World} {g t:Nat} {v0 v1 v2 v3 v4 v5 v6 v7:Value} (h:w.heap[g]?=some (.cells #[v0,v1,v2,v3,v4,v5,v6,v7] t (0,0))):w.cell? ⟨g,0,none⟩=some v0∧w.cell? ⟨g,1,none⟩=some v1∧w.cell? ⟨g,2,none⟩=some v2∧w.cell? ⟨g,3,none⟩=some v3∧w.cell? ⟨g,4,none⟩=some v4∧w.cell? ⟨g,5,none⟩=some v5∧w.cell? ⟨g,6,none⟩=some v6∧w.cell? ⟨g,7,none⟩=some v7∧w.frozen? ⟨g,0,none⟩=false∧w.frozen? ⟨g,1,none⟩=false∧w.frozen? ⟨g,2,none⟩=false∧w.frozen? ⟨g,3,none⟩=false∧w.frozen? ⟨g,4,none⟩=false∧w.frozen? ⟨g,5,none⟩=false∧w.frozen? ⟨g,6,none⟩=false∧w.frozen? ⟨g,7,none⟩=false :=
 ⟨(blk_cell h 0).trans rfl,(blk_cell h 1).trans rfl,(blk_cell h 2).trans rfl,(blk_cell h 3).trans rfl,(blk_cell h 4).trans rfl,(blk_cell h 5).trans rfl,(blk_cell h 6).trans rfl,(blk_cell h 7).trans rfl,blk_frozen h 0,blk_frozen h 1,blk_frozen h 2,blk_frozen h 3,blk_frozen h 4,blk_frozen h 5,blk_frozen h 6,blk_frozen h 7⟩
theorem st3_ {w:World} {g t:Nat} {v0 v1 v2 u0 u1 u2:Value} (h0:w.heap[g]?=some (.cells #[v0,v1,v2] t (0,0))):(((w.setCell ⟨g,0,none⟩ u0).setCell ⟨g,1,none⟩ u1).setCell ⟨g,2,none⟩ u2).heap[g]?=some (.cells #[u0,u1,u2] t (0,0)):=by
 have h1:(w.setCell ⟨g,0,none⟩ u0).heap[g]?=some (.cells #[u0,v1,v2] t (0,0)):=blk_put h0 0 u0 rfl
 have h2:((w.setCell ⟨g,0,none⟩ u0).setCell ⟨g,1,none⟩ u1).heap[g]?=some (.cells #[u0,u1,v2] t (0,0)):=blk_put h1 1 u1 rfl
 have h3:(((w.setCell ⟨g,0,none⟩ u0).setCell ⟨g,1,none⟩ u1).setCell ⟨g,2,none⟩ u2).heap[g]?=some (.cells #[u0,u1,u2] t (0,0)):=blk_put h2 2 u2 rfl
 exact h3
theorem st4_ {w:World} {g t:Nat} {v0 v1 v2 v3 u0 u1 u2 u3:Value} (h0:w.heap[g]?=some (.cells #[v0,v1,v2,v3] t (0,0))):((((w.setCell ⟨g,0,none⟩ u0).setCell ⟨g,1,none⟩ u1).setCell ⟨g,2,none⟩ u2).setCell ⟨g,3,none⟩ u3).heap[g]?=some (.cells #[u0,u1,u2,u3] t (0,0)):=by
 have h1:(w.setCell ⟨g,0,none⟩ u0).heap[g]?=some (.cells #[u0,v1,v2,v3] t (0,0)):=blk_put h0 0 u0 rfl
 have h2:((w.setCell ⟨g,0,none⟩ u0).setCell ⟨g,1,none⟩ u1).heap[g]?=some (.cells #[u0,u1,v2,v3] t (0,0)):=blk_put h1 1 u1 rfl
 have h3:(((w.setCell ⟨g,0,none⟩ u0).setCell ⟨g,1,none⟩ u1).setCell ⟨g,2,none⟩ u2).heap[g]?=some (.cells #[u0,u1,u2,v3] t (0,0)):=blk_put h2 2 u2 rfl
 have h4:((((w.setCell ⟨g,0,none⟩ u0).setCell ⟨g,1,none⟩ u1).setCell ⟨g,2,none⟩ u2).setCell ⟨g,3,none⟩ u3).heap[g]?=some (.cells #[u0,u1,u2,u3] t (0,0)):=blk_put h3 3 u3 rfl
 exact h4
theorem st5_ {w:World} {g t:Nat} {v0 v1 v2 v3 v4 u0 u1 u2 u3 u4:Value} (h0:w.heap[g]?=some (.cells #[v0,v1,v2,v3,v4] t (0,0))):(((((w.setCell ⟨g,0,none⟩ u0).setCell ⟨g,1,none⟩ u1).setCell ⟨g,2,none⟩ u2).setCell ⟨g,3,none⟩ u3).setCell ⟨g,4,none⟩ u4).heap[g]?=some (.cells #[u0,u1,u2,u3,u4] t (0,0)):=by
 have h1:(w.setCell ⟨g,0,none⟩ u0).heap[g]?=some (.cells #[u0,v1,v2,v3,v4] t (0,0)):=blk_put h0 0 u0 rfl
 have h2:((w.setCell ⟨g,0,none⟩ u0).setCell ⟨g,1,none⟩ u1).heap[g]?=some (.cells #[u0,u1,v2,v3,v4] t (0,0)):=blk_put h1 1 u1 rfl
 have h3:(((w.setCell ⟨g,0,none⟩ u0).setCell ⟨g,1,none⟩ u1).setCell ⟨g,2,none⟩ u2).heap[g]?=some (.cells #[u0,u1,u2,v3,v4] t (0,0)):=blk_put h2 2 u2 rfl
 have h4:((((w.setCell ⟨g,0,none⟩ u0).setCell ⟨g,1,none⟩ u1).setCell ⟨g,2,none⟩ u2).setCell ⟨g,3,none⟩ u3).heap[g]?=some (.cells #[u0,u1,u2,u3,v4] t (0,0)):=blk_put h3 3 u3 rfl
 have h5:(((((w.setCell ⟨g,0,none⟩ u0).setCell ⟨g,1,none⟩ u1).setCell ⟨g,2,none⟩ u2).setCell ⟨g,3,none⟩ u3).setCell ⟨g,4,none⟩ u4).heap[g]?=some (.cells #[u0,u1,u2,u3,u4] t (0,0)):=blk_put h4 4 u4 rfl
 exact h5
end Go.Proofs.YtamdobdmjcgmoaaGreatDoor.Px
namespace Go.Proofs.YtamdobdmjcgmoaaGreatDoor.Px
open Go.RowKit Go.Proofs.YtamdobdmjcgmoaaGreatDoorW.PrintWords Go.Proofs.YtamdobdmjcgmoaaGreatDoorW.PrintLast Go.Proofs.YtamdobdmjcgmoaaGreatDoorW.PrintMore
structure GG (w:World):Prop where mk ::
 tabs:Lib.Utf8Tabs (Tryz.laysValid_ren.g 3) (Tryz.laysValid_ren.g 4) w
 et:w.cell? ⟨0,0,none⟩=some (.iface 158 (.agg #[.pointer (some ⟨3,113,none⟩)]))
theorem GG.below {w w':World} (h:GG w) (hb:Below w.heap.size w w'):GG w':=⟨Utf8Tabs_below h.tabs hb,pw_cell_below hb h.et⟩
end Go.Proofs.YtamdobdmjcgmoaaGreatDoor.Px
namespace Go.Proofs.YtamdobdmjcgmoaaGreatDoor.Px
open Go.RowKit Go.ChangeShapes Go.WideShapes Go.ChangeAt Go.Lib Go.Proofs.YtamdobdmjcgmoaaGreatDoorW.PrintWords Go.Proofs.YtamdobdmjcgmoaaGreatDoorW.PrintLast Go.Proofs.YtamdobdmjcgmoaaGreatDoorW.PrintMore
set_option linter.unusedVariables false
theorem int_row {H : Type} {enc : TypeId × Value → H} {P : Program} {W : World} {t e : TypeId} {k : IntKind} {a : Option Addr} {len cap : Nat} {d : DataW H} {p : List MemPlace}
    (ht : P.underlying t = some (.slice e)) (he : P.underlying e = some (.int k)) (hc : P.cellsOf e = 1) (h : DataW.Trod enc P W 0 (fun _ => true) true t (.slice a len cap) d p) :
    ∃ l : List Int, len = l.length ∧ ReadsInt W k a l.length l ∧ (∀ x ∈ l, (Lit.int k x).wf = true) ∧ l.length ≤ cap ∧ l.length ≤ maxLen ∧ ∀ B, Rows.uptoBulk d ≤ B → l.length ≤ B := by
  obtain ⟨fuel, hf⟩ := h
  rcases open_ints ht he hc hf with ⟨hcs, hx⟩ | ⟨x, l, c, zs, hcs, _, hl, hm, hz, hx, hcell, hwz⟩
  · simp [Value.cells] at hcs
    obtain ⟨rfl, rfl, rfl⟩ := hcs
    obtain ⟨l, e1, h1, h2, h3, h4⟩ := ReadsInt.ofRowC (k := k) (w := W) (zs := []) (.inl ⟨rfl, rfl, rfl, rfl⟩)
    exact ⟨l, e1, h1, h3, h4, h2, fun B _ => by omega⟩
  simp [Value.cells] at hcs
  obtain ⟨rfl, rfl, rfl⟩ := hcs
  simp only [if_true] at hz
  obtain ⟨l, e1, h1, h2, h3, h4⟩ := ReadsInt.ofRowC (k := k) (w := W) (.inr ⟨_, rfl, hl, hm, hz, hcell, hwz⟩)
  refine ⟨l, e1, h1, h3, h4, h2, fun B hB => ?_⟩
  obtain ⟨hx, _⟩ := Prod.mk.inj hx
  subst hx
  simp only [Rows.uptoBulk] at hB
  have := bulk_length (H := H) (lits k (zs.take len))
  have e2 : (lits (H := H) k (zs.take len)).length = len := by simp [lits]; omega
  omega
theorem laid_et : Tryz.prog.globalNamed "errors.errorType" = some 0 := by kernel_rfl
theorem laid_rt : (Tryz.prog.cutTypes.find? (·.1 == "internal/reflectlite.rtype")).map (·.2) = some 158 := by kernel_rfl
theorem laid_oneRow : ((List.range 208).filter fun t => Tryz.prog.rowNamed t [101, 114, 114, 111, 114]) = [113] := by kernel_rfl
theorem laid_size : Tryz.prog.types.size = 208 := by kernel_rfl
theorem GG.of_laid {l : List (String × DataW Unit)} {W : World} (h : laidMetH Tryz.prog l W) (h1 : ("unicode/utf8.acceptRanges", Rows.laid_unicode_utf8_acceptRanges) ∈ l) (h2 : ("unicode/utf8.first", Rows.laid_unicode_utf8_first) ∈ l) (h3 : ("errors.errorType", Rows.laid_errors_errorType) ∈ l) (hS : W.ShapedOpen Tryz.prog) : GG W := by
  obtain ⟨hp, hh⟩ := laidMetH_iff.1 h
  refine ⟨utf8Tabs_of_readsT (U8Types.of196 Tryz.laysValid) ⟨by kernel_rfl, by kernel_rfl, by kernel_rfl, by kernel_rfl, by kernel_rfl, by kernel_rfl, by kernel_rfl⟩ (by have := Lib.laidMet.reads hp (List.mem_filter.2 ⟨h2, by kernel_rfl⟩); unfold Rows.laid_unicode_utf8_first at this; rw [Pinned.utf8First_eq] at this; exact this) (Lib.laidMet.reads hp (List.mem_filter.2 ⟨h1, by kernel_rfl⟩)), ?_⟩
  obtain ⟨name, u, ty, e1, e2, e3, e4, e5⟩ := hh _ (List.mem_filter.2 ⟨h3, by kernel_rfl⟩)
  have en : name = [101, 114, 114, 111, 114] := (Option.some.inj e1).symm
  subst en
  obtain rfl := Option.some.inj (laid_rt.symm.trans e2)
  have hm : ty ∈ (List.range 208).filter fun t => Tryz.prog.rowNamed t [101, 114, 114, 111, 114] := List.mem_filter.2 ⟨List.mem_range.2 (by rw [← laid_size]; exact e3), e4⟩
  rw [laid_oneRow] at hm
  obtain rfl := List.mem_singleton.1 hm
  have hh : typeHandle Tryz.prog 113 = .pointer (some ⟨3, 113, none⟩) := by kernel_rfl
  rw [hh] at e5
  simpa using World.var?_cell laid_et e5 0
end Go.Proofs.YtamdobdmjcgmoaaGreatDoor.Px
namespace Go.Proofs.YtamdobdmjcgmoaaGreatDoor.Px
open Go.RowKit Go.ChangeShapes Go.WideShapes Go.ChangeAt Go.Proofs.YtamdobdmjcgmoaaGreatDoorW.PrintWords Go.Proofs.YtamdobdmjcgmoaaGreatDoorW.PrintLast Go.Proofs.YtamdobdmjcgmoaaGreatDoorW.PrintMore
set_option linter.unusedVariables false
def Fits {α:Type} {H:Type} (enc:TypeId × Value→H) (P:Program) (W:World) (t:TypeId) (d:Kd α) (Q:Nat→α→Prop):Prop :=
 ∀ (fuel:Nat) (cs:List Value) (x:DataW H) (p:List MemPlace),DataW.trod enc P W 0 (fun _ => true) true fuel t cs=some (x,p)→∃ a:α,d.K W a cs∧Q (Rows.uptoBulk x) a
section
variable {α β:Type} {H:Type} {enc:TypeId × Value→H} {P:Program} {W:World} {t e:TypeId}
def Qint (k:IntKind) (_:Nat) (a:Int):Prop:=(Lit.int k a).wf=true
def Qbool (_:Nat) (_:Bool):Prop:=True
def Qstr (b:Nat) (a:ByteArray):Prop:=a.size < b
theorem Qint.mono (k:IntKind):∀ b b' a,b≤b'→Qint k b a→Qint k b' a:=fun _ _ _ _ h => h
theorem Qbool.mono:∀ b b' a,b≤b'→Qbool b a→Qbool b' a:=fun _ _ _ _ h => h
theorem Qstr.mono:∀ b b' a,b≤b'→Qstr b a→Qstr b' a:=fun _ _ _ h1 h2 => Nat.lt_of_lt_of_le h2 h1
theorem Fits.int {k:IntKind} (ht:P.underlying t=some (.int k)):Fits enc P W t (Kd.int k) (Qint k):=by
 intro fuel cs x p h
 obtain ⟨n,hc,hx,hw⟩:=DataW.trod_int ht h
 exact ⟨n,hc,hw⟩
theorem Fits.bool (ht:P.underlying t=some .bool):Fits enc P W t Kd.bool Qbool:=by
 intro fuel cs x p h
 obtain ⟨b,hc,hx⟩:=DataW.trod_bool ht h
 exact ⟨b,hc,trivial⟩
theorem Fits.string (ht:P.underlying t=some .string):Fits enc P W t Kd.string Qstr:=by
 intro fuel cs x p h
 obtain ⟨s,hc,hx⟩:=DataW.trod_string ht h
 refine ⟨s,hc,?_⟩
 unfold Qstr
 have hx:=(Prod.mk.inj hx.1).1
 subst hx
 simp only [Rows.uptoBulk]
 have e:s.data.toList.length=s.size:=by rw [Array.length_toList];rfl
 omega
theorem fits_add (a:Addr) (x j:Nat):(a.add x).add j=a.add (x + j):=by
 unfold Addr.add
 by_cases h1:x=0 <;> by_cases h2:j=0 <;> simp [h1,h2,Nat.add_assoc]
def QAll (Q:Nat→α→Prop) (b:Nat) (l:List α):Prop:=l.length < b∧∀ x ∈ l,Q b x
theorem QAll.mono {Q:Nat→α→Prop} (hQ:∀ b b' a,b≤b'→Q b a→Q b' a):∀ b b' l,b≤b'→QAll Q b l→QAll Q b' l:=fun b b' l h hq => ⟨Nat.lt_of_lt_of_le hq.1 h,fun x hx => hQ _ _ _ h (hq.2 x hx)⟩
theorem Fits.slice {d:Kd α} {Q:Nat→α→Prop} (hQ:∀ b b' a,b≤b'→Q b a→Q b' a) (ht:P.underlying t=some (.slice e)) (hsz:P.cellsOf e=d.sz) (hd:Fits enc P W e d Q):Fits enc P W t (Kd.slice e d) (QAll Q):=by
 intro fuel cs x p h
 rcases DataW.trod_slice ht h with ⟨hcs,hx⟩|⟨a,len,cap,elems,rest,n,_,hcs,hx,_,hl,hm,hlen,hel,_,_⟩
 ·refine ⟨[],⟨none,0,hcs,Nat.le_refl _,rfl,by simp,fun hh => absurd hh (by simp)⟩,?_,fun y hy => by cases hy⟩
  exact bulk_one x
 have hx1:=(Prod.mk.inj hx).1
 have each:∀ i,i < len→∃ y:α,∃ c:List Value,d.K W y c∧c.length=d.sz∧(∀ j u,c[j]?=some u→W.cell? (a.add (i * d.sz + j))=some u)∧Q (Rows.uptoBulk x) y:=by
  intro i hi
  have h1:=hel i hi
  obtain ⟨z,hz⟩:∃ z,elems[i]?=some z:=⟨elems[i]'(by omega),List.getElem?_eq_getElem (by omega)⟩
  rw [hz] at h1
  obtain ⟨c,hc,hk⟩:=Option.bind_eq_some_iff.1 h1
  obtain ⟨_,hcl,hcc⟩:=World.cells?_some hc
  obtain ⟨y,hy,hq⟩:=hd n c z.1 z.2 hk
  refine ⟨y,c,hy,by rw [hcl,hsz],?_,hQ _ _ _ ?_ hq⟩
  ·intro j u hj
   have hjl:j < c.length:=(List.getElem?_eq_some_iff.1 hj).1
   have:=hcc j (by omega)
   rw [hj] at this
   rw [← this,hsz,fits_add]
  rw [hx1]
  simp only [Rows.uptoBulk]
  have:z.1 ∈ elems.map (·.1):=List.mem_map_of_mem (List.mem_of_getElem? hz)
  have:=bulk_part_le this
  omega
 have hf:∀ i:Fin len,∃ c:List Value,d.K W (Classical.choose (each i.1 i.2)) c∧c.length=d.sz∧(∀ j u,c[j]?=some u→W.cell? (a.add (i.1 * d.sz + j))=some u)∧Q (Rows.uptoBulk x) (Classical.choose (each i.1 i.2)):=fun i => Classical.choose_spec (each i.1 i.2)
 generalize hF:(fun i:Fin len => Classical.choose (each i.1 i.2))=f at hf
 replace hf:∀ i:Fin len,∃ c:List Value,d.K W (f i) c∧c.length=d.sz∧(∀ j u,c[j]?=some u→W.cell? (a.add (i.1 * d.sz + j))=some u)∧Q (Rows.uptoBulk x) (f i):=fun i => by
  have:=hf i
  rw [← hF]
  exact this
 have hxs:(List.ofFn f).length=len:=by simp
 refine ⟨List.ofFn f,⟨some a,cap,by rw [hxs];exact hcs,by rw [hxs];exact hl,rfl,?_,fun _ => ⟨a,rfl,?_⟩⟩,?_,?_⟩
 ·rw [hxs];unfold maxLen at hm;omega
 ·intro j q hj
  have hjl:j < len:=by
   have:=(List.getElem?_eq_some_iff.1 hj).1
   omega
  have hq:f ⟨j,hjl⟩=q:=by
   rw [List.getElem?_ofFn,dif_pos hjl] at hj
   exact Option.some.inj hj
  obtain ⟨c,h1,h2,h3,_⟩:=hf ⟨j,hjl⟩
  subst hq
  exact ⟨c,h2,h1,h3⟩
 ·rw [hxs,hx1]
  simp only [Rows.uptoBulk]
  have:=bulk_length (elems.map (·.1))
  rw [List.length_map] at this
  omega
 intro y hy
 obtain ⟨i,rfl⟩:=(List.mem_ofFn).1 hy
 obtain ⟨_,_,_,_,hq⟩:=hf i
 exact hq
end
end Go.Proofs.YtamdobdmjcgmoaaGreatDoor.Px
namespace Go.Proofs.YtamdobdmjcgmoaaGreatDoor.Px
open Go.RowKit Go.Extern.Stop Go.Stop Go.Extern
set_option linter.unusedVariables false
set_option linter.unusedSimpArgs false
theorem as_nil (t:Value) (w:World) :
  Calls Tryz.prog 57 #[.nilIface,t] w fun e w' => e=.returned (.bool false)∧w'=w:=by
 go_enter Tryz.func57,Tryz.ntmps57
 go_wp2
 go_ret
 exact ⟨rfl,rfl⟩
theorem as_valueOf27 (t:Addr) (w:World):(ReflectliteValue.unpack (.iface 115 (.pointer (some t)))).run Tryz.prog w
  = .ok (.agg #[.pointer (some ⟨3,115,none⟩),.pointer (some ⟨w.heap.size,0,none⟩),.int .u64 150]) (w.alloc (.cells #[.pointer (some t)] 115)):=by kernel_rfl
theorem as_type27 (a : Addr) (w : World) : (ReflectliteValue.methodAny (ReflectliteValue.valueError "reflectlite.Value.Type" 0) (fun t _ _ _ => ReflectliteType.toType t) #[.agg #[.pointer (some ⟨3, 115, none⟩), .pointer (some a), .int .u64 150]]).run Tryz.prog w
  = .ok (.iface 158 (.agg #[.pointer (some ⟨3,115,none⟩)])) w:=by kernel_rfl
theorem as_methodKind (h : Value) (w : World) : (Go.method 308 158 (.agg #[h]) "Kind").run Tryz.prog w = .ok (110, h) w := by kernel_rfl
theorem as_kind27 (w:World):((ReflectliteType.abiMethod fun t => (fun a:Nat => Value.int IntKind.u8 (a:Int)) <$> Rtype.kind t) #[.pointer (some ⟨3,115,none⟩)]).run Tryz.prog w=.ok (.int .u8 22) w:=by kernel_rfl
theorem as_kind25 (w:World):((ReflectliteType.abiMethod fun t => (fun a:Nat => Value.int IntKind.u8 (a:Int)) <$> Rtype.kind t) #[.pointer (some ⟨3,110,none⟩)]).run Tryz.prog w=.ok (.int .u8 22) w:=by kernel_rfl
theorem rlm (z:Sem Value) (f:TypeId→Addr→Nat→Nat→Sem Value) (v:Value) :
  ReflectliteValue.method z f #[v]=(do match ← ReflectliteValue.parts v with|none => z|some (t,a,fl) => f t a fl (fl % 32)):=rfl
theorem as_parts27 (a:Addr) (w:World):(ReflectliteValue.parts (.agg #[.pointer (some ⟨3,115,none⟩),.pointer (some a),.int .u64 150])).run Tryz.prog w=.ok (some (115,a,150)) w:=by kernel_rfl
theorem as_isNil27 (a p:Addr) (W:World) (ha:W.cell? a=some (.pointer (some p))) :
  (ReflectliteValue.method (ReflectliteValue.valueError "reflectlite.Value.IsNil" 0) ReflectliteValue.isNil #[.agg #[.pointer (some ⟨3, 115, none⟩), .pointer (some a), .int .u64 150]]).run Tryz.prog W = .ok (.bool false) W := by
 rw [rlm]
 simp only [Sem.run_bind,as_parts27,Result.andThen]
 simp [ReflectliteValue.isNil,loadVar,isAgg,underlying,Tryz.underlying115,ha,Result.andThen]
theorem as_methodElem (h : Value) (w : World) : (Go.method 308 158 (.agg #[h]) "Elem").run Tryz.prog w = .ok (122, .agg #[h]) w := by kernel_rfl
theorem as_methodImplements (h : Value) (w : World) : (Go.method 308 158 (.agg #[h]) "Implements").run Tryz.prog w = .ok (123, .agg #[h]) w := by kernel_rfl
theorem as_methodAssignableTo (h : Value) (w : World) : (Go.method 308 158 (.agg #[h]) "AssignableTo").run Tryz.prog w = .ok (120, .agg #[h]) w := by kernel_rfl
theorem as_elem27 (w:World):(ReflectliteType.method ReflectliteType.elem #[.agg #[.pointer (some ⟨3,115,none⟩)]]).run Tryz.prog w=.ok (.iface 158 (.agg #[.pointer (some ⟨3,110,none⟩)])) w:=by kernel_rfl
theorem as_implements25 (w : World) : (ReflectliteType.relation "Implements" ReflectliteType.implements_ #[.agg #[.pointer (some ⟨3, 110, none⟩)], .iface 158 (.agg #[.pointer (some ⟨3, 113, none⟩)])]).run Tryz.prog w = .ok (.bool true) w := by kernel_rfl
theorem as_typeOf25 (v:Value) (w:World):(ReflectliteType.typeOf #[.iface 110 v]).run Tryz.prog w=.ok (.iface 158 (.agg #[.pointer (some ⟨3,110,none⟩)])) w:=by kernel_rfl
theorem as_assignable25 (w : World) : (ReflectliteType.relation "AssignableTo" ReflectliteType.assignableTo #[.agg #[.pointer (some ⟨3, 110, none⟩)], .iface 158 (.agg #[.pointer (some ⟨3, 110, none⟩)])]).run Tryz.prog w = .ok (.bool true) w := by kernel_rfl
theorem as_valueOf25 (e:Addr) (w:World):(ReflectliteValue.unpack (.iface 110 (.pointer (some e)))).run Tryz.prog w
  = .ok (.agg #[.pointer (some ⟨3,110,none⟩),.pointer (some ⟨w.heap.size,0,none⟩),.int .u64 150]) (w.alloc (.cells #[.pointer (some e)] 110)):=by kernel_rfl
theorem as_elemOf27 (w:World):(Rtype.elem? 115).run Tryz.prog w=.ok (some 110) w:=by kernel_rfl
theorem as_mk25 (p:Addr) (w:World):(ReflectliteValue.mk 110 p ReflectliteValue.flagAddr).run Tryz.prog w=.ok (.agg #[.pointer (some ⟨3,110,none⟩),.pointer (some p),.int .u64 406]) w:=by kernel_rfl
theorem as_elemV27 (a p:Addr) (W:World) (ha:W.cell? a=some (.pointer (some p))) :
  (ReflectliteValue.method (ReflectliteValue.valueError "reflectlite.Value.Elem" 0) ReflectliteValue.elem #[.agg #[.pointer (some ⟨3, 115, none⟩), .pointer (some a), .int .u64 150]]).run Tryz.prog W
   = .ok (.agg #[.pointer (some ⟨3,110,none⟩),.pointer (some p),.int .u64 406]) W:=by
 rw [rlm]
 simp only [Sem.run_bind,as_parts27,Result.andThen]
 simp [ReflectliteValue.elem,loadVar,isAgg,underlying,Tryz.underlying115,ha,Result.andThen,as_elemOf27,as_mk25]
theorem rls (v x:Value):ReflectliteValue.set #[v,x]=(do
  let (some (dst,a,fl),some (src,b,_)):=(← ReflectliteValue.parts v,← ReflectliteValue.parts x)
   | unsupported (.noEntry "extern/(internal/reflectlite.Value).Set.zeroValue")
  if fl / ReflectliteValue.flagAddr % 2 == 0 then unsupported (.noEntry "extern/(internal/reflectlite.Value).Set.unaddressable")
  let val ← loadVar src b
  if ← Rtype.directlyAssignable dst src then storeVar dst a val
  else if ← Rtype.implements dst src then
   if (← Rtype.kind src)==20 then
    match val with
    | .nilIface => unsupported (.noEntry "extern/reflectlite: a nil value of one interface type handed on as a value of another")
    | _ => storeVar dst a val
   else storeVar dst a (.iface src val)
  else panicString ("reflectlite.Set: value of type " ++ (← Rtype.spelt src) ++ " is not assignable to type " ++ (← Rtype.spelt dst))
  pure (.tuple #[])):=rfl
theorem as_parts25a (a:Addr) (w:World):(ReflectliteValue.parts (.agg #[.pointer (some ⟨3,110,none⟩),.pointer (some a),.int .u64 406])).run Tryz.prog w=.ok (some (110,a,406)) w:=by kernel_rfl
theorem as_parts25 (a:Addr) (w:World):(ReflectliteValue.parts (.agg #[.pointer (some ⟨3,110,none⟩),.pointer (some a),.int .u64 150])).run Tryz.prog w=.ok (some (110,a,150)) w:=by kernel_rfl
theorem as_direct25 (w:World):(Rtype.directlyAssignable 110 110).run Tryz.prog w=.ok true w:=by kernel_rfl
theorem as_set25 (ta b e:Addr) (old:Value) (W:World) (hb:W.cell? b=some (.pointer (some e))) (ht:W.cell? ta=some old) (hf:W.frozen? ta=false) :
  (ReflectliteValue.set #[.agg #[.pointer (some ⟨3,110,none⟩),.pointer (some ta),.int .u64 406],.agg #[.pointer (some ⟨3,110,none⟩),.pointer (some b),.int .u64 150]]).run Tryz.prog W
   = .ok (.tuple #[]) (W.setCell ta (.pointer (some e))):=by
 rw [rls]
 simp only [Sem.run_bind,as_parts25a,as_parts25,Result.andThen]
 simp [ReflectliteValue.flagAddr,loadVar,isAgg,underlying,Tryz.underlying110,hb,Result.andThen,as_direct25,storeVar,Value.cells,storeCells,Addr.add]
 rw [run_store Tryz.prog W ta _ _ (by rfl)]
 simp [ht,hf]
set_option maxHeartbeats 4000000 in
theorem as_hit (e t:Addr) (old:Value) (w:World) (hg:w.cell? ⟨0,0,none⟩=some (.iface 158 (.agg #[.pointer (some ⟨3,113,none⟩)]))) (ht0:w.cell? t=some old) (hf0:w.frozen? t=false) :
  Calls Tryz.prog 57 #[.iface 110 (.pointer (some e)),.iface 115 (.pointer (some t))] w fun ev w' => ev=.returned (.bool true)∧w'=((((w.alloc (.cells #[.pointer (some t)] 115)).alloc (.cells #[.pointer (some ⟨3,115,none⟩),.pointer (some ⟨w.heap.size,0,none⟩),.int .u64 150] 133)).alloc (.cells #[.pointer (some ⟨3,115,none⟩),.pointer (some ⟨w.heap.size,0,none⟩),.int .u64 150] 133)).alloc (.cells #[.pointer (some e)] 110)).setCell t (.pointer (some e)):=by
 have h6:=@run_callFunc_extern Tryz.prog 72 _ (fun args => ReflectliteValue.unpack (args.getD 0 (.tuple #[]))) Tryz.func72 (by kernel_rfl) (by kernel_rfl) (by kernel_rfl) (by kernel_rfl)
 have h7 := @run_callFunc_extern Tryz.prog 73 _ (ReflectliteValue.methodAny (ReflectliteValue.valueError "reflectlite.Value.Type" 0) (fun t _ _ _ => ReflectliteType.toType t)) Tryz.func73 (by kernel_rfl) (by kernel_rfl) (by kernel_rfl) (by kernel_rfl)
 have h8 := @run_callFunc_extern Tryz.prog 74 _ (ReflectliteValue.method (ReflectliteValue.valueError "reflectlite.Value.IsNil" 0) ReflectliteValue.isNil) Tryz.func74 (by kernel_rfl) (by kernel_rfl) (by kernel_rfl) (by kernel_rfl)
 have h27:=@run_callFunc_extern Tryz.prog 110 _ (ReflectliteType.abiMethod fun t => do pure (.int .u8 (← Rtype.kind t))) Tryz.func110 (by kernel_rfl) (by kernel_rfl) (by kernel_rfl) (by kernel_rfl)
 have h37:=@run_callFunc_extern Tryz.prog 122 _ (ReflectliteType.method ReflectliteType.elem) Tryz.func122 (by kernel_rfl) (by kernel_rfl) (by kernel_rfl) (by kernel_rfl)
 have h38 := @run_callFunc_extern Tryz.prog 123 _ (ReflectliteType.relation "Implements" ReflectliteType.implements_) Tryz.func123 (by kernel_rfl) (by kernel_rfl) (by kernel_rfl) (by kernel_rfl)
 have h10:=@run_callFunc_extern Tryz.prog 86 _ ReflectliteType.typeOf Tryz.func86 (by kernel_rfl) (by kernel_rfl) (by kernel_rfl) (by kernel_rfl)
 have h35 := @run_callFunc_extern Tryz.prog 120 _ (ReflectliteType.relation "AssignableTo" ReflectliteType.assignableTo) Tryz.func120 (by kernel_rfl) (by kernel_rfl) (by kernel_rfl) (by kernel_rfl)
 have h11 := @run_callFunc_extern Tryz.prog 87 _ (ReflectliteValue.method (ReflectliteValue.valueError "reflectlite.Value.Elem" 0) ReflectliteValue.elem) Tryz.func87 (by kernel_rfl) (by kernel_rfl) (by kernel_rfl) (by kernel_rfl)
 have h12:=@run_callFunc_extern Tryz.prog 88 _ ReflectliteValue.set Tryz.func88 (by kernel_rfl) (by kernel_rfl) (by kernel_rfl) (by kernel_rfl)
 have tO:=as_typeOf25
 have mA:=as_methodAssignableTo
 have a25:=as_assignable25
 have v25:=as_valueOf25
 have f6:=as_valueOf27
 have f7:=as_type27
 have mK:=as_methodKind
 have mE:=as_methodElem
 have mI:=as_methodImplements
 have k27:=as_kind27
 have k25:=as_kind25
 have e27:=as_elem27
 have i25:=as_implements25
 have n8:=as_isNil27 ⟨w.heap.size,0,none⟩ t ((w.alloc (.cells #[.pointer (some t)] 115)).alloc (.cells #[.pointer (some ⟨3,115,none⟩),.pointer (some ⟨w.heap.size,0,none⟩),.int .u64 150] 133)) (by simp)
 have hlt:0 < w.heap.size:=by
  rcases Nat.lt_or_ge 0 w.heap.size with h|h
  ·exact h
  simp [World.cell?,Array.getElem?_eq_none h] at hg
 have hg2:((w.alloc (.cells #[.pointer (some t)] 115)).alloc (.cells #[.pointer (some ⟨3,115,none⟩),.pointer (some ⟨w.heap.size,0,none⟩),.int .u64 150] 133)).cell? ⟨0,0,none⟩=some (.iface 158 (.agg #[.pointer (some ⟨3,113,none⟩)])):=by
  rw [World.cell?_alloc_lt _ _ ⟨0,0,none⟩ (by simp <;> omega),World.cell?_alloc_lt _ _ ⟨0,0,none⟩ hlt];exact hg
 have htl:t.block < w.heap.size:=by
  rcases Nat.lt_or_ge t.block w.heap.size with h|h
  ·exact h
  simp [World.cell?,Array.getElem?_eq_none h] at ht0
 have el:=as_elemV27 ⟨w.heap.size,0,none⟩ t (((w.alloc (.cells #[.pointer (some t)] 115)).alloc (.cells #[.pointer (some ⟨3,115,none⟩),.pointer (some ⟨w.heap.size,0,none⟩),.int .u64 150] 133)).alloc (.cells #[.pointer (some ⟨3,115,none⟩),.pointer (some ⟨w.heap.size,0,none⟩),.int .u64 150] 133)) (by rw [World.cell?_alloc_lt _ _ ⟨w.heap.size,0,none⟩ (by simp <;> omega)];simp)
 have st:=as_set25 t ⟨w.heap.size + 1 + 1 + 1,0,none⟩ e old ((((w.alloc (.cells #[.pointer (some t)] 115)).alloc (.cells #[.pointer (some ⟨3,115,none⟩),.pointer (some ⟨w.heap.size,0,none⟩),.int .u64 150] 133)).alloc (.cells #[.pointer (some ⟨3,115,none⟩),.pointer (some ⟨w.heap.size,0,none⟩),.int .u64 150] 133)).alloc (.cells #[.pointer (some e)] 110))
  (by rw [World.cell?_alloc_at _ _ _ _ (by simp)];rfl)
  (by rw [World.cell?_alloc_lt _ _ t (by simp <;> omega),World.cell?_alloc_lt _ _ t (by simp <;> omega),World.cell?_alloc_lt _ _ t (by simp <;> omega),World.cell?_alloc_lt _ _ t htl];exact ht0)
  (by rw [World.frozen?_alloc_old _ _ t (by simp <;> omega),World.frozen?_alloc_old _ _ t (by simp <;> omega),World.frozen?_alloc_old _ _ t (by simp <;> omega),World.frozen?_alloc_old _ _ t (Nat.ne_of_lt htl)];exact hf0)
 go_enter Tryz.func57,Tryz.ntmps57
 go_wp2
 refine wp_loop_rounds 1 ?_
 rw [rounds_succ]
 go_wp2
 go_ret
 exact ⟨rfl,rfl⟩
end Go.Proofs.YtamdobdmjcgmoaaGreatDoor.Px
namespace Go.Proofs.YtamdobdmjcgmoaaGreatDoor.Px
open Go.RowKit Go.Proofs.YtamdobdmjcgmoaaGreatDoorW.PrintWords Go.Proofs.YtamdobdmjcgmoaaGreatDoorW.PrintLast Go.Proofs.YtamdobdmjcgmoaaGreatDoorW.PrintMore
attribute [local go_sem] max2_int min2_int max_two min_two max_three min_three max_four min_four
set_option linter.unusedVariables false
set_option linter.unusedSimpArgs false
mutual
def pool_fields.j0:Nat→Int→Bool→Int→ByteArray→Int→Int→Int→Int→ByteArray→Int→Int→Int→Option (Int × ByteArray × Int × Int × Int)
 | 0,_,_,_,_,_,_,_,_,_,_,_,_ => none
 | k + 1,x8,x11,x102000,x102001,x102002,x102003,x102004,x104000,x104001,x104002,x104003,x104004 => if x11=true then (some (x104000,x104001,x102002,x104003,x104004)) else (if x8=9 then (pool_fields.j1 k x8 (x8==9) x102000 x102001 x102002 x102003 x102004 x104000 x104001 x104002 x104003 x104004) else (if x8=10 then (pool_fields.j1 k x8 (x8==10) x102000 x102001 x102002 x102003 x102004 x104000 x104001 x104002 x104003 x104004) else (pool_fields.j1 k x8 (x8==12) x102000 x102001 x102002 x102003 x102004 x104000 x104001 x104002 x104003 x104004)))
def pool_fields.j1:Nat→Int→Bool→Int→ByteArray→Int→Int→Int→Int→ByteArray→Int→Int→Int→Option (Int × ByteArray × Int × Int × Int)
 | 0,_,_,_,_,_,_,_,_,_,_,_,_ => none
 | k + 1,x8,x14,x102000,x102001,x102002,x102003,x102004,x104000,x104001,x104002,x104003,x104004 => if x14=true then (some (x104000,x104001,x104002,x102003,x102004)) else (if x8=7 then (some (x104000,x104001,x104002,x102003,x104004)) else (some (x104000,x104001,x104002,x104003,x104004)))
end
def pool_fields.f (k:Nat) (a0_0:Int) (a0_1:ByteArray) (a0_2:Int) (a0_3:Int) (a0_4:Int):Option (Int × ByteArray × Int × Int × Int):=if a0_0=1 then (some (a0_0,a0_1,0,0,0)) else (if a0_0=3 then (pool_fields.j0 k a0_0 (a0_0==3) a0_0 a0_1 a0_2 a0_3 a0_4 a0_0 (⟨#[]⟩:ByteArray) 0 0 0) else (pool_fields.j0 k a0_0 (a0_0==5) a0_0 a0_1 a0_2 a0_3 a0_4 a0_0 (⟨#[]⟩:ByteArray) 0 0 0))
theorem pool_fields.mono_l:∀ k,(∀ y0 y1 y2 y3 y4 y5 y6 y7 y8 y9 y10 y11,LeO (pool_fields.j0 k y0 y1 y2 y3 y4 y5 y6 y7 y8 y9 y10 y11) (pool_fields.j0 (k + 1) y0 y1 y2 y3 y4 y5 y6 y7 y8 y9 y10 y11))∧(∀ y0 y1 y2 y3 y4 y5 y6 y7 y8 y9 y10 y11,LeO (pool_fields.j1 k y0 y1 y2 y3 y4 y5 y6 y7 y8 y9 y10 y11) (pool_fields.j1 (k + 1) y0 y1 y2 y3 y4 y5 y6 y7 y8 y9 y10 y11))
 | 0 => ⟨fun _ _ _ _ _ _ _ _ _ _ _ _ r h => by simp [pool_fields.j0] at h,fun _ _ _ _ _ _ _ _ _ _ _ _ r h => by simp [pool_fields.j1] at h⟩
 | k + 1 => by
  obtain ⟨ih0,ih1⟩:=pool_fields.mono_l k
  refine ⟨?_,?_⟩
  ·intro y0 y1 y2 y3 y4 y5 y6 y7 y8 y9 y10 y11
   unfold pool_fields.j0
   repeat' first
   | (with_reducible exact ih0 _ _ _ _ _ _ _ _ _ _ _ _)
   | (with_reducible exact ih1 _ _ _ _ _ _ _ _ _ _ _ _)
   | (with_reducible exact LeO.refl _)
   | (with_reducible exact LeO.none _)
   | (with_reducible refine LeO.ite ?_ ?_)
   | (with_reducible refine LeO.bind ?_ (fun _ => ?_))
   | exact ih0 _ _ _ _ _ _ _ _ _ _ _ _
   | exact ih1 _ _ _ _ _ _ _ _ _ _ _ _
   | exact LeO.none _
   | refine LeO.ite ?_ ?_
   | refine LeO.bind ?_ (fun _ => ?_)
  intro y0 y1 y2 y3 y4 y5 y6 y7 y8 y9 y10 y11
  unfold pool_fields.j1
  repeat' first
  | (with_reducible exact ih0 _ _ _ _ _ _ _ _ _ _ _ _)
  | (with_reducible exact ih1 _ _ _ _ _ _ _ _ _ _ _ _)
  | (with_reducible exact LeO.refl _)
  | (with_reducible exact LeO.none _)
  | (with_reducible refine LeO.ite ?_ ?_)
  | (with_reducible refine LeO.bind ?_ (fun _ => ?_))
  | exact ih0 _ _ _ _ _ _ _ _ _ _ _ _
  | exact ih1 _ _ _ _ _ _ _ _ _ _ _ _
  | exact LeO.none _
  | refine LeO.ite ?_ ?_
  | refine LeO.bind ?_ (fun _ => ?_)
theorem pool_fields.mono:∀ a0 a1 a2 a3 a4 k,LeO (pool_fields.f k a0 a1 a2 a3 a4) (pool_fields.f (k + 1) a0 a1 a2 a3 a4):=by
 intro a0 a1 a2 a3 a4 k
 obtain ⟨ih0,ih1⟩:=pool_fields.mono_l k
 unfold pool_fields.f
 repeat' first
   | (with_reducible exact ih0 _ _ _ _ _ _ _ _ _ _ _ _)
   | (with_reducible exact ih1 _ _ _ _ _ _ _ _ _ _ _ _)
   | (with_reducible exact LeO.refl _)
   | (with_reducible exact LeO.none _)
   | (with_reducible refine LeO.ite ?_ ?_)
   | (with_reducible refine LeO.bind ?_ (fun _ => ?_))
   | exact ih0 _ _ _ _ _ _ _ _ _ _ _ _
   | exact ih1 _ _ _ _ _ _ _ _ _ _ _ _
   | exact LeO.none _
   | refine LeO.ite ?_ ?_
   | refine LeO.bind ?_ (fun _ => ?_)
set_option maxHeartbeats 80000000 in
set_option maxRecDepth 100000 in
theorem pool_fields.calls (k:Nat) (a0_0:Int) (a0_1:ByteArray) (a0_2:Int) (a0_3:Int) (a0_4:Int) (r1:Int) (r2:ByteArray) (r3:Int) (r4:Int) (r5:Int) (w:World) (h:pool_fields.f k a0_0 a0_1 a0_2 a0_3 a0_4=some (r1,r2,r3,r4,r5)) :
  Calls Tryz.prog 76 #[.agg #[.int .i64 a0_0,.string a0_1,.int .i64 a0_2,.int .i64 a0_3,.int .i64 a0_4]] w fun e w' => e=.returned (.agg #[.int .i64 r1,.string r2,.int .i64 r3,.int .i64 r4,.int .i64 r5])∧Below w.heap.size w w':=by
 have hu61:=Tryz.underlying61
 have HB:=am_ (Below.refl w.heap.size w)
 have H:(if a0_0=1 then (some (a0_0,a0_1,0,0,0)) else (if a0_0=3 then (pool_fields.j0 k a0_0 (a0_0==3) a0_0 a0_1 a0_2 a0_3 a0_4 a0_0 (⟨#[]⟩:ByteArray) 0 0 0) else (pool_fields.j0 k a0_0 (a0_0==5) a0_0 a0_1 a0_2 a0_3 a0_4 a0_0 (⟨#[]⟩:ByteArray) 0 0 0)))=some (r1,r2,r3,r4,r5):=h
 clear h
 by_cases c2:a0_0=1
 ·rw [if_pos c2] at H
  have c2b0:(a0_0==1)=true:=beq_iff_eq.mpr c2
  have c2b1:(a0_0 != 1)=false:=bne_eq_false_iff_eq.mpr c2
  clear c2
  simp only [Option.some.injEq,Prod.mk.injEq] at H
  obtain ⟨rfl,rfl,rfl,rfl,rfl⟩:=H
  go_enter Tryz.func76,Tryz.ntmps76
  go_wp2_with (first|((with_reducible refine gate_dst (N:=1) rfl ?_);refine box_event ?hg (N:=1) ?hd (cs:=#[.int .i64 a0_0,.string a0_1,.int .i64 a0_2,.int .i64 a0_3,.int .i64 a0_4]) (t:=61) ?hr ?_;(case hd => rfl);(case hg => rfl);(case hr => first|(go_simp;done)|(go_simp;rfl));intro gb101 hg w3 hbox hb;have n0_:=am_ (below_step bl_ hb);have n1_:=am_ (hbox);have n2_:=am_ ((by rw [hg];exact (below_size bl_):w.heap.size≤gb101));have n3_:=am_ ((by rw [hg];exact (below_size bl_):w.heap.size≤gb101));clear HB;have HB:=n0_;have BK101:=n1_;have GW101:=n2_;have GE101:=n3_;clear n0_ n1_ n2_ n3_;clear hb hbox hg)|((with_reducible refine gate_dst (N:=2) rfl ?_);refine box_event ?hg (N:=2) ?hd (cs:=#[.int .i64 0,.string (⟨#[]⟩:ByteArray),.int .i64 0,.int .i64 0,.int .i64 0]) (t:=61) ?hr ?_;(case hd => rfl);(case hg => rfl);(case hr => first|(go_simp;done)|(go_simp;rfl));intro gb102 hg w4 hbox hb;have n0_:=am_ (blk_below (g:=gb101) (o:=.cells #[.int .i64 a0_0,.string a0_1,.int .i64 a0_2,.int .i64 a0_3,.int .i64 a0_4] 61 (0,0)) bk_ hb);have n1_:=am_ (below_step bl_ hb);have n2_:=am_ (hbox);have n3_:=am_ ((by rw [hg];exact (below_size bl_):w.heap.size≤gb102));have n4_:=am_ ((by rw [hg];exact (below_size bl_):w.heap.size≤gb102));have n5_:=am_ ((by rw [hg];exact Nat.ne_of_lt (blk_lt (g:=gb101) (o:=.cells #[.int .i64 a0_0,.string a0_1,.int .i64 a0_2,.int .i64 a0_3,.int .i64 a0_4] 61 (0,0)) bk_):gb101 ≠ gb102));have n6_:=am_ ((by rw [hg];exact Nat.ne_of_gt (blk_lt (g:=gb101) (o:=.cells #[.int .i64 a0_0,.string a0_1,.int .i64 a0_2,.int .i64 a0_3,.int .i64 a0_4] 61 (0,0)) bk_):gb102 ≠ gb101));clear BK101;clear HB;have BK101:=n0_;have HB:=n1_;have BK102:=n2_;have GW102:=n3_;have GE102:=n4_;have NB101_102:=n5_;have NB102_101:=n6_;clear n0_ n1_ n2_ n3_ n4_ n5_ n6_;clear hb hbox hg;have hnb5:=NB101_102.out;have hnc5:=NB102_101.out;obtain ⟨hcz6_0,hcz6_1,hcz6_2,hcz6_3,hcz6_4,hfz6_0,hfz6_1,hfz6_2,hfz6_3,hfz6_4⟩:=blk5_ BK101.out)|((with_reducible refine gate_dst (N:=3) rfl ?_);refine box_event ?hg (N:=3) ?hd (cs:=#[.int .i64 0,.string (⟨#[]⟩:ByteArray),.int .i64 0,.int .i64 0,.int .i64 0]) (t:=61) ?hr ?_;(case hd => rfl);(case hg => rfl);(case hr => first|(go_simp;done)|(go_simp;rfl));intro gb103 hg w7 hbox hb;have n0_:=am_ (blk_below (g:=gb101) (o:=.cells #[.int .i64 a0_0,.string a0_1,.int .i64 a0_2,.int .i64 a0_3,.int .i64 a0_4] 61 (0,0)) bk_ hb);have n1_:=am_ (blk_below (g:=gb102) (o:=.cells #[.int .i64 0,.string (⟨#[]⟩:ByteArray),.int .i64 0,.int .i64 0,.int .i64 0] 61 (0,0)) bk_ hb);have n2_:=am_ (below_step bl_ hb);have n3_:=am_ (hbox);have n4_:=am_ ((by rw [hg];exact (below_size bl_):w.heap.size≤gb103));have n5_:=am_ ((by rw [hg];exact (below_size bl_):w.heap.size≤gb103));have n6_:=am_ ((by rw [hg];exact Nat.ne_of_lt (blk_lt (g:=gb101) (o:=.cells #[.int .i64 a0_0,.string a0_1,.int .i64 a0_2,.int .i64 a0_3,.int .i64 a0_4] 61 (0,0)) bk_):gb101 ≠ gb103));have n7_:=am_ ((by rw [hg];exact Nat.ne_of_gt (blk_lt (g:=gb101) (o:=.cells #[.int .i64 a0_0,.string a0_1,.int .i64 a0_2,.int .i64 a0_3,.int .i64 a0_4] 61 (0,0)) bk_):gb103 ≠ gb101));have n8_:=am_ ((by rw [hg];exact Nat.ne_of_lt (blk_lt (g:=gb102) (o:=.cells #[.int .i64 0,.string (⟨#[]⟩:ByteArray),.int .i64 0,.int .i64 0,.int .i64 0] 61 (0,0)) bk_):gb102 ≠ gb103));have n9_:=am_ ((by rw [hg];exact Nat.ne_of_gt (blk_lt (g:=gb102) (o:=.cells #[.int .i64 0,.string (⟨#[]⟩:ByteArray),.int .i64 0,.int .i64 0,.int .i64 0] 61 (0,0)) bk_):gb103 ≠ gb102));clear BK101;clear BK102;clear HB;have BK101:=n0_;have BK102:=n1_;have HB:=n2_;have BK103:=n3_;have GW103:=n4_;have GE103:=n5_;have NB101_103:=n6_;have NB103_101:=n7_;have NB102_103:=n8_;have NB103_102:=n9_;clear n0_ n1_ n2_ n3_ n4_ n5_ n6_ n7_ n8_ n9_;clear hb hbox hg;have hnb8:=NB103_101.out;have hnc8:=NB101_103.out;have hnb9:=NB103_102.out;have hnc9:=NB102_103.out;obtain ⟨hcz10_0,hcz10_1,hcz10_2,hcz10_3,hcz10_4,hfz10_0,hfz10_1,hfz10_2,hfz10_3,hfz10_4⟩:=blk5_ BK103.out)|((with_reducible refine gate_store (t:=61) (p:=3) rfl ?_);refine store_event (t:=61) (p:=3) (v:=?vo_w11) (w1:=(((((w7.setCell ⟨gb103,0,none⟩ (.int .i64 a0_0)).setCell ⟨gb103,1,none⟩ (.string (⟨#[]⟩:ByteArray))).setCell ⟨gb103,2,none⟩ (.int .i64 0)).setCell ⟨gb103,3,none⟩ (.int .i64 0)).setCell ⟨gb103,4,none⟩ (.int .i64 0))) ?hg ?ho ?hn ?hr ?_;(case ho => rfl);(case hg => rfl);(case hn => rfl);(case hr => first|(go_simp;done)|(go_simp;rfl));intro w11 hw;have n0_:Aside0 (w11.heap[gb101]?=some (.cells #[.int .i64 a0_0,.string a0_1,.int .i64 a0_2,.int .i64 a0_3,.int .i64 a0_4] 61 (0,0))):=⟨(by rw [hw];exact bk_)⟩;have n1_:Aside0 (w11.heap[gb102]?=some (.cells #[.int .i64 0,.string (⟨#[]⟩:ByteArray),.int .i64 0,.int .i64 0,.int .i64 0] 61 (0,0))):=⟨(by rw [hw];exact bk_)⟩;have n2_:Aside0 (w11.heap[gb103]?=some (.cells #[.int .i64 a0_0,.string (⟨#[]⟩:ByteArray),.int .i64 0,.int .i64 0,.int .i64 0] 61 (0,0))):=⟨(by rw [hw];exact (st5_ BK103.out))⟩;have n3_:Aside0 (Below w.heap.size w w11):=⟨(by rw [hw];exact bl_)⟩;clear hw;clear BK101;clear BK102;clear BK103;clear HB;have BK101:=n0_;have BK102:=n1_;have BK103:=n2_;have HB:=n3_;clear n0_ n1_ n2_ n3_;obtain ⟨hcz12_0,hcz12_1,hcz12_2,hcz12_3,hcz12_4,hfz12_0,hfz12_1,hfz12_2,hfz12_3,hfz12_4⟩:=blk5_ BK101.out;obtain ⟨hcz13_0,hcz13_1,hcz13_2,hcz13_3,hcz13_4,hfz13_0,hfz13_1,hfz13_2,hfz13_3,hfz13_4⟩:=blk5_ BK103.out;obtain ⟨hcz14_0,hcz14_1,hcz14_2,hcz14_3,hcz14_4,hfz14_0,hfz14_1,hfz14_2,hfz14_3,hfz14_4⟩:=blk5_ BK102.out)|((with_reducible refine gate_store (t:=61) (p:=2) rfl ?_);refine store_event (t:=61) (p:=2) (v:=?vo_w15) (w1:=((((((w11.setCell ⟨gb103,1,none⟩ (.string a0_1)).setCell ⟨gb102,0,none⟩ (.int .i64 a0_0)).setCell ⟨gb102,1,none⟩ (.string a0_1)).setCell ⟨gb102,2,none⟩ (.int .i64 0)).setCell ⟨gb102,3,none⟩ (.int .i64 0)).setCell ⟨gb102,4,none⟩ (.int .i64 0))) ?hg ?ho ?hn ?hr ?_;(case ho => rfl);(case hg => rfl);(case hn => rfl);(case hr => first|(go_simp;done)|(go_simp;rfl));intro w15 hw;have n0_:Aside0 (w15.heap[gb101]?=some (.cells #[.int .i64 a0_0,.string a0_1,.int .i64 a0_2,.int .i64 a0_3,.int .i64 a0_4] 61 (0,0))):=⟨(by rw [hw];exact bk_)⟩;have n1_:Aside0 (w15.heap[gb102]?=some (.cells #[.int .i64 a0_0,.string a0_1,.int .i64 0,.int .i64 0,.int .i64 0] 61 (0,0))):=⟨(by rw [hw];exact (by (with_reducible repeat (first|refine blk_drewN ?_ _|refine blk_drew ?_|refine blk_alloc ?_ _));refine blk_put (cs:=#[.int .i64 a0_0,.string a0_1,.int .i64 0,.int .i64 0,.int .i64 0]) ?_ 4 _ rfl;(with_reducible repeat (first|refine blk_drewN ?_ _|refine blk_drew ?_|refine blk_alloc ?_ _));refine blk_put (cs:=#[.int .i64 a0_0,.string a0_1,.int .i64 0,.int .i64 0,.int .i64 0]) ?_ 3 _ rfl;(with_reducible repeat (first|refine blk_drewN ?_ _|refine blk_drew ?_|refine blk_alloc ?_ _));refine blk_put (cs:=#[.int .i64 a0_0,.string a0_1,.int .i64 0,.int .i64 0,.int .i64 0]) ?_ 2 _ rfl;(with_reducible repeat (first|refine blk_drewN ?_ _|refine blk_drew ?_|refine blk_alloc ?_ _));refine blk_put (cs:=#[.int .i64 a0_0,.string (⟨#[]⟩:ByteArray),.int .i64 0,.int .i64 0,.int .i64 0]) ?_ 1 _ rfl;(with_reducible repeat (first|refine blk_drewN ?_ _|refine blk_drew ?_|refine blk_alloc ?_ _));refine blk_put (cs:=#[.int .i64 0,.string (⟨#[]⟩:ByteArray),.int .i64 0,.int .i64 0,.int .i64 0]) ?_ 0 _ rfl;(with_reducible repeat (first|refine blk_drewN ?_ _|refine blk_drew ?_|refine blk_alloc ?_ _));refine blk_far ?_ NB102_103.out _;(with_reducible repeat (first|refine blk_drewN ?_ _|refine blk_drew ?_|refine blk_alloc ?_ _));exact BK102.out))⟩;have n2_:Aside0 (w15.heap[gb103]?=some (.cells #[.int .i64 a0_0,.string a0_1,.int .i64 0,.int .i64 0,.int .i64 0] 61 (0,0))):=⟨(by rw [hw];exact (by (with_reducible repeat (first|refine blk_drewN ?_ _|refine blk_drew ?_|refine blk_alloc ?_ _));refine blk_far ?_ NB103_102.out _;(with_reducible repeat (first|refine blk_drewN ?_ _|refine blk_drew ?_|refine blk_alloc ?_ _));refine blk_far ?_ NB103_102.out _;(with_reducible repeat (first|refine blk_drewN ?_ _|refine blk_drew ?_|refine blk_alloc ?_ _));refine blk_far ?_ NB103_102.out _;(with_reducible repeat (first|refine blk_drewN ?_ _|refine blk_drew ?_|refine blk_alloc ?_ _));refine blk_far ?_ NB103_102.out _;(with_reducible repeat (first|refine blk_drewN ?_ _|refine blk_drew ?_|refine blk_alloc ?_ _));refine blk_far ?_ NB103_102.out _;(with_reducible repeat (first|refine blk_drewN ?_ _|refine blk_drew ?_|refine blk_alloc ?_ _));refine blk_put (cs:=#[.int .i64 a0_0,.string (⟨#[]⟩:ByteArray),.int .i64 0,.int .i64 0,.int .i64 0]) ?_ 1 _ rfl;(with_reducible repeat (first|refine blk_drewN ?_ _|refine blk_drew ?_|refine blk_alloc ?_ _));exact BK103.out))⟩;have n3_:Aside0 (Below w.heap.size w w15):=⟨(by rw [hw];exact bl_)⟩;clear hw;clear BK101;clear BK102;clear BK103;clear HB;have BK101:=n0_;have BK102:=n1_;have BK103:=n2_;have HB:=n3_;clear n0_ n1_ n2_ n3_))
  refine bodyPost_ret (results_cell_row rfl _ _ gb102 61 #[.int .i64 a0_0,.string a0_1,.int .i64 0,.int .i64 0,.int .i64 0] (0,0) _ rfl bk_ Tryz.underlying61 rfl (by kernel_rfl)) rfl ?_
  exact ⟨ew_,bl_⟩
 rw [if_neg c2] at H
 have c2b0:(a0_0==1)=false:=beq_eq_false_iff_ne.mpr c2
 have c2b1:(a0_0 != 1)=true:=bne_iff_ne.mpr c2
 have HC16:=am_ H
 clear H
 go_enter Tryz.func76,Tryz.ntmps76
 go_upto_if 11 with (first|((with_reducible refine gate_dst (N:=1) rfl ?_);refine box_event ?hg (N:=1) ?hd (cs:=#[.int .i64 a0_0,.string a0_1,.int .i64 a0_2,.int .i64 a0_3,.int .i64 a0_4]) (t:=61) ?hr ?_;(case hd => rfl);(case hg => rfl);(case hr => first|(go_simp;done)|(go_simp;rfl));intro gb101 hg w17 hbox hb;have n0_:=am_ (below_step bl_ hb);have n1_:=am_ (hbox);have n2_:=am_ ((by rw [hg];exact (below_size bl_):w.heap.size≤gb101));have n3_:=am_ ((by rw [hg];exact (below_size bl_):w.heap.size≤gb101));clear HB;have HB:=n0_;have BK101:=n1_;have GW101:=n2_;have GE101:=n3_;clear n0_ n1_ n2_ n3_;clear hb hbox hg)|((with_reducible refine gate_dst (N:=2) rfl ?_);refine box_event ?hg (N:=2) ?hd (cs:=#[.int .i64 0,.string (⟨#[]⟩:ByteArray),.int .i64 0,.int .i64 0,.int .i64 0]) (t:=61) ?hr ?_;(case hd => rfl);(case hg => rfl);(case hr => first|(go_simp;done)|(go_simp;rfl));intro gb102 hg w18 hbox hb;have n0_:=am_ (blk_below (g:=gb101) (o:=.cells #[.int .i64 a0_0,.string a0_1,.int .i64 a0_2,.int .i64 a0_3,.int .i64 a0_4] 61 (0,0)) bk_ hb);have n1_:=am_ (below_step bl_ hb);have n2_:=am_ (hbox);have n3_:=am_ ((by rw [hg];exact (below_size bl_):w.heap.size≤gb102));have n4_:=am_ ((by rw [hg];exact (below_size bl_):w.heap.size≤gb102));have n5_:=am_ ((by rw [hg];exact Nat.ne_of_lt (blk_lt (g:=gb101) (o:=.cells #[.int .i64 a0_0,.string a0_1,.int .i64 a0_2,.int .i64 a0_3,.int .i64 a0_4] 61 (0,0)) bk_):gb101 ≠ gb102));have n6_:=am_ ((by rw [hg];exact Nat.ne_of_gt (blk_lt (g:=gb101) (o:=.cells #[.int .i64 a0_0,.string a0_1,.int .i64 a0_2,.int .i64 a0_3,.int .i64 a0_4] 61 (0,0)) bk_):gb102 ≠ gb101));clear BK101;clear HB;have BK101:=n0_;have HB:=n1_;have BK102:=n2_;have GW102:=n3_;have GE102:=n4_;have NB101_102:=n5_;have NB102_101:=n6_;clear n0_ n1_ n2_ n3_ n4_ n5_ n6_;clear hb hbox hg;have hnb19:=NB101_102.out;have hnc19:=NB102_101.out;obtain ⟨hcz20_0,hcz20_1,hcz20_2,hcz20_3,hcz20_4,hfz20_0,hfz20_1,hfz20_2,hfz20_3,hfz20_4⟩:=blk5_ BK101.out)|((with_reducible refine gate_dst (N:=3) rfl ?_);refine box_event ?hg (N:=3) ?hd (cs:=#[.int .i64 0,.string (⟨#[]⟩:ByteArray),.int .i64 0,.int .i64 0,.int .i64 0]) (t:=61) ?hr ?_;(case hd => rfl);(case hg => rfl);(case hr => first|(go_simp;done)|(go_simp;rfl));intro gb103 hg w21 hbox hb;have n0_:=am_ (blk_below (g:=gb101) (o:=.cells #[.int .i64 a0_0,.string a0_1,.int .i64 a0_2,.int .i64 a0_3,.int .i64 a0_4] 61 (0,0)) bk_ hb);have n1_:=am_ (blk_below (g:=gb102) (o:=.cells #[.int .i64 0,.string (⟨#[]⟩:ByteArray),.int .i64 0,.int .i64 0,.int .i64 0] 61 (0,0)) bk_ hb);have n2_:=am_ (below_step bl_ hb);have n3_:=am_ (hbox);have n4_:=am_ ((by rw [hg];exact (below_size bl_):w.heap.size≤gb103));have n5_:=am_ ((by rw [hg];exact (below_size bl_):w.heap.size≤gb103));have n6_:=am_ ((by rw [hg];exact Nat.ne_of_lt (blk_lt (g:=gb101) (o:=.cells #[.int .i64 a0_0,.string a0_1,.int .i64 a0_2,.int .i64 a0_3,.int .i64 a0_4] 61 (0,0)) bk_):gb101 ≠ gb103));have n7_:=am_ ((by rw [hg];exact Nat.ne_of_gt (blk_lt (g:=gb101) (o:=.cells #[.int .i64 a0_0,.string a0_1,.int .i64 a0_2,.int .i64 a0_3,.int .i64 a0_4] 61 (0,0)) bk_):gb103 ≠ gb101));have n8_:=am_ ((by rw [hg];exact Nat.ne_of_lt (blk_lt (g:=gb102) (o:=.cells #[.int .i64 0,.string (⟨#[]⟩:ByteArray),.int .i64 0,.int .i64 0,.int .i64 0] 61 (0,0)) bk_):gb102 ≠ gb103));have n9_:=am_ ((by rw [hg];exact Nat.ne_of_gt (blk_lt (g:=gb102) (o:=.cells #[.int .i64 0,.string (⟨#[]⟩:ByteArray),.int .i64 0,.int .i64 0,.int .i64 0] 61 (0,0)) bk_):gb103 ≠ gb102));clear BK101;clear BK102;clear HB;have BK101:=n0_;have BK102:=n1_;have HB:=n2_;have BK103:=n3_;have GW103:=n4_;have GE103:=n5_;have NB101_103:=n6_;have NB103_101:=n7_;have NB102_103:=n8_;have NB103_102:=n9_;clear n0_ n1_ n2_ n3_ n4_ n5_ n6_ n7_ n8_ n9_;clear hb hbox hg;have hnb22:=NB103_101.out;have hnc22:=NB101_103.out;have hnb23:=NB103_102.out;have hnc23:=NB102_103.out;obtain ⟨hcz24_0,hcz24_1,hcz24_2,hcz24_3,hcz24_4,hfz24_0,hfz24_1,hfz24_2,hfz24_3,hfz24_4⟩:=blk5_ BK103.out)|((with_reducible refine gate_store (t:=61) (p:=3) rfl ?_);refine store_event (t:=61) (p:=3) (v:=?vo_w25) (w1:=(((((w21.setCell ⟨gb103,0,none⟩ (.int .i64 a0_0)).setCell ⟨gb103,1,none⟩ (.string (⟨#[]⟩:ByteArray))).setCell ⟨gb103,2,none⟩ (.int .i64 0)).setCell ⟨gb103,3,none⟩ (.int .i64 0)).setCell ⟨gb103,4,none⟩ (.int .i64 0))) ?hg ?ho ?hn ?hr ?_;(case ho => rfl);(case hg => rfl);(case hn => rfl);(case hr => first|(go_simp;done)|(go_simp;rfl));intro w25 hw;have n0_:Aside0 (w25.heap[gb101]?=some (.cells #[.int .i64 a0_0,.string a0_1,.int .i64 a0_2,.int .i64 a0_3,.int .i64 a0_4] 61 (0,0))):=⟨(by rw [hw];exact bk_)⟩;have n1_:Aside0 (w25.heap[gb102]?=some (.cells #[.int .i64 0,.string (⟨#[]⟩:ByteArray),.int .i64 0,.int .i64 0,.int .i64 0] 61 (0,0))):=⟨(by rw [hw];exact bk_)⟩;have n2_:Aside0 (w25.heap[gb103]?=some (.cells #[.int .i64 a0_0,.string (⟨#[]⟩:ByteArray),.int .i64 0,.int .i64 0,.int .i64 0] 61 (0,0))):=⟨(by rw [hw];exact (st5_ BK103.out))⟩;have n3_:Aside0 (Below w.heap.size w w25):=⟨(by rw [hw];exact bl_)⟩;clear hw;clear BK101;clear BK102;clear BK103;clear HB;have BK101:=n0_;have BK102:=n1_;have BK103:=n2_;have HB:=n3_;clear n0_ n1_ n2_ n3_;obtain ⟨hcz26_0,hcz26_1,hcz26_2,hcz26_3,hcz26_4,hfz26_0,hfz26_1,hfz26_2,hfz26_3,hfz26_4⟩:=blk5_ BK101.out))
 (try simp only [Act.put,List.setIfInBounds_toArray,List.set_cons_zero,List.set_cons_succ])
 go_cut [11] (fun v11 wc => ∃ (kq:Nat) (x11_15:Bool),v11=.bool x11_15∧Aside0 (pool_fields.j0 kq a0_0 x11_15 a0_0 a0_1 a0_2 a0_3 a0_4 a0_0 (⟨#[]⟩:ByteArray) 0 0 0=some (r1,r2,r3,r4,r5))∧Aside0 (kq≤k)∧Aside0 (wc.heap[gb101]?=some (.cells #[.int .i64 a0_0,.string a0_1,.int .i64 a0_2,.int .i64 a0_3,.int .i64 a0_4] 61 (0,0)))∧Aside0 (wc.heap[gb102]?=some (.cells #[.int .i64 0,.string (⟨#[]⟩:ByteArray),.int .i64 0,.int .i64 0,.int .i64 0] 61 (0,0)))∧Aside0 (wc.heap[gb103]?=some (.cells #[.int .i64 a0_0,.string (⟨#[]⟩:ByteArray),.int .i64 0,.int .i64 0,.int .i64 0] 61 (0,0)))∧Aside0 (Below w.heap.size w wc))
 case first =>
  have H:=HC16.out
  clear HC16
  by_cases c27:a0_0=3
  ·rw [if_pos c27] at H
   have c27b0:(a0_0==3)=true:=beq_iff_eq.mpr c27
   have c27b1:(a0_0 != 3)=false:=bne_eq_false_iff_eq.mpr c27
   clear c27
   (first|rw [c27b0]|(simp only [i64_w,i32_w];rw [c27b0])|skip)
   have H':=am_ H
   clear H
   go_wp2
   go_meet
   case rel => exact ⟨_,((a0_0==3)),r3_,H',⟨by first|omega|exact Nat.le_refl _⟩,⟨bk_⟩,⟨bk_⟩,⟨bk_⟩,⟨bl_⟩⟩
  rw [if_neg c27] at H
  have c27b0:(a0_0==3)=false:=beq_eq_false_iff_ne.mpr c27
  have c27b1:(a0_0 != 3)=true:=bne_iff_ne.mpr c27
  (first|rw [c27b0]|(simp only [i64_w,i32_w];rw [c27b0])|skip)
  have H':=am_ H
  clear H
  go_wp2
  go_meet
  case rel => exact ⟨_,((a0_0==5)),r3_,H',⟨by first|omega|exact Nat.le_refl _⟩,⟨bk_⟩,⟨bk_⟩,⟨bk_⟩,⟨bl_⟩⟩
 clear HC16
 try clear c2;try clear c2b0;try clear c2b1;try clear hcz20_0;try clear hcz20_1;try clear hcz20_2;try clear hcz20_3;try clear hcz20_4;try clear hcz24_0;try clear hcz24_1;try clear hcz24_2;try clear hcz24_3;try clear hcz24_4;try clear hcz26_0;try clear hcz26_1;try clear hcz26_2;try clear hcz26_3;try clear hcz26_4;try clear hfz20_0;try clear hfz20_1;try clear hfz20_2;try clear hfz20_3;try clear hfz20_4;try clear hfz24_0;try clear hfz24_1;try clear hfz24_2;try clear hfz24_3;try clear hfz24_4;try clear hfz26_0;try clear hfz26_1;try clear hfz26_2;try clear hfz26_3;try clear hfz26_4
 obtain ⟨kq,x11_15,rfl,HA,HJ15,BK101,BK102,BK103,HB⟩:=hcut
 cases kq with
 | zero => exact absurd HA.out (by simp [pool_fields.j0])
 | succ kj15 =>
  have H:=HA.out
  clear HA
  simp only [pool_fields.j0] at H
  by_cases c28:x11_15=true
  ·subst c28
   rw [if_pos rfl] at H
   simp only [Option.some.injEq,Prod.mk.injEq] at H
   obtain ⟨rfl,rfl,rfl,rfl,rfl⟩:=H
   have hnb29:=NB101_102.out
   have hnc29:=NB102_101.out
   have hnb30:=NB101_103.out
   have hnc30:=NB103_101.out
   obtain ⟨hcz31_0,hcz31_1,hcz31_2,hcz31_3,hcz31_4,hfz31_0,hfz31_1,hfz31_2,hfz31_3,hfz31_4⟩:=blk5_ BK101.out
   have hnb32:=NB103_102.out
   have hnc32:=NB102_103.out
   obtain ⟨hcz33_0,hcz33_1,hcz33_2,hcz33_3,hcz33_4,hfz33_0,hfz33_1,hfz33_2,hfz33_3,hfz33_4⟩:=blk5_ BK103.out
   obtain ⟨hcz34_0,hcz34_1,hcz34_2,hcz34_3,hcz34_4,hfz34_0,hfz34_1,hfz34_2,hfz34_3,hfz34_4⟩:=blk5_ BK102.out
   go_wp2_with (first|((with_reducible refine gate_store (t:=61) (p:=2) rfl ?_);refine store_event (t:=61) (p:=2) (v:=?vo_w35) (w1:=((((((wc.setCell ⟨gb103,2,none⟩ (.int .i64 a0_2)).setCell ⟨gb102,0,none⟩ (.int .i64 a0_0)).setCell ⟨gb102,1,none⟩ (.string (⟨#[]⟩:ByteArray))).setCell ⟨gb102,2,none⟩ (.int .i64 a0_2)).setCell ⟨gb102,3,none⟩ (.int .i64 0)).setCell ⟨gb102,4,none⟩ (.int .i64 0))) ?hg ?ho ?hn ?hr ?_;(case ho => rfl);(case hg => rfl);(case hn => rfl);(case hr => first|(go_simp;done)|(go_simp;rfl));intro w35 hw;have n0_:Aside0 (w35.heap[gb101]?=some (.cells #[.int .i64 a0_0,.string a0_1,.int .i64 a0_2,.int .i64 a0_3,.int .i64 a0_4] 61 (0,0))):=⟨(by rw [hw];exact bk_)⟩;have n1_:Aside0 (w35.heap[gb102]?=some (.cells #[.int .i64 a0_0,.string (⟨#[]⟩:ByteArray),.int .i64 a0_2,.int .i64 0,.int .i64 0] 61 (0,0))):=⟨(by rw [hw];exact (by (with_reducible repeat (first|refine blk_drewN ?_ _|refine blk_drew ?_|refine blk_alloc ?_ _));refine blk_put (cs:=#[.int .i64 a0_0,.string (⟨#[]⟩:ByteArray),.int .i64 a0_2,.int .i64 0,.int .i64 0]) ?_ 4 _ rfl;(with_reducible repeat (first|refine blk_drewN ?_ _|refine blk_drew ?_|refine blk_alloc ?_ _));refine blk_put (cs:=#[.int .i64 a0_0,.string (⟨#[]⟩:ByteArray),.int .i64 a0_2,.int .i64 0,.int .i64 0]) ?_ 3 _ rfl;(with_reducible repeat (first|refine blk_drewN ?_ _|refine blk_drew ?_|refine blk_alloc ?_ _));refine blk_put (cs:=#[.int .i64 a0_0,.string (⟨#[]⟩:ByteArray),.int .i64 0,.int .i64 0,.int .i64 0]) ?_ 2 _ rfl;(with_reducible repeat (first|refine blk_drewN ?_ _|refine blk_drew ?_|refine blk_alloc ?_ _));refine blk_put (cs:=#[.int .i64 a0_0,.string (⟨#[]⟩:ByteArray),.int .i64 0,.int .i64 0,.int .i64 0]) ?_ 1 _ rfl;(with_reducible repeat (first|refine blk_drewN ?_ _|refine blk_drew ?_|refine blk_alloc ?_ _));refine blk_put (cs:=#[.int .i64 0,.string (⟨#[]⟩:ByteArray),.int .i64 0,.int .i64 0,.int .i64 0]) ?_ 0 _ rfl;(with_reducible repeat (first|refine blk_drewN ?_ _|refine blk_drew ?_|refine blk_alloc ?_ _));refine blk_far ?_ NB102_103.out _;(with_reducible repeat (first|refine blk_drewN ?_ _|refine blk_drew ?_|refine blk_alloc ?_ _));exact BK102.out))⟩;have n2_:Aside0 (w35.heap[gb103]?=some (.cells #[.int .i64 a0_0,.string (⟨#[]⟩:ByteArray),.int .i64 a0_2,.int .i64 0,.int .i64 0] 61 (0,0))):=⟨(by rw [hw];exact (by (with_reducible repeat (first|refine blk_drewN ?_ _|refine blk_drew ?_|refine blk_alloc ?_ _));refine blk_far ?_ NB103_102.out _;(with_reducible repeat (first|refine blk_drewN ?_ _|refine blk_drew ?_|refine blk_alloc ?_ _));refine blk_far ?_ NB103_102.out _;(with_reducible repeat (first|refine blk_drewN ?_ _|refine blk_drew ?_|refine blk_alloc ?_ _));refine blk_far ?_ NB103_102.out _;(with_reducible repeat (first|refine blk_drewN ?_ _|refine blk_drew ?_|refine blk_alloc ?_ _));refine blk_far ?_ NB103_102.out _;(with_reducible repeat (first|refine blk_drewN ?_ _|refine blk_drew ?_|refine blk_alloc ?_ _));refine blk_far ?_ NB103_102.out _;(with_reducible repeat (first|refine blk_drewN ?_ _|refine blk_drew ?_|refine blk_alloc ?_ _));refine blk_put (cs:=#[.int .i64 a0_0,.string (⟨#[]⟩:ByteArray),.int .i64 0,.int .i64 0,.int .i64 0]) ?_ 2 _ rfl;(with_reducible repeat (first|refine blk_drewN ?_ _|refine blk_drew ?_|refine blk_alloc ?_ _));exact BK103.out))⟩;have n3_:Aside0 (Below w.heap.size w w35):=⟨(by rw [hw];exact bl_)⟩;clear hw;clear BK101;clear BK102;clear BK103;clear HB;have BK101:=n0_;have BK102:=n1_;have BK103:=n2_;have HB:=n3_;clear n0_ n1_ n2_ n3_))
   refine bodyPost_ret (results_cell_row rfl _ _ gb102 61 #[.int .i64 a0_0,.string (⟨#[]⟩:ByteArray),.int .i64 a0_2,.int .i64 0,.int .i64 0] (0,0) _ rfl bk_ Tryz.underlying61 rfl (by kernel_rfl)) rfl ?_
   exact ⟨ew_,bl_⟩
  replace c28:=Bool.eq_false_iff.mpr c28
  subst c28
  rw [if_neg (show ¬ (false=true) by decide)] at H
  have HC36:=am_ H
  clear H
  go_upto_if 14 with (fail)
  go_cut [14] (fun v14 wc => ∃ (kq:Nat) (x14_35:Bool),v14=.bool x14_35∧Aside0 (pool_fields.j1 kq a0_0 x14_35 a0_0 a0_1 a0_2 a0_3 a0_4 a0_0 (⟨#[]⟩:ByteArray) 0 0 0=some (r1,r2,r3,r4,r5))∧Aside0 (kq≤kj15)∧Aside0 (wc.heap[gb101]?=some (.cells #[.int .i64 a0_0,.string a0_1,.int .i64 a0_2,.int .i64 a0_3,.int .i64 a0_4] 61 (0,0)))∧Aside0 (wc.heap[gb102]?=some (.cells #[.int .i64 0,.string (⟨#[]⟩:ByteArray),.int .i64 0,.int .i64 0,.int .i64 0] 61 (0,0)))∧Aside0 (wc.heap[gb103]?=some (.cells #[.int .i64 a0_0,.string (⟨#[]⟩:ByteArray),.int .i64 0,.int .i64 0,.int .i64 0] 61 (0,0)))∧Aside0 (Below w.heap.size w wc))
  case first =>
   have H:=HC36.out
   clear HC36
   by_cases c37:a0_0=9
   ·rw [if_pos c37] at H
    have c37b0:(a0_0==9)=true:=beq_iff_eq.mpr c37
    have c37b1:(a0_0 != 9)=false:=bne_eq_false_iff_eq.mpr c37
    clear c37
    (first|rw [c37b0]|(simp only [i64_w,i32_w];rw [c37b0])|skip)
    have H':=am_ H
    clear H
    go_wp2
    go_meet
    case rel => exact ⟨_,((a0_0==9)),r3_,H',⟨by have:=HJ15.out;first|omega|exact Nat.le_refl _⟩,⟨bk_⟩,⟨bk_⟩,⟨bk_⟩,⟨bl_⟩⟩
   rw [if_neg c37] at H
   have c37b0:(a0_0==9)=false:=beq_eq_false_iff_ne.mpr c37
   have c37b1:(a0_0 != 9)=true:=bne_iff_ne.mpr c37
   (first|rw [c37b0]|(simp only [i64_w,i32_w];rw [c37b0])|skip)
   by_cases c38:a0_0=10
   ·rw [if_pos c38] at H
    have c38b0:(a0_0==10)=true:=beq_iff_eq.mpr c38
    have c38b1:(a0_0 != 10)=false:=bne_eq_false_iff_eq.mpr c38
    clear c38
    have H':=am_ H
    clear H
    go_wp2
    go_meet
    case rel => exact ⟨_,((a0_0==10)),r3_,H',⟨by have:=HJ15.out;first|omega|exact Nat.le_refl _⟩,⟨bk_⟩,⟨bk_⟩,⟨bk_⟩,⟨bl_⟩⟩
   rw [if_neg c38] at H
   have c38b0:(a0_0==10)=false:=beq_eq_false_iff_ne.mpr c38
   have c38b1:(a0_0 != 10)=true:=bne_iff_ne.mpr c38
   have H':=am_ H
   clear H
   go_wp2
   go_meet
   case rel => exact ⟨_,((a0_0==12)),r3_,H',⟨by have:=HJ15.out;first|omega|exact Nat.le_refl _⟩,⟨bk_⟩,⟨bk_⟩,⟨bk_⟩,⟨bl_⟩⟩
  clear HC36
  try clear c28
  obtain ⟨kq,x14_35,rfl,HA,HJ35,BK101,BK102,BK103,HB⟩:=hcut
  cases kq with
  | zero => exact absurd HA.out (by simp [pool_fields.j1])
  | succ kj35 =>
   have H:=HA.out
   clear HA
   simp only [pool_fields.j1] at H
   by_cases c39:x14_35=true
   ·subst c39
    rw [if_pos rfl] at H
    simp only [Option.some.injEq,Prod.mk.injEq] at H
    obtain ⟨rfl,rfl,rfl,rfl,rfl⟩:=H
    have hnb40:=NB101_102.out
    have hnc40:=NB102_101.out
    have hnb41:=NB101_103.out
    have hnc41:=NB103_101.out
    obtain ⟨hcz42_0,hcz42_1,hcz42_2,hcz42_3,hcz42_4,hfz42_0,hfz42_1,hfz42_2,hfz42_3,hfz42_4⟩:=blk5_ BK101.out
    have hnb43:=NB103_102.out
    have hnc43:=NB102_103.out
    obtain ⟨hcz44_0,hcz44_1,hcz44_2,hcz44_3,hcz44_4,hfz44_0,hfz44_1,hfz44_2,hfz44_3,hfz44_4⟩:=blk5_ BK103.out
    obtain ⟨hcz45_0,hcz45_1,hcz45_2,hcz45_3,hcz45_4,hfz45_0,hfz45_1,hfz45_2,hfz45_3,hfz45_4⟩:=blk5_ BK102.out
    go_wp2_with (first|((with_reducible refine gate_store (t:=61) (p:=2) rfl ?_);refine store_event (t:=61) (p:=2) (v:=?vo_w46) (w1:=(((((((wc.setCell ⟨gb103,4,none⟩ (.int .i64 a0_4)).setCell ⟨gb103,3,none⟩ (.int .i64 a0_3)).setCell ⟨gb102,0,none⟩ (.int .i64 a0_0)).setCell ⟨gb102,1,none⟩ (.string (⟨#[]⟩:ByteArray))).setCell ⟨gb102,2,none⟩ (.int .i64 0)).setCell ⟨gb102,3,none⟩ (.int .i64 a0_3)).setCell ⟨gb102,4,none⟩ (.int .i64 a0_4))) ?hg ?ho ?hn ?hr ?_;(case ho => rfl);(case hg => rfl);(case hn => rfl);(case hr => first|(go_simp;done)|(go_simp;rfl));intro w46 hw;have n0_:Aside0 (w46.heap[gb101]?=some (.cells #[.int .i64 a0_0,.string a0_1,.int .i64 a0_2,.int .i64 a0_3,.int .i64 a0_4] 61 (0,0))):=⟨(by rw [hw];exact bk_)⟩;have n1_:Aside0 (w46.heap[gb102]?=some (.cells #[.int .i64 a0_0,.string (⟨#[]⟩:ByteArray),.int .i64 0,.int .i64 a0_3,.int .i64 a0_4] 61 (0,0))):=⟨(by rw [hw];exact (by (with_reducible repeat (first|refine blk_drewN ?_ _|refine blk_drew ?_|refine blk_alloc ?_ _));refine blk_put (cs:=#[.int .i64 a0_0,.string (⟨#[]⟩:ByteArray),.int .i64 0,.int .i64 a0_3,.int .i64 0]) ?_ 4 _ rfl;(with_reducible repeat (first|refine blk_drewN ?_ _|refine blk_drew ?_|refine blk_alloc ?_ _));refine blk_put (cs:=#[.int .i64 a0_0,.string (⟨#[]⟩:ByteArray),.int .i64 0,.int .i64 0,.int .i64 0]) ?_ 3 _ rfl;(with_reducible repeat (first|refine blk_drewN ?_ _|refine blk_drew ?_|refine blk_alloc ?_ _));refine blk_put (cs:=#[.int .i64 a0_0,.string (⟨#[]⟩:ByteArray),.int .i64 0,.int .i64 0,.int .i64 0]) ?_ 2 _ rfl;(with_reducible repeat (first|refine blk_drewN ?_ _|refine blk_drew ?_|refine blk_alloc ?_ _));refine blk_put (cs:=#[.int .i64 a0_0,.string (⟨#[]⟩:ByteArray),.int .i64 0,.int .i64 0,.int .i64 0]) ?_ 1 _ rfl;(with_reducible repeat (first|refine blk_drewN ?_ _|refine blk_drew ?_|refine blk_alloc ?_ _));refine blk_put (cs:=#[.int .i64 0,.string (⟨#[]⟩:ByteArray),.int .i64 0,.int .i64 0,.int .i64 0]) ?_ 0 _ rfl;(with_reducible repeat (first|refine blk_drewN ?_ _|refine blk_drew ?_|refine blk_alloc ?_ _));refine blk_far ?_ NB102_103.out _;(with_reducible repeat (first|refine blk_drewN ?_ _|refine blk_drew ?_|refine blk_alloc ?_ _));refine blk_far ?_ NB102_103.out _;(with_reducible repeat (first|refine blk_drewN ?_ _|refine blk_drew ?_|refine blk_alloc ?_ _));exact BK102.out))⟩;have n2_:Aside0 (w46.heap[gb103]?=some (.cells #[.int .i64 a0_0,.string (⟨#[]⟩:ByteArray),.int .i64 0,.int .i64 a0_3,.int .i64 a0_4] 61 (0,0))):=⟨(by rw [hw];exact (by (with_reducible repeat (first|refine blk_drewN ?_ _|refine blk_drew ?_|refine blk_alloc ?_ _));refine blk_far ?_ NB103_102.out _;(with_reducible repeat (first|refine blk_drewN ?_ _|refine blk_drew ?_|refine blk_alloc ?_ _));refine blk_far ?_ NB103_102.out _;(with_reducible repeat (first|refine blk_drewN ?_ _|refine blk_drew ?_|refine blk_alloc ?_ _));refine blk_far ?_ NB103_102.out _;(with_reducible repeat (first|refine blk_drewN ?_ _|refine blk_drew ?_|refine blk_alloc ?_ _));refine blk_far ?_ NB103_102.out _;(with_reducible repeat (first|refine blk_drewN ?_ _|refine blk_drew ?_|refine blk_alloc ?_ _));refine blk_far ?_ NB103_102.out _;(with_reducible repeat (first|refine blk_drewN ?_ _|refine blk_drew ?_|refine blk_alloc ?_ _));refine blk_put (cs:=#[.int .i64 a0_0,.string (⟨#[]⟩:ByteArray),.int .i64 0,.int .i64 0,.int .i64 a0_4]) ?_ 3 _ rfl;(with_reducible repeat (first|refine blk_drewN ?_ _|refine blk_drew ?_|refine blk_alloc ?_ _));refine blk_put (cs:=#[.int .i64 a0_0,.string (⟨#[]⟩:ByteArray),.int .i64 0,.int .i64 0,.int .i64 0]) ?_ 4 _ rfl;(with_reducible repeat (first|refine blk_drewN ?_ _|refine blk_drew ?_|refine blk_alloc ?_ _));exact BK103.out))⟩;have n3_:Aside0 (Below w.heap.size w w46):=⟨(by rw [hw];exact bl_)⟩;clear hw;clear BK101;clear BK102;clear BK103;clear HB;have BK101:=n0_;have BK102:=n1_;have BK103:=n2_;have HB:=n3_;clear n0_ n1_ n2_ n3_))
    refine bodyPost_ret (results_cell_row rfl _ _ gb102 61 #[.int .i64 a0_0,.string (⟨#[]⟩:ByteArray),.int .i64 0,.int .i64 a0_3,.int .i64 a0_4] (0,0) _ rfl bk_ Tryz.underlying61 rfl (by kernel_rfl)) rfl ?_
    exact ⟨ew_,bl_⟩
   replace c39:=Bool.eq_false_iff.mpr c39
   subst c39
   rw [if_neg (show ¬ (false=true) by decide)] at H
   by_cases c47:a0_0=7
   ·rw [if_pos c47] at H
    have c47b0:(a0_0==7)=true:=beq_iff_eq.mpr c47
    have c47b1:(a0_0 != 7)=false:=bne_eq_false_iff_eq.mpr c47
    clear c47
    simp only [Option.some.injEq,Prod.mk.injEq] at H
    obtain ⟨rfl,rfl,rfl,rfl,rfl⟩:=H
    have hnb48:=NB101_102.out
    have hnc48:=NB102_101.out
    have hnb49:=NB101_103.out
    have hnc49:=NB103_101.out
    obtain ⟨hcz50_0,hcz50_1,hcz50_2,hcz50_3,hcz50_4,hfz50_0,hfz50_1,hfz50_2,hfz50_3,hfz50_4⟩:=blk5_ BK101.out
    have hnb51:=NB103_102.out
    have hnc51:=NB102_103.out
    obtain ⟨hcz52_0,hcz52_1,hcz52_2,hcz52_3,hcz52_4,hfz52_0,hfz52_1,hfz52_2,hfz52_3,hfz52_4⟩:=blk5_ BK103.out
    obtain ⟨hcz53_0,hcz53_1,hcz53_2,hcz53_3,hcz53_4,hfz53_0,hfz53_1,hfz53_2,hfz53_3,hfz53_4⟩:=blk5_ BK102.out
    go_wp2_with (first|((with_reducible refine gate_store (t:=61) (p:=2) rfl ?_);refine store_event (t:=61) (p:=2) (v:=?vo_w54) (w1:=((((((wc.setCell ⟨gb103,3,none⟩ (.int .i64 a0_3)).setCell ⟨gb102,0,none⟩ (.int .i64 a0_0)).setCell ⟨gb102,1,none⟩ (.string (⟨#[]⟩:ByteArray))).setCell ⟨gb102,2,none⟩ (.int .i64 0)).setCell ⟨gb102,3,none⟩ (.int .i64 a0_3)).setCell ⟨gb102,4,none⟩ (.int .i64 0))) ?hg ?ho ?hn ?hr ?_;(case ho => rfl);(case hg => rfl);(case hn => rfl);(case hr => first|(go_simp;done)|(go_simp;rfl));intro w54 hw;have n0_:Aside0 (w54.heap[gb101]?=some (.cells #[.int .i64 a0_0,.string a0_1,.int .i64 a0_2,.int .i64 a0_3,.int .i64 a0_4] 61 (0,0))):=⟨(by rw [hw];exact bk_)⟩;have n1_:Aside0 (w54.heap[gb102]?=some (.cells #[.int .i64 a0_0,.string (⟨#[]⟩:ByteArray),.int .i64 0,.int .i64 a0_3,.int .i64 0] 61 (0,0))):=⟨(by rw [hw];exact (by (with_reducible repeat (first|refine blk_drewN ?_ _|refine blk_drew ?_|refine blk_alloc ?_ _));refine blk_put (cs:=#[.int .i64 a0_0,.string (⟨#[]⟩:ByteArray),.int .i64 0,.int .i64 a0_3,.int .i64 0]) ?_ 4 _ rfl;(with_reducible repeat (first|refine blk_drewN ?_ _|refine blk_drew ?_|refine blk_alloc ?_ _));refine blk_put (cs:=#[.int .i64 a0_0,.string (⟨#[]⟩:ByteArray),.int .i64 0,.int .i64 0,.int .i64 0]) ?_ 3 _ rfl;(with_reducible repeat (first|refine blk_drewN ?_ _|refine blk_drew ?_|refine blk_alloc ?_ _));refine blk_put (cs:=#[.int .i64 a0_0,.string (⟨#[]⟩:ByteArray),.int .i64 0,.int .i64 0,.int .i64 0]) ?_ 2 _ rfl;(with_reducible repeat (first|refine blk_drewN ?_ _|refine blk_drew ?_|refine blk_alloc ?_ _));refine blk_put (cs:=#[.int .i64 a0_0,.string (⟨#[]⟩:ByteArray),.int .i64 0,.int .i64 0,.int .i64 0]) ?_ 1 _ rfl;(with_reducible repeat (first|refine blk_drewN ?_ _|refine blk_drew ?_|refine blk_alloc ?_ _));refine blk_put (cs:=#[.int .i64 0,.string (⟨#[]⟩:ByteArray),.int .i64 0,.int .i64 0,.int .i64 0]) ?_ 0 _ rfl;(with_reducible repeat (first|refine blk_drewN ?_ _|refine blk_drew ?_|refine blk_alloc ?_ _));refine blk_far ?_ NB102_103.out _;(with_reducible repeat (first|refine blk_drewN ?_ _|refine blk_drew ?_|refine blk_alloc ?_ _));exact BK102.out))⟩;have n2_:Aside0 (w54.heap[gb103]?=some (.cells #[.int .i64 a0_0,.string (⟨#[]⟩:ByteArray),.int .i64 0,.int .i64 a0_3,.int .i64 0] 61 (0,0))):=⟨(by rw [hw];exact (by (with_reducible repeat (first|refine blk_drewN ?_ _|refine blk_drew ?_|refine blk_alloc ?_ _));refine blk_far ?_ NB103_102.out _;(with_reducible repeat (first|refine blk_drewN ?_ _|refine blk_drew ?_|refine blk_alloc ?_ _));refine blk_far ?_ NB103_102.out _;(with_reducible repeat (first|refine blk_drewN ?_ _|refine blk_drew ?_|refine blk_alloc ?_ _));refine blk_far ?_ NB103_102.out _;(with_reducible repeat (first|refine blk_drewN ?_ _|refine blk_drew ?_|refine blk_alloc ?_ _));refine blk_far ?_ NB103_102.out _;(with_reducible repeat (first|refine blk_drewN ?_ _|refine blk_drew ?_|refine blk_alloc ?_ _));refine blk_far ?_ NB103_102.out _;(with_reducible repeat (first|refine blk_drewN ?_ _|refine blk_drew ?_|refine blk_alloc ?_ _));refine blk_put (cs:=#[.int .i64 a0_0,.string (⟨#[]⟩:ByteArray),.int .i64 0,.int .i64 0,.int .i64 0]) ?_ 3 _ rfl;(with_reducible repeat (first|refine blk_drewN ?_ _|refine blk_drew ?_|refine blk_alloc ?_ _));exact BK103.out))⟩;have n3_:Aside0 (Below w.heap.size w w54):=⟨(by rw [hw];exact bl_)⟩;clear hw;clear BK101;clear BK102;clear BK103;clear HB;have BK101:=n0_;have BK102:=n1_;have BK103:=n2_;have HB:=n3_;clear n0_ n1_ n2_ n3_))
    refine bodyPost_ret (results_cell_row rfl _ _ gb102 61 #[.int .i64 a0_0,.string (⟨#[]⟩:ByteArray),.int .i64 0,.int .i64 a0_3,.int .i64 0] (0,0) _ rfl bk_ Tryz.underlying61 rfl (by kernel_rfl)) rfl ?_
    exact ⟨ew_,bl_⟩
   rw [if_neg c47] at H
   have c47b0:(a0_0==7)=false:=beq_eq_false_iff_ne.mpr c47
   have c47b1:(a0_0 != 7)=true:=bne_iff_ne.mpr c47
   simp only [Option.some.injEq,Prod.mk.injEq] at H
   obtain ⟨rfl,rfl,rfl,rfl,rfl⟩:=H
   have hnb55:=NB103_101.out
   have hnc55:=NB101_103.out
   have hnb56:=NB103_102.out
   have hnc56:=NB102_103.out
   obtain ⟨hcz57_0,hcz57_1,hcz57_2,hcz57_3,hcz57_4,hfz57_0,hfz57_1,hfz57_2,hfz57_3,hfz57_4⟩:=blk5_ BK103.out
   have hnb58:=NB102_101.out
   have hnc58:=NB101_102.out
   obtain ⟨hcz59_0,hcz59_1,hcz59_2,hcz59_3,hcz59_4,hfz59_0,hfz59_1,hfz59_2,hfz59_3,hfz59_4⟩:=blk5_ BK102.out
   go_wp2_with (first|((with_reducible refine gate_store (t:=61) (p:=2) rfl ?_);refine store_event (t:=61) (p:=2) (v:=?vo_w60) (w1:=(((((wc.setCell ⟨gb102,0,none⟩ (.int .i64 a0_0)).setCell ⟨gb102,1,none⟩ (.string (⟨#[]⟩:ByteArray))).setCell ⟨gb102,2,none⟩ (.int .i64 0)).setCell ⟨gb102,3,none⟩ (.int .i64 0)).setCell ⟨gb102,4,none⟩ (.int .i64 0))) ?hg ?ho ?hn ?hr ?_;(case ho => rfl);(case hg => rfl);(case hn => rfl);(case hr => first|(go_simp;done)|(go_simp;rfl));intro w60 hw;have n0_:Aside0 (w60.heap[gb101]?=some (.cells #[.int .i64 a0_0,.string a0_1,.int .i64 a0_2,.int .i64 a0_3,.int .i64 a0_4] 61 (0,0))):=⟨(by rw [hw];exact bk_)⟩;have n1_:Aside0 (w60.heap[gb102]?=some (.cells #[.int .i64 a0_0,.string (⟨#[]⟩:ByteArray),.int .i64 0,.int .i64 0,.int .i64 0] 61 (0,0))):=⟨(by rw [hw];exact (st5_ BK102.out))⟩;have n2_:Aside0 (w60.heap[gb103]?=some (.cells #[.int .i64 a0_0,.string (⟨#[]⟩:ByteArray),.int .i64 0,.int .i64 0,.int .i64 0] 61 (0,0))):=⟨(by rw [hw];exact bk_)⟩;have n3_:Aside0 (Below w.heap.size w w60):=⟨(by rw [hw];exact bl_)⟩;clear hw;clear BK101;clear BK102;clear BK103;clear HB;have BK101:=n0_;have BK102:=n1_;have BK103:=n2_;have HB:=n3_;clear n0_ n1_ n2_ n3_))
   refine bodyPost_ret (results_cell_row rfl _ _ gb102 61 #[.int .i64 a0_0,.string (⟨#[]⟩:ByteArray),.int .i64 0,.int .i64 0,.int .i64 0] (0,0) _ rfl bk_ Tryz.underlying61 rfl (by kernel_rfl)) rfl ?_
   exact ⟨ew_,bl_⟩
def pool_is.f (l0:List (S61)) (a1:Int) (a2:Int):Option (Bool):=if a1 > 0 then (if a1 < (l0.length:Int) then (if 0≤a1 then (some (((rd_T61 l0 a1).f0)==a2)) else (none)) else (some false)) else (some false)
set_option maxHeartbeats 80000000 in
set_option maxRecDepth 100000 in
theorem pool_is.calls (A0:Option Addr) (c0:Nat) (l0:List (S61)) (a1:Int) (a2:Int) (r:Bool) (w:World) (hr0:Kd.C k61 w A0 l0.length l0) (hc0:l0.length≤c0) (h:pool_is.f l0 a1 a2=some r) :
  Calls Tryz.prog 62 #[.slice A0 l0.length c0,.int .i64 a1,.int .i64 a2] w fun e w' => e=.returned (.bool r)∧Drawn0 w w':=by
 have HR0:=am_ hr0
 have HC0:=am_ hc0
 clear hr0 hc0
 have H:(if a1 > 0 then (if a1 < (l0.length:Int) then (if 0≤a1 then (some (((rd_T61 l0 a1).f0)==a2)) else (none)) else (some false)) else (some false))=some r:=h
 clear h
 by_cases c4:a1 > 0
 rotate_left
 ·rw [if_neg c4] at H
  have c4b0:decide (0 < a1)=false:=decide_eq_false c4
  clear c4
  obtain rfl:=Option.some.inj H
  go_enter Tryz.func62,Tryz.ntmps62
  go_wp2
  go_ret
  exact ⟨by first|rfl|(simp;done)|(simp [*];done),by repeat (first|exact Drawn0.refl _|apply Drawn0.step)⟩
 rw [if_pos c4] at H
 have c4b0:decide (0 < a1)=true:=decide_eq_true c4
 clear c4
 by_cases c5:a1 < (l0.length:Int)
 ·rw [if_pos c5] at H
  have c5b0:decide (a1 < (l0.length:Int))=true:=decide_eq_true c5
  clear c5
  by_cases c6:0≤a1
  ·rw [if_pos c6] at H
   have c6b0:decide (0≤a1)=true:=decide_eq_true c6
   clear c6
   obtain rfl:=Option.some.inj H
   have p104:0≤(a1:Int):=od_
   have q104:a1 < (l0.length:Int):=od_
   obtain ⟨ad104,e104,hx104_0,hx104_1,hx104_2,hx104_3,hx104_4⟩:=at_T61 HR0.out a1 p104 q104
   cases e104
   replace p104:=eq_true p104
   replace q104:=eq_true q104
   go_enter Tryz.func62,Tryz.ntmps62
   go_wp2
   go_ret
   exact ⟨by first|rfl|(simp;done)|(simp [*];done),by repeat (first|exact Drawn0.refl _|apply Drawn0.step)⟩
  rw [if_neg c6] at H
  exact absurd H (by simp)
 rw [if_neg c5] at H
 have c5b0:decide (a1 < (l0.length:Int))=false:=decide_eq_false c5
 clear c5
 obtain rfl:=Option.some.inj H
 go_enter Tryz.func62,Tryz.ntmps62
 go_wp2
 go_ret
 exact ⟨by first|rfl|(simp;done)|(simp [*];done),by repeat (first|exact Drawn0.refl _|apply Drawn0.step)⟩
end Go.Proofs.YtamdobdmjcgmoaaGreatDoor.Px
namespace Go.Proofs.YtamdobdmjcgmoaaGreatDoor.Px
open Go.RowKit Go.Proofs.YtamdobdmjcgmoaaGreatDoorW.PrintWords Go.Proofs.YtamdobdmjcgmoaaGreatDoorW.PrintLast Go.Proofs.YtamdobdmjcgmoaaGreatDoorW.PrintMore
attribute [local go_sem] max2_int min2_int max_two min_two max_three min_three max_four min_four
set_option linter.unusedVariables false
set_option linter.unusedSimpArgs false
mutual
def pool_leads.j0:Nat→List (S61)→Int→Bool→Int→ByteArray→Int→Int→Int→Option (Bool)
 | 0,_,_,_,_,_,_,_,_ => none
 | k + 1,x0,x6,x7,x106000,x106001,x106002,x106003,x106004 => if x7=true then (some true) else (if x6=3 then (some ((wrap64 (wrap32 (x106002)))==x106002)) else (if x6=7 then ((pool_is.f x0 x106003 1).bind fun t106 => (some t106)) else (if x6=12 then ((pool_is.f x0 x106003 1).bind fun t107 => (if t107=true then ((pool_is.f x0 x106004 1).bind fun t108 => (some t108)) else (some false))) else (if x6=9 then (pool_leads.j1 k x0 (x6==9) x106000 x106001 x106002 x106003 x106004) else (pool_leads.j1 k x0 (x6==10) x106000 x106001 x106002 x106003 x106004)))))
def pool_leads.j1:Nat→List (S61)→Bool→Int→ByteArray→Int→Int→Int→Option (Bool)
 | 0,_,_,_,_,_,_,_ => none
 | k + 1,x0,x37,x106000,x106001,x106002,x106003,x106004 => if x37=true then ((pool_is.f x0 x106003 7).bind fun t109 => (if t109=true then ((pool_is.f x0 x106004 12).bind fun t110 => (some t110)) else (some false))) else (some false)
end
def pool_leads.f (k:Nat) (l0:List (S61)) (a1_0:Int) (a1_1:ByteArray) (a1_2:Int) (a1_3:Int) (a1_4:Int):Option (Bool):=if a1_0=1 then (pool_leads.j0 k l0 a1_0 (a1_0==1) a1_0 a1_1 a1_2 a1_3 a1_4) else (pool_leads.j0 k l0 a1_0 (a1_0==5) a1_0 a1_1 a1_2 a1_3 a1_4)
theorem pool_leads.mono_l:∀ k,(∀ y0 y1 y2 y3 y4 y5 y6 y7,LeO (pool_leads.j0 k y0 y1 y2 y3 y4 y5 y6 y7) (pool_leads.j0 (k + 1) y0 y1 y2 y3 y4 y5 y6 y7))∧(∀ y0 y1 y2 y3 y4 y5 y6,LeO (pool_leads.j1 k y0 y1 y2 y3 y4 y5 y6) (pool_leads.j1 (k + 1) y0 y1 y2 y3 y4 y5 y6))
 | 0 => ⟨fun _ _ _ _ _ _ _ _ r h => by simp [pool_leads.j0] at h,fun _ _ _ _ _ _ _ r h => by simp [pool_leads.j1] at h⟩
 | k + 1 => by
  obtain ⟨ih0,ih1⟩:=pool_leads.mono_l k
  refine ⟨?_,?_⟩
  ·intro y0 y1 y2 y3 y4 y5 y6 y7
   unfold pool_leads.j0
   repeat' first
   | (with_reducible exact ih0 _ _ _ _ _ _ _ _)
   | (with_reducible exact ih1 _ _ _ _ _ _ _)
   | (with_reducible exact LeO.refl _)
   | (with_reducible exact LeO.none _)
   | (with_reducible refine LeO.ite ?_ ?_)
   | (with_reducible refine LeO.bind ?_ (fun _ => ?_))
   | exact ih0 _ _ _ _ _ _ _ _
   | exact ih1 _ _ _ _ _ _ _
   | exact LeO.none _
   | refine LeO.ite ?_ ?_
   | refine LeO.bind ?_ (fun _ => ?_)
  intro y0 y1 y2 y3 y4 y5 y6
  unfold pool_leads.j1
  repeat' first
  | (with_reducible exact ih0 _ _ _ _ _ _ _ _)
  | (with_reducible exact ih1 _ _ _ _ _ _ _)
  | (with_reducible exact LeO.refl _)
  | (with_reducible exact LeO.none _)
  | (with_reducible refine LeO.ite ?_ ?_)
  | (with_reducible refine LeO.bind ?_ (fun _ => ?_))
  | exact ih0 _ _ _ _ _ _ _ _
  | exact ih1 _ _ _ _ _ _ _
  | exact LeO.none _
  | refine LeO.ite ?_ ?_
  | refine LeO.bind ?_ (fun _ => ?_)
theorem pool_leads.mono:∀ a0 a1 a2 a3 a4 a5 k,LeO (pool_leads.f k a0 a1 a2 a3 a4 a5) (pool_leads.f (k + 1) a0 a1 a2 a3 a4 a5):=by
 intro a0 a1 a2 a3 a4 a5 k
 obtain ⟨ih0,ih1⟩:=pool_leads.mono_l k
 unfold pool_leads.f
 repeat' first
   | (with_reducible exact ih0 _ _ _ _ _ _ _ _)
   | (with_reducible exact ih1 _ _ _ _ _ _ _)
   | (with_reducible exact LeO.refl _)
   | (with_reducible exact LeO.none _)
   | (with_reducible refine LeO.ite ?_ ?_)
   | (with_reducible refine LeO.bind ?_ (fun _ => ?_))
   | exact ih0 _ _ _ _ _ _ _ _
   | exact ih1 _ _ _ _ _ _ _
   | exact LeO.none _
   | refine LeO.ite ?_ ?_
   | refine LeO.bind ?_ (fun _ => ?_)
set_option maxHeartbeats 80000000 in
set_option maxRecDepth 100000 in
theorem pool_leads.calls (k:Nat) (A0:Option Addr) (c0:Nat) (l0:List (S61)) (a1_0:Int) (a1_1:ByteArray) (a1_2:Int) (a1_3:Int) (a1_4:Int) (r:Bool) (w:World) (hr0:Kd.C k61 w A0 l0.length l0) (hc0:l0.length≤c0) (h:pool_leads.f k l0 a1_0 a1_1 a1_2 a1_3 a1_4=some r) :
  Calls Tryz.prog 77 #[.slice A0 l0.length c0,.agg #[.int .i64 a1_0,.string a1_1,.int .i64 a1_2,.int .i64 a1_3,.int .i64 a1_4]] w fun e w' => e=.returned (.bool r)∧Below w.heap.size w w':=by
 have hu61:=Tryz.underlying61
 have HR0:=am_ hr0
 have HC0:=am_ hc0
 clear hr0 hc0
 have HB:=am_ (Below.refl w.heap.size w)
 have H:(if a1_0=1 then (pool_leads.j0 k l0 a1_0 (a1_0==1) a1_0 a1_1 a1_2 a1_3 a1_4) else (pool_leads.j0 k l0 a1_0 (a1_0==5) a1_0 a1_1 a1_2 a1_3 a1_4))=some r:=h
 clear h
 have HC3:=am_ H
 clear H
 go_enter Tryz.func77,Tryz.ntmps77
 go_upto_if 7 with (first|((with_reducible refine gate_dst (N:=3) rfl ?_);refine box_event ?hg (N:=3) ?hd (cs:=#[.int .i64 a1_0,.string a1_1,.int .i64 a1_2,.int .i64 a1_3,.int .i64 a1_4]) (t:=61) ?hr ?_;(case hd => rfl);(case hg => rfl);(case hr => first|(go_simp;done)|(go_simp;rfl));intro gb105 hg w4 hbox hb;have n0_:=am_ (below_step bl_ hb);have n1_:=am_ (hbox);have n2_:=am_ ((by rw [hg];exact (below_size bl_):w.heap.size≤gb105));have n3_:=am_ ((by rw [hg];exact (below_size bl_):w.heap.size≤gb105));clear HB;have HB:=n0_;have BK105:=n1_;have GW105:=n2_;have GE105:=n3_;clear n0_ n1_ n2_ n3_;clear hb hbox hg;obtain ⟨hcz5_0,hcz5_1,hcz5_2,hcz5_3,hcz5_4,hfz5_0,hfz5_1,hfz5_2,hfz5_3,hfz5_4⟩:=blk5_ BK105.out))
 (try simp only [Act.put,List.setIfInBounds_toArray,List.set_cons_zero,List.set_cons_succ])
 go_cut [7] (fun v7 wc => ∃ (kq:Nat) (x7_2:Bool),v7=.bool x7_2∧Aside0 (pool_leads.j0 kq l0 a1_0 x7_2 a1_0 a1_1 a1_2 a1_3 a1_4=some r)∧Aside0 (kq≤k)∧Aside0 (wc.heap[gb105]?=some (.cells #[.int .i64 a1_0,.string a1_1,.int .i64 a1_2,.int .i64 a1_3,.int .i64 a1_4] 61 (0,0)))∧Aside0 (Below w.heap.size w wc))
 case first =>
  have H:=HC3.out
  clear HC3
  by_cases c6:a1_0=1
  ·rw [if_pos c6] at H
   have c6b0:(a1_0==1)=true:=beq_iff_eq.mpr c6
   have c6b1:(a1_0 != 1)=false:=bne_eq_false_iff_eq.mpr c6
   clear c6
   (first|rw [c6b0]|(simp only [i64_w,i32_w];rw [c6b0])|skip)
   have H':=am_ H
   clear H
   go_wp2
   go_meet
   case rel => exact ⟨_,((a1_0==1)),r3_,H',⟨by first|omega|exact Nat.le_refl _⟩,⟨bk_⟩,⟨bl_⟩⟩
  rw [if_neg c6] at H
  have c6b0:(a1_0==1)=false:=beq_eq_false_iff_ne.mpr c6
  have c6b1:(a1_0 != 1)=true:=bne_iff_ne.mpr c6
  (first|rw [c6b0]|(simp only [i64_w,i32_w];rw [c6b0])|skip)
  have H':=am_ H
  clear H
  go_wp2
  go_meet
  case rel => exact ⟨_,((a1_0==5)),r3_,H',⟨by first|omega|exact Nat.le_refl _⟩,⟨bk_⟩,⟨bl_⟩⟩
 clear HC3
 try clear hcz5_0;try clear hcz5_1;try clear hcz5_2;try clear hcz5_3;try clear hcz5_4;try clear hfz5_0;try clear hfz5_1;try clear hfz5_2;try clear hfz5_3;try clear hfz5_4
 obtain ⟨kq,x7_2,rfl,HA,HJ2,BK105,HB⟩:=hcut
 cases kq with
 | zero => exact absurd HA.out (by simp [pool_leads.j0])
 | succ kj2 =>
  have H:=HA.out
  clear HA
  simp only [pool_leads.j0] at H
  by_cases c7:x7_2=true
  ·subst c7
   rw [if_pos rfl] at H
   obtain rfl:=Option.some.inj H
   go_wp2
   go_ret
   exact ⟨ew_,bl_⟩
  replace c7:=Bool.eq_false_iff.mpr c7
  subst c7
  rw [if_neg (show ¬ (false=true) by decide)] at H
  by_cases c8:a1_0=3
  ·rw [if_pos c8] at H
   have c8b0:(a1_0==3)=true:=beq_iff_eq.mpr c8
   have c8b1:(a1_0 != 3)=false:=bne_eq_false_iff_eq.mpr c8
   clear c8
   obtain rfl:=Option.some.inj H
   obtain ⟨hcz9_0,hcz9_1,hcz9_2,hcz9_3,hcz9_4,hfz9_0,hfz9_1,hfz9_2,hfz9_3,hfz9_4⟩:=blk5_ BK105.out
   go_wp2
   go_ret
   exact ⟨ew_,bl_⟩
  rw [if_neg c8] at H
  have c8b0:(a1_0==3)=false:=beq_eq_false_iff_ne.mpr c8
  have c8b1:(a1_0 != 3)=true:=bne_iff_ne.mpr c8
  by_cases c10:a1_0=7
  ·rw [if_pos c10] at H
   have c10b0:(a1_0==7)=true:=beq_iff_eq.mpr c10
   have c10b1:(a1_0 != 7)=false:=bne_eq_false_iff_eq.mpr c10
   clear c10
   replace H:=Option.bind_eq_some_iff.mp H
   obtain ⟨t106,A110,H⟩:=H
   try dsimp only at H
   have A11:=am_ A110
   clear A110
   obtain rfl:=Option.some.inj H
   obtain ⟨hcz12_0,hcz12_1,hcz12_2,hcz12_3,hcz12_4,hfz12_0,hfz12_1,hfz12_2,hfz12_3,hfz12_4⟩:=blk5_ BK105.out
   go_wp2_with (first|(refine callA_ (f:=62) (some 24) Tryz.func62 #[.slice A0 l0.length c0,.int .i64 a1_3,.int .i64 1] ?_;(with_reducible refine (pool_is.calls _ _ l0 a1_3 1 t106 _ ?side1 ?side2 A11.out).mono ?_);(case side1 => exact kc_ (Kd.C_below HR0.out HB.out));(case side2 => exact HC0.out);rintro e w' ⟨rfl,⟨nd,rfl⟩⟩;refine ⟨_,rfl,?_⟩))
   go_ret
   exact ⟨ew_,bl_⟩
  rw [if_neg c10] at H
  have c10b0:(a1_0==7)=false:=beq_eq_false_iff_ne.mpr c10
  have c10b1:(a1_0 != 7)=true:=bne_iff_ne.mpr c10
  by_cases c13:a1_0=12
  ·rw [if_pos c13] at H
   have c13b0:(a1_0==12)=true:=beq_iff_eq.mpr c13
   have c13b1:(a1_0 != 12)=false:=bne_eq_false_iff_eq.mpr c13
   clear c13
   replace H:=Option.bind_eq_some_iff.mp H
   obtain ⟨t107,A140,H⟩:=H
   try dsimp only at H
   have A14:=am_ A140
   clear A140
   by_cases c15:t107=true
   ·subst c15
    rw [if_pos rfl] at H
    replace H:=Option.bind_eq_some_iff.mp H
    obtain ⟨t108,A160,H⟩:=H
    try dsimp only at H
    have A16:=am_ A160
    clear A160
    obtain rfl:=Option.some.inj H
    obtain ⟨hcz17_0,hcz17_1,hcz17_2,hcz17_3,hcz17_4,hfz17_0,hfz17_1,hfz17_2,hfz17_3,hfz17_4⟩:=blk5_ BK105.out
    go_wp2_with (first|(refine callA_ (f:=62) (some 30) Tryz.func62 #[.slice A0 l0.length c0,.int .i64 a1_3,.int .i64 1] ?_;(with_reducible refine (pool_is.calls _ _ l0 a1_3 1 true _ ?side1 ?side2 A14.out).mono ?_);(case side1 => exact kc_ (Kd.C_below HR0.out HB.out));(case side2 => exact HC0.out);rintro e w' ⟨rfl,⟨nd,rfl⟩⟩;refine ⟨_,rfl,?_⟩)|(go_at_call 62;(with_reducible refine (pool_is.calls _ _ l0 a1_4 1 t108 _ ?side1 ?side2 A16.out).mono ?_);(case side1 => exact kc_ (Kd.C_below HR0.out bl_));(case side2 => exact HC0.out);rintro e w' ⟨rfl,⟨nd,rfl⟩⟩))
    go_ret
    exact ⟨ew_,bl_⟩
   replace c15:=Bool.eq_false_iff.mpr c15
   subst c15
   rw [if_neg (show ¬ (false=true) by decide)] at H
   obtain rfl:=Option.some.inj H
   obtain ⟨hcz18_0,hcz18_1,hcz18_2,hcz18_3,hcz18_4,hfz18_0,hfz18_1,hfz18_2,hfz18_3,hfz18_4⟩:=blk5_ BK105.out
   go_wp2_with (first|(refine callA_ (f:=62) (some 30) Tryz.func62 #[.slice A0 l0.length c0,.int .i64 a1_3,.int .i64 1] ?_;(with_reducible refine (pool_is.calls _ _ l0 a1_3 1 false _ ?side1 ?side2 A14.out).mono ?_);(case side1 => exact kc_ (Kd.C_below HR0.out HB.out));(case side2 => exact HC0.out);rintro e w' ⟨rfl,⟨nd,rfl⟩⟩;refine ⟨_,rfl,?_⟩))
   go_ret
   exact ⟨ew_,bl_⟩
  rw [if_neg c13] at H
  have c13b0:(a1_0==12)=false:=beq_eq_false_iff_ne.mpr c13
  have c13b1:(a1_0 != 12)=true:=bne_iff_ne.mpr c13
  have HC19:=am_ H
  clear H
  go_upto_if 37 with (fail)
  go_cut [37] (fun v37 wc => ∃ (kq:Nat) (x37_18:Bool),v37=.bool x37_18∧Aside0 (pool_leads.j1 kq l0 x37_18 a1_0 a1_1 a1_2 a1_3 a1_4=some r)∧Aside0 (kq≤kj2)∧Aside0 (wc.heap[gb105]?=some (.cells #[.int .i64 a1_0,.string a1_1,.int .i64 a1_2,.int .i64 a1_3,.int .i64 a1_4] 61 (0,0)))∧Aside0 (Below w.heap.size w wc))
  case first =>
   have H:=HC19.out
   clear HC19
   by_cases c20:a1_0=9
   ·rw [if_pos c20] at H
    have c20b0:(a1_0==9)=true:=beq_iff_eq.mpr c20
    have c20b1:(a1_0 != 9)=false:=bne_eq_false_iff_eq.mpr c20
    clear c20
    (first|rw [c20b0]|(simp only [i64_w,i32_w];rw [c20b0])|skip)
    have H':=am_ H
    clear H
    go_wp2
    go_meet
    case rel => exact ⟨_,((a1_0==9)),r3_,H',⟨by have:=HJ2.out;first|omega|exact Nat.le_refl _⟩,⟨bk_⟩,⟨bl_⟩⟩
   rw [if_neg c20] at H
   have c20b0:(a1_0==9)=false:=beq_eq_false_iff_ne.mpr c20
   have c20b1:(a1_0 != 9)=true:=bne_iff_ne.mpr c20
   (first|rw [c20b0]|(simp only [i64_w,i32_w];rw [c20b0])|skip)
   have H':=am_ H
   clear H
   go_wp2
   go_meet
   case rel => exact ⟨_,((a1_0==10)),r3_,H',⟨by have:=HJ2.out;first|omega|exact Nat.le_refl _⟩,⟨bk_⟩,⟨bl_⟩⟩
  clear HC19
  try clear c7;try clear c8;try clear c8b0;try clear c8b1;try clear c10;try clear c10b0;try clear c10b1;try clear c13;try clear c13b0;try clear c13b1
  obtain ⟨kq,x37_18,rfl,HA,HJ18,BK105,HB⟩:=hcut
  cases kq with
  | zero => exact absurd HA.out (by simp [pool_leads.j1])
  | succ kj18 =>
   have H:=HA.out
   clear HA
   simp only [pool_leads.j1] at H
   by_cases c21:x37_18=true
   rotate_left
   ·replace c21:=Bool.eq_false_iff.mpr c21
    subst c21
    rw [if_neg (show ¬ (false=true) by decide)] at H
    obtain rfl:=Option.some.inj H
    go_wp2
    go_ret
    exact ⟨ew_,bl_⟩
   subst c21
   rw [if_pos rfl] at H
   replace H:=Option.bind_eq_some_iff.mp H
   obtain ⟨t109,A220,H⟩:=H
   try dsimp only at H
   have A22:=am_ A220
   clear A220
   by_cases c23:t109=true
   ·subst c23
    rw [if_pos rfl] at H
    replace H:=Option.bind_eq_some_iff.mp H
    obtain ⟨t110,A240,H⟩:=H
    try dsimp only at H
    have A24:=am_ A240
    clear A240
    obtain rfl:=Option.some.inj H
    obtain ⟨hcz25_0,hcz25_1,hcz25_2,hcz25_3,hcz25_4,hfz25_0,hfz25_1,hfz25_2,hfz25_3,hfz25_4⟩:=blk5_ BK105.out
    go_wp2_with (first|(refine callA_ (f:=62) (some 43) Tryz.func62 #[.slice A0 l0.length c0,.int .i64 a1_3,.int .i64 7] ?_;(with_reducible refine (pool_is.calls _ _ l0 a1_3 7 true _ ?side1 ?side2 A22.out).mono ?_);(case side1 => exact kc_ (Kd.C_below HR0.out HB.out));(case side2 => exact HC0.out);rintro e w' ⟨rfl,⟨nd,rfl⟩⟩;refine ⟨_,rfl,?_⟩)|(go_at_call 62;(with_reducible refine (pool_is.calls _ _ l0 a1_4 12 t110 _ ?side1 ?side2 A24.out).mono ?_);(case side1 => exact kc_ (Kd.C_below HR0.out bl_));(case side2 => exact HC0.out);rintro e w' ⟨rfl,⟨nd,rfl⟩⟩))
    go_ret
    exact ⟨ew_,bl_⟩
   replace c23:=Bool.eq_false_iff.mpr c23
   subst c23
   rw [if_neg (show ¬ (false=true) by decide)] at H
   obtain rfl:=Option.some.inj H
   obtain ⟨hcz26_0,hcz26_1,hcz26_2,hcz26_3,hcz26_4,hfz26_0,hfz26_1,hfz26_2,hfz26_3,hfz26_4⟩:=blk5_ BK105.out
   go_wp2_with (first|(refine callA_ (f:=62) (some 43) Tryz.func62 #[.slice A0 l0.length c0,.int .i64 a1_3,.int .i64 7] ?_;(with_reducible refine (pool_is.calls _ _ l0 a1_3 7 false _ ?side1 ?side2 A22.out).mono ?_);(case side1 => exact kc_ (Kd.C_below HR0.out HB.out));(case side2 => exact HC0.out);rintro e w' ⟨rfl,⟨nd,rfl⟩⟩;refine ⟨_,rfl,?_⟩))
   go_ret
   exact ⟨ew_,bl_⟩
def text_unit.j0:Nat→List Int→Int→Bool→Option (List Int)
 | 0,_,_,_ => none
 | k + 1,x0,x1,x5 => if x5=true then (if x0.length < 140737488355328 then (some (x0++[(x1) % 256])) else (none)) else (if x1 < 2048 then ((some (([Go.bits .or .u8 192 ((x1 / 64) % 256),Go.bits .or .u8 128 ((Go.bits .and .i32 x1 63) % 256)]:List Int):List Int)).bind fun y114 => (if x0.length + y114.length < 140737488355328 then (some (x0++y114)) else (none))) else ((some (([Go.bits .or .u8 224 ((x1 / 4096) % 256),Go.bits .or .u8 128 ((Go.bits .and .i32 (x1 / 64) 63) % 256),Go.bits .or .u8 128 ((Go.bits .and .i32 x1 63) % 256)]:List Int):List Int)).bind fun y120 => (if x0.length + y120.length < 140737488355328 then (some (x0++y120)) else (none))))
def text_unit.f (k:Nat) (l0:List Int) (a1:Int):Option (List Int):=if a1 > 0 then (text_unit.j0 k l0 a1 (decide (a1 < 128))) else (text_unit.j0 k l0 a1 false)
set_option maxHeartbeats 80000000 in
set_option maxRecDepth 100000 in
theorem text_unit.calls (k:Nat) (P0_:Nat→Prop) (u9000_:Value) (l0:List Int) (a1:Int) (r:List Int) (w0 w:World) (hB:Below w0.heap.size w0 w) (ho0:Kd.R (Kd.int .u8) 5 w w0.heap.size P0_ u9000_ l0) (h:text_unit.f k l0 a1=some r) :
  Calls Tryz.prog 80 #[u9000_,.int .i32 a1] w fun e w' => ∃ v0_:Value,e=.returned (v0_)∧Kd.R (Kd.int .u8) 5 w' w0.heap.size (fun k_ => (P0_ k_ ∨ w.heap.size≤k_)) v0_ r∧Below w0.heap.size w0 w'∧Kept w w' (fun k_ => P0_ k_):=by
 have HO0:=am_ (show Kd.R (Kd.int .u8) 5 w w0.heap.size (fun k_ => (P0_ k_ ∨ w.heap.size≤k_)) u9000_ l0 from Kd.R_mono ho0 (fun k_ hk => (.inl hk)))
 have HK:=am_ (Kept.refl w (fun k_ => P0_ k_))
 have HW0:=am_ hB.size
 have HB:=am_ hB
 clear hB
 have H:(if a1 > 0 then (text_unit.j0 k l0 a1 (decide (a1 < 128))) else (text_unit.j0 k l0 a1 false))=some r:=h
 clear h
 have HC3:=am_ H
 clear H
 go_enter Tryz.func80,Tryz.ntmps80
 go_upto_region 1 with (fail)
 go_cut [5] (fun v5 wc => ∃ (kq:Nat) (x5_2:Bool),v5=.bool x5_2∧Aside0 (text_unit.j0 kq l0 a1 x5_2=some r)∧Aside0 (kq≤k)∧Aside0 (Kd.R (Kd.int .u8) 5 wc w0.heap.size (fun k_ => (P0_ k_ ∨ w.heap.size≤k_)) u9000_ l0)∧Aside0 (Kept w wc (fun k_ => P0_ k_))∧Aside0 (Below w0.heap.size w0 wc))
 case first =>
  have H:=HC3.out
  clear HC3
  by_cases c4:a1 > 0
  ·rw [if_pos c4] at H
   have c4b0:decide (0 < a1)=true:=decide_eq_true c4
   clear c4
   (first|rw [c4b0]|(simp only [i64_w,i32_w];rw [c4b0])|skip)
   have H':=am_ H
   clear H
   go_wp2
   go_meet
   case rel => exact ⟨_,(decide (a1 < 128)),r3_,H',⟨by first|omega|exact Nat.le_refl _⟩,⟨kr_ HO0.out⟩,⟨by repeat (first|(with_reducible first|exact HK.out|apply Kept.alloc|apply Kept.drewN|apply Kept.drew)|exact HK.out)⟩,⟨bl_⟩⟩
  rw [if_neg c4] at H
  have c4b0:decide (0 < a1)=false:=decide_eq_false c4
  clear c4
  (first|rw [c4b0]|(simp only [i64_w,i32_w];rw [c4b0])|skip)
  have H':=am_ H
  clear H
  go_wp2
  go_meet
  case rel => exact ⟨_,(false),r3_,H',⟨by first|omega|exact Nat.le_refl _⟩,⟨kr_ HO0.out⟩,⟨by repeat (first|(with_reducible first|exact HK.out|apply Kept.alloc|apply Kept.drewN|apply Kept.drew)|exact HK.out)⟩,⟨bl_⟩⟩
 clear HC3
 obtain ⟨kq,x5_2,rfl,HA,HJ2,HO_0,HK,HB⟩:=hcut
 cases kq with
 | zero => exact absurd HA.out (by simp [text_unit.j0])
 | succ kj2 =>
  have H:=HA.out
  clear HA
  simp only [text_unit.j0] at H
  by_cases c5:x5_2=true
  ·subst c5
   rw [if_pos rfl] at H
   by_cases c6:l0.length < 140737488355328
   ·rw [if_pos c6] at H
    have LMc6:=am_ c6
    clear c6
    obtain ⟨y111,hy111⟩:∃ y_:List Int,y_=(l0++[(a1) % 256]):=⟨_,rfl⟩
    replace H:(some y111)=some r:=by first|(rw [hy111];with_reducible exact H)|(have H2_:=(Option.bind_some _ _).symm.trans H;rw [hy111];with_reducible exact H2_)|(have H2_:=(Option.bind_some _ _).symm.trans H;with_reducible exact H2_)|with_reducible exact H|(rw [hy111];exact H)|exact H
    have Ny111:=am_ hy111
    clear hy111
    obtain rfl:=Option.some.inj H
    go_wp2_with (first|((with_reducible refine gate_builtin (b:=.append) (xs:=#[.tmp 12,.tmp 15]) rfl ?_);at_builtin;refine Kd.R_append (Kd.int .u8) (w0:=w0) w0.heap.size rfl (.tmp 12) (.tmp 15) 22 5 (.int .u8 0) 1 rfl Tryz.underlying22 info5 rfl (by decide) (by omega) u9000_ l0 ((a1) % 256) [.int .u8 ((a1) % 256)] (fun k_ => (P0_ k_ ∨ w.heap.size≤k_)) (fun _ => False) rfl rfl ?aP (fun _ hk => hk.elim) ?aF ?aO ?aB ?aS ?aL ?_;(case aP => exact rfl);(case aB => exact bl_);(case aF => exact (fun k_ hk => (.inr (Nat.le_trans (by first|exact HK.out.1|exact (show Kept w _ (fun k_ => P0_ k_) from by repeat (first|(with_reducible first|exact HK.out|apply Kept.alloc|apply Kept.drewN|apply Kept.drew)|exact HK.out)).1) hk))));(case aO => exact (kr_ HO_0.out));(case aS => exact (below_size bl_));(case aL => have:=LMc6.out;omega);intro v112 w7 ho hb hg hat;rw [← Ny111.out] at ho;have n0_:=am_ (hb);have n1_:=am_ (Kept.of_grown (S:=(fun k_ => P0_ k_)) hg (by repeat (first|(with_reducible first|exact HK.out|apply Kept.alloc|apply Kept.drewN|apply Kept.drew)|exact HK.out)) (fun k_ e_ => (HO_0.out.1 k_ e_)));have n2_:=am_ (ho);clear HB;clear HK;clear HO_0;have HB:=n0_;have HK:=n1_;have HO113:=n2_;clear n0_ n1_ n2_;clear ho hb hg hat))
    go_ret
    exact ⟨_,ew_,kr_ HO113.out,bl_,by repeat (first|(with_reducible first|exact HK.out|apply Kept.alloc|apply Kept.drewN|apply Kept.drew)|exact HK.out)⟩
   rw [if_neg c6] at H
   exact absurd H (by simp)
  replace c5:=Bool.eq_false_iff.mpr c5
  subst c5
  rw [if_neg (show ¬ (false=true) by decide)] at H
  by_cases c8:a1 < 2048
  ·rw [if_pos c8] at H
   have c8b0:decide (a1 < 2048)=true:=decide_eq_true c8
   clear c8
   obtain ⟨y114,hy114⟩:∃ y_:List Int,y_=(([Go.bits .or .u8 192 ((a1 / 64) % 256),Go.bits .or .u8 128 ((Go.bits .and .i32 a1 63) % 256)]:List Int)):=⟨_,rfl⟩
   replace H:(if l0.length + y114.length < 140737488355328 then (some (l0++y114)) else (none))=some r:=by first|(rw [hy114];with_reducible exact H)|(have H2_:=(Option.bind_some _ _).symm.trans H;rw [hy114];with_reducible exact H2_)|(have H2_:=(Option.bind_some _ _).symm.trans H;with_reducible exact H2_)|with_reducible exact H|(rw [hy114];exact H)|exact H
   have Ny114:=am_ hy114
   clear hy114
   by_cases c9:l0.length + y114.length < 140737488355328
   ·rw [if_pos c9] at H
    have LMc9:=am_ c9
    clear c9
    obtain ⟨y117,hy117⟩:∃ y_:List Int,y_=(l0++y114):=⟨_,rfl⟩
    replace H:(some y117)=some r:=by first|(rw [hy117];with_reducible exact H)|(have H2_:=(Option.bind_some _ _).symm.trans H;rw [hy117];with_reducible exact H2_)|(have H2_:=(Option.bind_some _ _).symm.trans H;with_reducible exact H2_)|with_reducible exact H|(rw [hy117];exact H)|exact H
    have Ny117:=am_ hy117
    clear hy117
    obtain rfl:=Option.some.inj H
    go_wp2_with (first|((with_reducible refine gate_dst (N:=29) rfl ?_);refine Kd.R_lit (Kd.int .u8) _ 5 ?hg (N:=29) ?hd (xs:=([Go.bits .or .u8 192 ((a1 / 64) % 256),Go.bits .or .u8 128 ((Go.bits .and .i32 a1 63) % 256)]:List Int)) (inner:=[.int .u8 (Go.bits .or .u8 192 ((a1 / 64) % 256)),.int .u8 (Go.bits .or .u8 128 ((Go.bits .and .i32 a1 63) % 256))]) (ok:=fun _ => True) (okp:=fun _ => True) ?hr ?hp (fun _ hk => hk) trivial (Below.refl _ _) (Nat.le_refl _) (by simp) ?_;(case hd => rfl);(case hg => rfl);(case hr => first|(go_simp;done)|(go_simp;rfl));(case hp => exact (Reps.one (show Kd.M (Kd.int .u8) _ _ _ (Go.bits .or .u8 192 ((a1 / 64) % 256)) [.int .u8 (Go.bits .or .u8 192 ((a1 / 64) % 256))] from rfl) (Reps.one (show Kd.M (Kd.int .u8) _ _ _ (Go.bits .or .u8 128 ((Go.bits .and .i32 a1 63) % 256)) [.int .u8 (Go.bits .or .u8 128 ((Go.bits .and .i32 a1 63) % 256))] from rfl) (Reps.none _ _))));intro v115 w10 ho11 hb hg_ hnew_;clear hg_ hnew_;(first|rw [← Ny114.out] at ho11|(simp only [Int.reduceToNat] at ho11;rw [← Ny114.out] at ho11));have n0_:=am_ (Kd.R_elder' (kr_ HO_0.out) (Kd.R_base ho11) hb);have n1_:=am_ (Kd.R_lower (Kd.R_new' (Kd.R_newM (M:=fun k_ => (P0_ k_ ∨ w.heap.size≤k_)) ho11 (by first|exact HK.out.1|exact (show Kept w _ (fun k_ => P0_ k_) from by repeat (first|(with_reducible first|exact HK.out|apply Kept.alloc|apply Kept.drewN|apply Kept.drew)|exact HK.out)).1) (fun k_ h_ => .inr h_)) (Kd.R_lt (kr_ HO_0.out))) (below_size bl_));have n2_:=am_ (Kept.below (S:=(fun k_ => P0_ k_)) (by repeat (first|(with_reducible first|exact HK.out|apply Kept.alloc|apply Kept.drewN|apply Kept.drew)|exact HK.out)) hb);have n3_:=am_ (below_step bl_ hb);clear HO_0;clear HK;clear HB;have HO_0:=n0_;have HO116:=n1_;have HK:=n2_;have HB:=n3_;clear n0_ n1_ n2_ n3_;clear hb ho11;obtain ⟨Ao13,co13,eo13⟩:=Kd.R_slice HO116.out;subst eo13)|((with_reducible refine gate_builtin (b:=.append) (xs:=#[.tmp 20,.tmp 29]) rfl ?_);at_builtin;refine Kd.R_append_rows (Kd.int .u8) (w0:=w0) w0.heap.size rfl (.tmp 20) (.tmp 29) 22 5 (.int .u8 0) 1 rfl Tryz.underlying22 info5 rfl (by decide) (by omega) u9000_ l0 y114 _ _ _ (fun k_ => (P0_ k_ ∨ w.heap.size≤k_)∧some k_ ≠ (.slice Ao13 y114.length co13:Value).ownBlock) (fun _ => False) rfl rfl ?aO ?aR (fun _ _ h => h) (fun _ h => h.elim) ?aF ?aB ?aS ?aL ?_;(case aR => exact kc_ (Kd.R_reads' HO116.out).2.2);(case aB => exact bl_);(case aF => exact (fun k_ hk => ⟨(.inr (Nat.le_trans (by first|exact HK.out.1|exact (show Kept w _ (fun k_ => P0_ k_) from by repeat (first|(with_reducible first|exact HK.out|apply Kept.alloc|apply Kept.drewN|apply Kept.drew)|exact HK.out)).1) hk)),Kd.fresh' (Kd.R_lt (kr_ HO116.out)) k_ hk⟩));(case aO => exact (kr_ HO_0.out));(case aS => exact (below_size bl_));(case aL => have:=LMc9.out;omega);intro v118 w12 ho hb hg hat;rw [← Ny117.out] at ho;have n0_:=am_ (Kd.R_after (ok:=(fun k_ => (P0_ k_ ∨ w.heap.size≤k_))) (by (with_reducible repeat (first|apply Kd.R_alloc|apply Kd.R_drewN|apply Kd.R_drew));exact Kd.R_mono HO116.out (fun _ hk => ⟨hk.1.1,hk.2⟩)) hg hat);have n1_:=am_ (hb);have n2_:=am_ (Kept.of_grown (S:=(fun k_ => P0_ k_)) hg (by repeat (first|(with_reducible first|exact HK.out|apply Kept.alloc|apply Kept.drewN|apply Kept.drew)|exact HK.out)) (fun k_ e_ => (HO_0.out.1 k_ e_).1));have n3_:=am_ (ho);clear HO116;clear HB;clear HK;clear HO_0;have HO116:=n0_;have HB:=n1_;have HK:=n2_;have HO119:=n3_;clear n0_ n1_ n2_ n3_;clear ho hb hg hat))
    go_ret
    exact ⟨_,ew_,by (with_reducible repeat (first|apply Kd.R_alloc|apply Kd.R_drewN|apply Kd.R_drew));exact Kd.R_mono HO119.out (fun _ hk => hk.1),bl_,by repeat (first|(with_reducible first|exact HK.out|apply Kept.alloc|apply Kept.drewN|apply Kept.drew)|exact HK.out)⟩
   rw [if_neg c9] at H
   exact absurd H (by simp)
  rw [if_neg c8] at H
  have c8b0:decide (a1 < 2048)=false:=decide_eq_false c8
  clear c8
  obtain ⟨y120,hy120⟩:∃ y_:List Int,y_=(([Go.bits .or .u8 224 ((a1 / 4096) % 256),Go.bits .or .u8 128 ((Go.bits .and .i32 (a1 / 64) 63) % 256),Go.bits .or .u8 128 ((Go.bits .and .i32 a1 63) % 256)]:List Int)):=⟨_,rfl⟩
  replace H:(if l0.length + y120.length < 140737488355328 then (some (l0++y120)) else (none))=some r:=by first|(rw [hy120];with_reducible exact H)|(have H2_:=(Option.bind_some _ _).symm.trans H;rw [hy120];with_reducible exact H2_)|(have H2_:=(Option.bind_some _ _).symm.trans H;with_reducible exact H2_)|with_reducible exact H|(rw [hy120];exact H)|exact H
  have Ny120:=am_ hy120
  clear hy120
  by_cases c14:l0.length + y120.length < 140737488355328
  ·rw [if_pos c14] at H
   have LMc14:=am_ c14
   clear c14
   obtain ⟨y123,hy123⟩:∃ y_:List Int,y_=(l0++y120):=⟨_,rfl⟩
   replace H:(some y123)=some r:=by first|(rw [hy123];with_reducible exact H)|(have H2_:=(Option.bind_some _ _).symm.trans H;rw [hy123];with_reducible exact H2_)|(have H2_:=(Option.bind_some _ _).symm.trans H;with_reducible exact H2_)|with_reducible exact H|(rw [hy123];exact H)|exact H
   have Ny123:=am_ hy123
   clear hy123
   obtain rfl:=Option.some.inj H
   go_wp2_with (first|((with_reducible refine gate_dst (N:=45) rfl ?_);refine Kd.R_lit (Kd.int .u8) _ 5 ?hg (N:=45) ?hd (xs:=([Go.bits .or .u8 224 ((a1 / 4096) % 256),Go.bits .or .u8 128 ((Go.bits .and .i32 (a1 / 64) 63) % 256),Go.bits .or .u8 128 ((Go.bits .and .i32 a1 63) % 256)]:List Int)) (inner:=[.int .u8 (Go.bits .or .u8 224 ((a1 / 4096) % 256)),.int .u8 (Go.bits .or .u8 128 ((Go.bits .and .i32 (a1 / 64) 63) % 256)),.int .u8 (Go.bits .or .u8 128 ((Go.bits .and .i32 a1 63) % 256))]) (ok:=fun _ => True) (okp:=fun _ => True) ?hr ?hp (fun _ hk => hk) trivial (Below.refl _ _) (Nat.le_refl _) (by simp) ?_;(case hd => rfl);(case hg => rfl);(case hr => first|(go_simp;done)|(go_simp;rfl));(case hp => exact (Reps.one (show Kd.M (Kd.int .u8) _ _ _ (Go.bits .or .u8 224 ((a1 / 4096) % 256)) [.int .u8 (Go.bits .or .u8 224 ((a1 / 4096) % 256))] from rfl) (Reps.one (show Kd.M (Kd.int .u8) _ _ _ (Go.bits .or .u8 128 ((Go.bits .and .i32 (a1 / 64) 63) % 256)) [.int .u8 (Go.bits .or .u8 128 ((Go.bits .and .i32 (a1 / 64) 63) % 256))] from rfl) (Reps.one (show Kd.M (Kd.int .u8) _ _ _ (Go.bits .or .u8 128 ((Go.bits .and .i32 a1 63) % 256)) [.int .u8 (Go.bits .or .u8 128 ((Go.bits .and .i32 a1 63) % 256))] from rfl) (Reps.none _ _)))));intro v121 w15 ho16 hb hg_ hnew_;clear hg_ hnew_;(first|rw [← Ny120.out] at ho16|(simp only [Int.reduceToNat] at ho16;rw [← Ny120.out] at ho16));have n0_:=am_ (Kd.R_elder' (kr_ HO_0.out) (Kd.R_base ho16) hb);have n1_:=am_ (Kd.R_lower (Kd.R_new' (Kd.R_newM (M:=fun k_ => (P0_ k_ ∨ w.heap.size≤k_)) ho16 (by first|exact HK.out.1|exact (show Kept w _ (fun k_ => P0_ k_) from by repeat (first|(with_reducible first|exact HK.out|apply Kept.alloc|apply Kept.drewN|apply Kept.drew)|exact HK.out)).1) (fun k_ h_ => .inr h_)) (Kd.R_lt (kr_ HO_0.out))) (below_size bl_));have n2_:=am_ (Kept.below (S:=(fun k_ => P0_ k_)) (by repeat (first|(with_reducible first|exact HK.out|apply Kept.alloc|apply Kept.drewN|apply Kept.drew)|exact HK.out)) hb);have n3_:=am_ (below_step bl_ hb);clear HO_0;clear HK;clear HB;have HO_0:=n0_;have HO122:=n1_;have HK:=n2_;have HB:=n3_;clear n0_ n1_ n2_ n3_;clear hb ho16;obtain ⟨Ao18,co18,eo18⟩:=Kd.R_slice HO122.out;subst eo18)|((with_reducible refine gate_builtin (b:=.append) (xs:=#[.tmp 31,.tmp 45]) rfl ?_);at_builtin;refine Kd.R_append_rows (Kd.int .u8) (w0:=w0) w0.heap.size rfl (.tmp 31) (.tmp 45) 22 5 (.int .u8 0) 1 rfl Tryz.underlying22 info5 rfl (by decide) (by omega) u9000_ l0 y120 _ _ _ (fun k_ => (P0_ k_ ∨ w.heap.size≤k_)∧some k_ ≠ (.slice Ao18 y120.length co18:Value).ownBlock) (fun _ => False) rfl rfl ?aO ?aR (fun _ _ h => h) (fun _ h => h.elim) ?aF ?aB ?aS ?aL ?_;(case aR => exact kc_ (Kd.R_reads' HO122.out).2.2);(case aB => exact bl_);(case aF => exact (fun k_ hk => ⟨(.inr (Nat.le_trans (by first|exact HK.out.1|exact (show Kept w _ (fun k_ => P0_ k_) from by repeat (first|(with_reducible first|exact HK.out|apply Kept.alloc|apply Kept.drewN|apply Kept.drew)|exact HK.out)).1) hk)),Kd.fresh' (Kd.R_lt (kr_ HO122.out)) k_ hk⟩));(case aO => exact (kr_ HO_0.out));(case aS => exact (below_size bl_));(case aL => have:=LMc14.out;omega);intro v124 w17 ho hb hg hat;rw [← Ny123.out] at ho;have n0_:=am_ (Kd.R_after (ok:=(fun k_ => (P0_ k_ ∨ w.heap.size≤k_))) (by (with_reducible repeat (first|apply Kd.R_alloc|apply Kd.R_drewN|apply Kd.R_drew));exact Kd.R_mono HO122.out (fun _ hk => ⟨hk.1.1,hk.2⟩)) hg hat);have n1_:=am_ (hb);have n2_:=am_ (Kept.of_grown (S:=(fun k_ => P0_ k_)) hg (by repeat (first|(with_reducible first|exact HK.out|apply Kept.alloc|apply Kept.drewN|apply Kept.drew)|exact HK.out)) (fun k_ e_ => (HO_0.out.1 k_ e_).1));have n3_:=am_ (ho);clear HO122;clear HB;clear HK;clear HO_0;have HO122:=n0_;have HB:=n1_;have HK:=n2_;have HO125:=n3_;clear n0_ n1_ n2_ n3_;clear ho hb hg hat))
   go_ret
   exact ⟨_,ew_,by (with_reducible repeat (first|apply Kd.R_alloc|apply Kd.R_drewN|apply Kd.R_drew));exact Kd.R_mono HO125.out (fun _ hk => hk.1),bl_,by repeat (first|(with_reducible first|exact HK.out|apply Kept.alloc|apply Kept.drewN|apply Kept.drew)|exact HK.out)⟩
  rw [if_neg c14] at H
  exact absurd H (by simp)
def text_split.f (a0:Int):Option (Int × Int):=if a0 < 65536 then (some (0,a0)) else (some (wrap32 (55296 + ((wrap32 (a0 - 65536)) / 1024)),wrap32 (56320 + (Go.bits .and .i32 (wrap32 (a0 - 65536)) 1023))))
set_option maxHeartbeats 80000000 in
set_option maxRecDepth 100000 in
theorem text_split.calls (a0:Int) (r1:Int) (r2:Int) (w:World) (h:text_split.f a0=some (r1,r2)) :
  Calls Tryz.prog 90 #[.int .i32 a0] w fun e w' => e=.returned (.tuple #[.int .i32 r1,.int .i32 r2])∧Drawn0 w w':=by
 have H:(if a0 < 65536 then (some (0,a0)) else (some (wrap32 (55296 + ((wrap32 (a0 - 65536)) / 1024)),wrap32 (56320 + (Go.bits .and .i32 (wrap32 (a0 - 65536)) 1023)))))=some (r1,r2):=h
 clear h
 by_cases c2:a0 < 65536
 ·rw [if_pos c2] at H
  have c2b0:decide (a0 < 65536)=true:=decide_eq_true c2
  clear c2
  simp only [Option.some.injEq,Prod.mk.injEq] at H
  obtain ⟨rfl,rfl⟩:=H
  go_enter Tryz.func90,Tryz.ntmps90
  go_wp2
  go_ret2
  exact ⟨by first|rfl|(simp;done)|(simp [*];done),by repeat (first|exact Drawn0.refl _|apply Drawn0.step)⟩
 rw [if_neg c2] at H
 have c2b0:decide (a0 < 65536)=false:=decide_eq_false c2
 clear c2
 simp only [Option.some.injEq,Prod.mk.injEq] at H
 obtain ⟨rfl,rfl⟩:=H
 go_enter Tryz.func90,Tryz.ntmps90
 go_wp2
 go_ret2
 exact ⟨by first|rfl|(simp;done)|(simp [*];done),by repeat (first|exact Drawn0.refl _|apply Drawn0.step)⟩
end Go.Proofs.YtamdobdmjcgmoaaGreatDoor.Px
namespace Go.Proofs.YtamdobdmjcgmoaaGreatDoor.Px
open Go.RowKit Go.Proofs.YtamdobdmjcgmoaaGreatDoorW.PrintWords Go.Proofs.YtamdobdmjcgmoaaGreatDoorW.PrintLast Go.Proofs.YtamdobdmjcgmoaaGreatDoorW.PrintMore
set_option linter.unusedVariables false
set_option linter.unusedSimpArgs false
def text_Encode.one (k:Nat) (b:List Int) (c:Int):Option (List Int) :=
 (text_split.f c).bind fun t => if t.1=0 then text_unit.f k b t.2 else (text_unit.f k b t.1).bind fun b1 => text_unit.f k b1 t.2
def text_Encode.l0:Nat→ByteArray→Nat→List Int→Option (List Int × Int)
 | 0,_,_,_ => none
 | k + 1,s,p,b => if p < s.size then (text_Encode.one k b ((Utf8.decode s p).1:Int)).bind fun b1 => text_Encode.l0 k s (p + (Utf8.decode s p).2) b1 else some (b,0)
def text_Encode.f (k:Nat) (a0:ByteArray):Option (List Int × Int) :=
 if a0.size≤9223372036854775807 then (if Lib.validD a0.data.toList=true then text_Encode.l0 k a0 0 [] else some ([],20)) else none
theorem text_Encode.width (s:ByteArray) (pos:Nat) (h:pos < s.size):1≤(Utf8.decode s pos).2:=by
 by_cases ha:(s[pos]'h).toNat < 128
 ·rw [decode_ascii s pos h ha];exact Nat.le_refl _
 exact (decode_high s pos h (by omega)).2
theorem R_iterAt {w:World} {base:Nat} {v:Value} {xs:List Int} {k:Nat} {s:ByteArray} {p:Nat} (h:Kd.R (Kd.int .u8) 5 w base (fun _ => True) v xs) (hk:w.heap[k]?=some (.stringIter s p)) (p':Nat) :
  Kd.R (Kd.int .u8) 5 (w.iterAt k s p') base (fun _ => True) v xs:=by
 refine Kd.R_step (Kd.R_mono (Kd.R_bound h) (fun _ hk => hk.2)) (fun j hj _ => ?_) |> fun z => Kd.R_mono z (fun _ _ => trivial)
 obtain ⟨_,_,q,_,cells,hc⟩:=hj
 refine Lib.iterAt_other w k j s p' ?_
 rintro rfl
 rw [hk] at hc
 cases hc
theorem R_noIter {w:World} {base:Nat} {ok:Nat→Prop} {v:Value} {xs:List Int} {it:Nat} {s:ByteArray} {p:Nat} (h:Kd.R (Kd.int .u8) 5 w base ok v xs) (hk:w.heap[it]?=some (.stringIter s p)) :
  Kd.R (Kd.int .u8) 5 w base (fun k => k ≠ it) v xs:=by
 refine Kd.R_mono (Kd.R_bound h) (fun j hj => ?_)
 obtain ⟨_,_,_,q,_,cells,hc⟩:=hj
 rintro rfl
 rw [hk] at hc
 cases hc
theorem valid_calls (s:ByteArray) (w:World) (hs:s.size≤9223372036854775807) (hG:GG w) :
  Calls Tryz.prog 89 #[.string s] w fun e w' => e=.returned (.bool (Lib.validD s.data.toList))∧Below w.heap.size w w' :=
 Any.utf8_ValidString Tryz.laysValid s w hs hG.tabs
theorem R_mk (w w1:World) (h:w.heap.size≤w1.heap.size) (s:ByteArray):Kd.R (Kd.int .u8) 5 ((w1.alloc (.cells #[] 5)).iter s 0) w.heap.size (fun _ => True) (.slice (some ⟨w1.heap.size,0,none⟩) 0 0) []:=by
 have h1:=World.ownsRow_lit (base:=w.heap.size) (e:=5) (size:=1) w1 #[] 0 h (by simp [maxLen]) (by simp)
 have h2:Kd.R (Kd.int .u8) 5 (w1.alloc (.cells #[] 5)) w.heap.size (fun _ => True) (.slice (some ⟨w1.heap.size,0,none⟩) 0 0) [] :=
  ⟨fun _ _ => trivial,[],by simp only [List.length_nil];exact (by simpa using h1:World.ownsRow _ _ _ 1 _ 0 []),Reps.none _ _⟩
 exact Kd.R_below h2 (((Below.refl _ _).alloc (Nat.le_refl _) _))
set_option maxHeartbeats 4000000 in
set_option maxRecDepth 100000 in
theorem text_Encode.calls (k:Nat) (a0:ByteArray) (r1:List Int) (r2:Int) (w:World) (hG:Aside0 (GG w)) (h:text_Encode.f k a0=some (r1,r2)) :
  Calls Tryz.prog 78 #[.string a0] w fun e w' => ∃ v0_:Value,e=.returned (.tuple #[v0_,.int .i64 r2])∧Kd.R (Kd.int .u8) 5 w' w.heap.size (fun _ => True) v0_ r1∧Below w.heap.size w w':=by
 unfold text_Encode.f at h
 by_cases hs:a0.size≤9223372036854775807
 rotate_left
 ·rw [if_neg hs] at h
  exact absurd h (by simp)
 rw [if_pos hs] at h
 have cV:=valid_calls a0 w hs hG.out
 by_cases hv:Lib.validD a0.data.toList=true
 rotate_left
 ·rw [if_neg hv] at h
  have hv':Lib.validD a0.data.toList=false:=by simpa using hv
  rw [hv'] at cV
  simp only [Option.some.injEq,Prod.mk.injEq] at h
  obtain ⟨rfl,rfl⟩:=h
  clear hv hv' hs
  go_enter Tryz.func78,Tryz.ntmps78
  go_wp2_with (go_at_call 89;refine cV.mono ?_;rintro e w1 ⟨rfl,hb1⟩)
  go_ret2
  exact ⟨_,rfl,Kd.R_nil _ _ _ _ _,hb1⟩
 rw [if_pos hv] at h
 rw [hv] at cV
 have H0:=am_ h
 clear h hv hs
 go_enter Tryz.func78,Tryz.ntmps78
 go_wp2_with (go_at_call 89;refine cV.mono ?_;rintro e w1 ⟨rfl,hb1⟩)
 have hz1:w.heap.size≤w1.heap.size:=hb1.size
 go_loopg [4] k (fun kq v wr => ∃ (pos:Nat) (b:List Int),Aside0 (text_Encode.l0 kq a0 pos b=some (r1,r2))∧Aside0 (kq≤k)∧Aside0 (Kd.R (Kd.int .u8) 5 wr w.heap.size (fun _ => True) v b)∧Aside0 (wr.heap[w1.heap.size + 1]?=some (.stringIter a0 pos))∧Aside0 (Below w.heap.size w wr))
 case atStart =>
  refine ⟨0,[],H0,⟨Nat.le_refl _⟩,⟨R_mk w w1 hz1 a0⟩,⟨?_⟩,⟨below_then hb1 hz1 (((Below.refl _ w1).alloc (Nat.le_refl _) _).alloc (by simp) _)⟩⟩
  have:=World.iter_heap (w1.alloc (.cells #[] 5)) a0 0
  simpa using this
 obtain ⟨pos,b,HA,HK,HR,HI,HB⟩:=hrel
 cases gk with
 | zero => exact absurd HA.out (by simp [text_Encode.l0])
 | succ k1 =>
 have hlt:w1.heap.size + 1 < wr.heap.size:=(Array.getElem?_eq_some_iff.1 HI.out).1
 have H:=HA.out
 clear HA
 simp only [text_Encode.l0] at H
 by_cases hp:pos < a0.size
 rotate_left
 ·rw [if_neg hp] at H
  simp only [Option.some.injEq,Prod.mk.injEq] at H
  obtain ⟨rfl,rfl⟩:=H
  have hnx:∀ ty,(Instr.next (.pointer (some ⟨w1.heap.size + 1,0,none⟩)) true ty).run Tryz.prog wr=_:=fun ty => Lib.run_next_end_at wr (w1.heap.size + 1) a0 pos ty HI.out hp
  go_wp2
  go_ret2
  exact ⟨_,rfl,HR.out,HB.out⟩
 rw [if_pos hp] at H
 replace H:=Option.bind_eq_some_iff.mp H
 obtain ⟨b1,h1,H⟩:=H
 have H':=am_ H
 clear H
 unfold text_Encode.one at h1
 replace h1:=Option.bind_eq_some_iff.mp h1
 obtain ⟨⟨t1,t2⟩,hsp,h1⟩:=h1
 have HS:=am_ hsp
 clear hsp
 have hnx:∀ ty,(Instr.next (.pointer (some ⟨w1.heap.size + 1,0,none⟩)) true ty).run Tryz.prog wr=_:=fun ty => Lib.run_next_any_at wr (w1.heap.size + 1) a0 pos ty HI.out hp
 have hz:w.heap.size≤wr.heap.size:=HB.out.size
 by_cases hc:t1=0
 ·rw [if_pos hc] at h1
  have hc0:(t1 != 0)=false:=bne_eq_false_iff_eq.mpr hc
  clear hc
  have H1:=am_ h1
  clear h1
  go_wp2_with fail
  refine (text_split.calls _ t1 t2 _ HS.out).mono ?_
  rintro e w' ⟨rfl,⟨⟨nd,rfl⟩⟩⟩
  go_wp2_with fail
  refine (text_unit.calls k1 (fun j => j ≠ w1.heap.size + 1) _ b t2 b1 w _ ?side1 ?side2 H1.out).mono ?_
  case side1 => exact pw_below_drewN (Lib.below_iterAt HB.out (by omega) _ _) _
  case side2 => exact R_noIter (Kd.R_drewN (R_iterAt HR.out HI.out _) _) (Lib.iterAt_heap _ _ _ _ _ HI.out)
  rintro e w2 ⟨v1,rfl,ho,hb2,hk2⟩
  have hi2:w2.heap[w1.heap.size + 1]?=some (.stringIter a0 (pos + (Utf8.decode a0 pos).2)):=(hk2.2 _ (by simpa [Lib.iterAt_size] using hlt) (by simp)).trans (Lib.iterAt_heap _ _ _ _ _ HI.out)
  go_wp2
  go_roundg k1
  case measure => have:=HK.out;omega
  case rel => exact ⟨_,b1,H',⟨by have:=HK.out;omega⟩,⟨Kd.R_mono ho (fun _ _ => trivial)⟩,⟨hi2⟩,⟨hb2⟩⟩
 rw [if_neg hc] at h1
 replace h1:=Option.bind_eq_some_iff.mp h1
 obtain ⟨b2,h2,h1⟩:=h1
 have hc0:(t1 != 0)=true:=bne_iff_ne.mpr hc
 clear hc
 have H1:=am_ h1
 have H2:=am_ h2
 clear h1 h2
 go_wp2_with fail
 refine (text_split.calls _ t1 t2 _ HS.out).mono ?_
 rintro e w' ⟨rfl,⟨⟨nd,rfl⟩⟩⟩
 go_wp2_with fail
 refine (text_unit.calls k1 (fun j => j ≠ w1.heap.size + 1) _ b t1 b2 w _ ?side1 ?side2 H2.out).mono ?_
 case side1 => exact pw_below_drewN (Lib.below_iterAt HB.out (by omega) _ _) _
 case side2 => exact R_noIter (Kd.R_drewN (R_iterAt HR.out HI.out _) _) (Lib.iterAt_heap _ _ _ _ _ HI.out)
 rintro e w2 ⟨v1,rfl,ho,hb2,hk2⟩
 have hi2:=am_ (show w2.heap[w1.heap.size + 1]?=some (.stringIter a0 (pos + (Utf8.decode a0 pos).2)) from (hk2.2 _ (by simpa [Lib.iterAt_size] using hlt) (by simp)).trans (Lib.iterAt_heap _ _ _ _ _ HI.out))
 have ho2:=am_ ho
 clear hk2 ho
 go_wp2_with fail
 refine (text_unit.calls k1 (fun j => j ≠ w1.heap.size + 1) _ b2 t2 b1 w _ ?side1 ?side2 H1.out).mono ?_
 case side1 => exact hb2
 case side2 => exact R_noIter ho2.out hi2.out
 rintro e w3 ⟨v2,rfl,ho,hb3,hk3⟩
 have hi3:=(hk3.2 _ (Array.getElem?_eq_some_iff.1 hi2.out).1 (by simp)).trans hi2.out
 go_wp2
 go_roundg k1
 case measure => have:=HK.out;omega
 case rel => exact ⟨_,b1,H',⟨by have:=HK.out;omega⟩,⟨Kd.R_mono ho (fun _ _ => trivial)⟩,⟨hi3⟩,⟨hb3⟩⟩
end Go.Proofs.YtamdobdmjcgmoaaGreatDoor.Px
namespace Go.Proofs.YtamdobdmjcgmoaaGreatDoor.Px
open Go.RowKit Go.Proofs.YtamdobdmjcgmoaaGreatDoorW.PrintWords Go.Proofs.YtamdobdmjcgmoaaGreatDoorW.PrintLast Go.Proofs.YtamdobdmjcgmoaaGreatDoorW.PrintMore
set_option linter.unusedVariables false
set_option linter.unusedSimpArgs false
abbrev Cst:=S61
def sameC (c:Cst) (x:Int × ByteArray × Int × Int × Int):Bool:=c.f0==x.1 && (c.f1.toList==x.2.1.toList && (c.f2==x.2.2.1 && (c.f3==x.2.2.2.1 && c.f4==x.2.2.2.2)))
def pool_check.l0:Nat→List Cst→Nat→Option (Option (Int × Int))
 | 0,_,_ => none
 | k + 1,p,i =>
  if i + 1 < p.length then
   (pool_fields.f k (rd_T61 p (i + 1)).f0 (rd_T61 p (i + 1)).f1 (rd_T61 p (i + 1)).f2 (rd_T61 p (i + 1)).f3 (rd_T61 p (i + 1)).f4).bind fun x =>
   if sameC (rd_T61 p (i + 1)) x=true then
    (pool_leads.f k p (rd_T61 p (i + 1)).f0 (rd_T61 p (i + 1)).f1 (rd_T61 p (i + 1)).f2 (rd_T61 p (i + 1)).f3 (rd_T61 p (i + 1)).f4).bind fun t =>
    if t=true then
     (text_Encode.f k (rd_T61 p (i + 1)).f1).bind fun b =>
     if b.2=0 then (if (b.1.length:Int) > 256 then some (some ((i:Int) + 1,20)) else pool_check.l0 k p (i + 1)) else some (some ((i:Int) + 1,20))
    else some (some ((i:Int) + 1,40))
   else some (some ((i:Int) + 1,40))
  else some none
def pool_check.f (k:Nat) (p:List Cst):Option (Option (Int × Int)) :=
 if p.length > 1024 then some (some (0,2)) else if p.length=0 then some (some (0,40)) else if sameC (rd_T61 p 0) (0,⟨#[]⟩,0,0,0)=true then pool_check.l0 k p 0 else some (some (0,40))
def pool_Check.f (k:Nat) (p:List Cst):Option Int:=(pool_check.f k p).bind fun r => some (match r with|none => 0|some (_,y) => y)
def IsWrong (w':World) (r:Option (Int × Int)) (e:Ending):Prop :=
 match r with
 | none => e=.returned .nilIface
 | some q => ∃ g,e=.returned (.iface 110 (.pointer (some ⟨g,0,none⟩)))∧w'.heap[g]?=some (.cells #[.int .i64 q.1,.int .i64 q.2] 117 (0,0))
theorem eqC0 (d:Nat) (w:World) (x0 y0:Int) (x1 y1:ByteArray) (x2 y2:Int) (x3 y3:Int) (x4 y4:Int) :
  (Op.equalIn (d + 2) 61 (.agg #[.int .i64 x0,.string x1,.int .i64 x2,.int .i64 x3,.int .i64 x4]) (.agg #[.int .i64 y0,.string y1,.int .i64 y2,.int .i64 y3,.int .i64 y4])).run Tryz.prog w=.ok (x0==y0 && (x1.toList==y1.toList && (x2==y2 && (x3==y3 && (x4==y4))))) w:=by
 refine eqA_of Tryz.underlying61 (by kernel_rfl) ?_
 refine eqf_cons (by rfl) (by go_simp;rfl) (by go_simp;rfl) (by go_simp) ?_
 refine eqf_cons (by rfl) (by go_simp;rfl) (by go_simp;rfl) (by go_simp) ?_
 refine eqf_cons (by rfl) (by go_simp;rfl) (by go_simp;rfl) (by go_simp) ?_
 refine eqf_cons (by rfl) (by go_simp;rfl) (by go_simp;rfl) (by go_simp) ?_
 exact eqf_last (by rfl) (by go_simp;rfl) (by go_simp;rfl) (by go_simp)
theorem eqC (d:Nat) (W:World) (c:Cst) (x1:Int) (x2:ByteArray) (x3 x4 x5:Int) :
  (Op.equalIn (d + 2) 61 (.agg #[.int .i64 c.f0,.string c.f1,.int .i64 c.f2,.int .i64 c.f3,.int .i64 c.f4]) (.agg #[.int .i64 x1,.string x2,.int .i64 x3,.int .i64 x4,.int .i64 x5])).run Tryz.prog W=.ok (sameC c (x1,x2,x3,x4,x5)) W :=
 eqC0 d W _ _ _ _ _ _ _ _ _ _
attribute [local go_sem high] eqC
set_option maxHeartbeats 80000000 in
set_option maxRecDepth 100000 in
theorem pool_check.calls (k:Nat) (A0:Option Addr) (c0:Nat) (p:List Cst) (r:Option (Int × Int)) (w:World) (hG:Aside0 (GG w)) (hr0:Kd.C k61 w A0 p.length p) (hc0:p.length≤c0) (h:pool_check.f k p=some r) :
  Calls Tryz.prog 58 #[.slice A0 p.length c0] w fun e w' => IsWrong w' r e∧Below w.heap.size w w':=by
 have hu1:=Tryz.underlying61
 have hu2:=Tryz.underlying117
 have HR:=am_ hr0
 have HC:=am_ hc0
 have HB0:=am_ (Below.refl w.heap.size w)
 clear hr0 hc0
 unfold pool_check.f at h
 by_cases c1:p.length > 1024
 ·rw [if_pos c1] at h
  obtain rfl:=Option.some.inj h
  have c1b:decide (1024 < p.length)=true:=decide_eq_true c1
  have c1i:decide ((1024:Int) < (p.length:Int))=true:=decide_eq_true (by omega)
  clear c1 h
  go_enter Tryz.func58,Tryz.ntmps58
  go_wp2_with ((with_reducible refine gate_dst (N:=12) rfl ?_);refine box_event ?hg (N:=12) ?hd (cs:=#[.int .i64 0,.int .i64 2]) (t:=117) ?hr ?_;(case hd => rfl);(case hg => rfl);(case hr => first|(go_simp;done)|(go_simp;rfl));intro gb hg w1 hbox hb;have BK:=am_ hbox;have HB:=am_ (below_step HB0.out hb);clear hbox hb hg)
  go_ret
  exact ⟨⟨gb,rfl,BK.out⟩,HB.out⟩
 rw [if_neg c1] at h
 have c1b:decide (1024 < p.length)=false:=decide_eq_false c1
 have c1i:decide ((1024:Int) < (p.length:Int))=false:=decide_eq_false (by omega)
 clear c1
 by_cases c2:p.length=0
 ·rw [if_pos c2] at h
  obtain rfl:=Option.some.inj h
  have c2i:((p.length:Int)==0)=true:=beq_iff_eq.mpr (by omega)
  have c2n:(p.length==0)=true:=beq_iff_eq.mpr c2
  clear c2 h
  go_enter Tryz.func58,Tryz.ntmps58
  go_wp2_with ((with_reducible refine gate_dst (N:=26) rfl ?_);refine box_event ?hg (N:=26) ?hd (cs:=#[.int .i64 0,.int .i64 40]) (t:=117) ?hr ?_;(case hd => rfl);(case hg => rfl);(case hr => first|(go_simp;done)|(go_simp;rfl));intro gb hg w1 hbox hb;have BK:=am_ hbox;have HB:=am_ (below_step HB0.out hb);clear hbox hb hg)
  go_ret
  exact ⟨⟨gb,rfl,BK.out⟩,HB.out⟩
 rw [if_neg c2] at h
 have c2i:((p.length:Int)==0)=false:=beq_eq_false_iff_ne.mpr (by omega)
 have HL:=am_ (show 0 < p.length by omega)
 clear c2
 obtain ⟨ad,ea,hx0,hx1,hx2,hx3,hx4⟩:=at_T61 HR.out 0 (by omega) (by have:=HL.out;omega)
 subst ea
 have qi:(0 < p.length)=True:=eq_true HL.out
 simp only [show ((0:Int)).toNat=0 from rfl,Nat.zero_mul,Addr.add_zero'] at hx0 hx1 hx2 hx3 hx4
 by_cases c3:sameC (rd_T61 p 0) (0,⟨#[]⟩,0,0,0)=true
 rotate_left
 ·rw [if_neg c3] at h
  obtain rfl:=Option.some.inj h
  have c3b:sameC (rd_T61 p 0) (0,⟨#[]⟩,0,0,0)=false:=by simpa using c3
  have hEq:=c3b
  clear c3 h c3b
  go_enter Tryz.func58,Tryz.ntmps58
  go_wp2_with ((with_reducible refine gate_dst (N:=26) rfl ?_);refine box_event ?hg (N:=26) ?hd (cs:=#[.int .i64 0,.int .i64 40]) (t:=117) ?hr ?_;(case hd => rfl);(case hg => rfl);(case hr => first|(go_simp;done)|(go_simp;rfl));intro gb hg w1 hbox hb;have BK:=am_ hbox;have HB:=am_ (below_step HB0.out hb);clear hbox hb hg)
  go_ret
  exact ⟨⟨gb,rfl,BK.out⟩,HB.out⟩
 rw [if_pos c3] at h
 have hEq:sameC (rd_T61 p 0) (0,⟨#[]⟩,0,0,0)=true:=c3
 have HH:=am_ h
 clear c3 h
 obtain ⟨i0,hi0,_,hsz,_⟩:=info_parts info61
 have hs1:=cut_from (P:=Tryz.prog) 23 61 .i64 Tryz.underlying23 hi0 5 hsz (some ad) p.length c0 1 (by decide) (by have:=HL.out;omega)
 obtain ⟨A1,hA1⟩:∃ A1,A1=(if c0=(1:Int).toNat then some ad else (some ad).map (·.add ((1:Int).toNat * 5))):=⟨_,rfl⟩
 rw [← hA1] at hs1
 have HD:=am_ (show Kd.C k61 w A1 (p.drop 1).length (p.drop 1) from by rw [hA1];exact Kd.C_drop (m:=1) (c:=c0) HR.out HL.out HC.out)
 clear hA1
 go_enter Tryz.func58,Tryz.ntmps58
 go_wp2
 clear hx0 hx1 hx2 hx3 hx4
 go_loopg [31] k (fun kq v31 w' => ∃ i:Nat,v31=.int .i64 (i:Int)∧Aside0 (pool_check.l0 kq p i=some r)∧Aside0 (kq≤k)∧Aside0 (i + 1≤p.length)∧Aside0 (Below w.heap.size w w'))
 case atStart => exact ⟨0,rfl,HH,⟨Nat.le_refl _⟩,⟨HL.out⟩,HB0⟩
 obtain ⟨i,rfl,HA,HK,HI,HB⟩:=hrel
 cases gk with
 | zero => exact absurd HA.out (by simp [pool_check.l0])
 | succ k1 =>
 have H:=HA.out
 clear HA
 simp only [pool_check.l0] at H
 have hlen:(p.drop 1).length=p.length - 1:=List.length_drop
 by_cases hp:i + 1 < p.length
 rotate_left
 ·rw [if_neg hp] at H
  obtain rfl:=Option.some.inj H
  have hpi:decide ((i:Int) < ((p.length - 1:Nat):Int))=false:=decide_eq_false (by omega)
  have hpn:decide (i < p.length - 1)=false:=decide_eq_false (by omega)
  clear hp H
  go_wp2
  go_ret
  exact ⟨rfl,HB.out⟩
 rw [if_pos hp] at H
 have hpi:decide ((i:Int) < ((p.length - 1:Nat):Int))=true:=decide_eq_true (by omega)
 have hpn:decide (i < p.length - 1)=true:=decide_eq_true (by omega)
 have hpt:(i < p.length - 1)=True:=eq_true (by omega)
 have hge:(0≤(i:Int))=True:=eq_true (by omega)
 have hrd:rd_T61 p ((i:Int) + 1)=rd_T61 (p.drop 1) (i:Int):=by
  unfold rd_T61
  rw [Int.toNat_natCast,show ((i:Int) + 1).toNat=i + 1 by omega,List.getD_eq_getElem?_getD,List.getD_eq_getElem?_getD,List.getElem?_drop,Nat.add_comm]
 rw [hrd] at H
 obtain ⟨a1,ea,hx0,hx1,hx2,hx3,hx4⟩:=at_T61 (Kd.C_below HD.out HB.out) (i:Int) (by omega) (by omega)
 subst ea
 simp only [Int.toNat_natCast] at hx0 hx1 hx2 hx3 hx4
 obtain ⟨cc,hcc⟩:∃ cc,cc=rd_T61 (p.drop 1) (i:Int):=⟨_,rfl⟩
 rw [← hcc] at H hx0 hx1 hx2 hx3 hx4
 have hcap:p.length≤1024:=by simpa using c1b
 have HPI:=am_ (show i < 1024 from by omega)
 clear hp hcc hrd
 obtain ⟨⟨x1,x2,x3,x4,x5⟩,hf,H⟩:=Option.bind_eq_some_iff.mp H
 have HF:=am_ hf
 clear hf
 go_wp2_with (first|((with_reducible refine gate_dst (N:=4) rfl ?_);refine box_event ?hg (N:=4) ?hd (cs:=#[.int .i64 0,.string (⟨#[]⟩:ByteArray),.int .i64 0,.int .i64 0,.int .i64 0]) (t:=61) ?hr ?_;(case hd => rfl);(case hg => rfl);(case hr => first|(go_simp;done)|(go_simp;rfl));intro gb hg w1 hbox hb;have BK:=am_ hbox;have GE:=am_ (show w.heap.size≤gb from by rw [hg];exact HB.out.size);have HB1:=am_ (below_step HB.out hb);have hz0:w1.cell? ⟨gb,0,none⟩=some (.int .i64 0):=(blk_cell BK.out 0).trans rfl;have hz1:w1.cell? ⟨gb,1,none⟩=some (.string (⟨#[]⟩:ByteArray)):=(blk_cell BK.out 1).trans rfl;have hz2:w1.cell? ⟨gb,2,none⟩=some (.int .i64 0):=(blk_cell BK.out 2).trans rfl;have hz3:w1.cell? ⟨gb,3,none⟩=some (.int .i64 0):=(blk_cell BK.out 3).trans rfl;have hz4:w1.cell? ⟨gb,4,none⟩=some (.int .i64 0):=(blk_cell BK.out 4).trans rfl;have hf0:=blk_frozen BK.out 0;have hf1:=blk_frozen BK.out 1;have hf2:=blk_frozen BK.out 2;have hf3:=blk_frozen BK.out 3;have hf4:=blk_frozen BK.out 4;clear hbox hb hg)|((with_reducible refine gate_store (t:=61) (p:=4) rfl ?_);refine store_event (t:=61) (p:=4) (v:=?vo_) (w1:=(((((w1.setCell ⟨gb,0,none⟩ (.int .i64 cc.f0)).setCell ⟨gb,1,none⟩ (.string cc.f1)).setCell ⟨gb,2,none⟩ (.int .i64 cc.f2)).setCell ⟨gb,3,none⟩ (.int .i64 cc.f3)).setCell ⟨gb,4,none⟩ (.int .i64 cc.f4))) ?hg ?ho ?hn ?hr ?_;(case ho => rfl);(case hg => rfl);(case hn => rfl);(case hr => first|(go_simp;done)|(go_simp;rfl));intro w2 hw;have BK2:=am_ (show w2.heap[gb]?=some (.cells #[.int .i64 cc.f0,.string cc.f1,.int .i64 cc.f2,.int .i64 cc.f3,.int .i64 cc.f4] 61 (0,0)) from by rw [hw];refine blk_put (cs:=#[.int .i64 cc.f0,.string cc.f1,.int .i64 cc.f2,.int .i64 cc.f3,.int .i64 0]) ?_ 4 _ rfl;refine blk_put (cs:=#[.int .i64 cc.f0,.string cc.f1,.int .i64 cc.f2,.int .i64 0,.int .i64 0]) ?_ 3 _ rfl;refine blk_put (cs:=#[.int .i64 cc.f0,.string cc.f1,.int .i64 0,.int .i64 0,.int .i64 0]) ?_ 2 _ rfl;refine blk_put (cs:=#[.int .i64 cc.f0,.string (⟨#[]⟩:ByteArray),.int .i64 0,.int .i64 0,.int .i64 0]) ?_ 1 _ rfl;refine blk_put (cs:=#[.int .i64 0,.string (⟨#[]⟩:ByteArray),.int .i64 0,.int .i64 0,.int .i64 0]) ?_ 0 _ rfl;exact BK.out);have HB2:=am_ (show Below w.heap.size w w2 from by rw [hw];refine below_set ?_ GE.out;refine below_set ?_ GE.out;refine below_set ?_ GE.out;refine below_set ?_ GE.out;refine below_set ?_ GE.out;exact HB1.out);have hc0:w2.cell? ⟨gb,0,none⟩=some (.int .i64 cc.f0):=(blk_cell BK2.out 0).trans rfl;have hc1:w2.cell? ⟨gb,1,none⟩=some (.string cc.f1):=(blk_cell BK2.out 1).trans rfl;have hc2:w2.cell? ⟨gb,2,none⟩=some (.int .i64 cc.f2):=(blk_cell BK2.out 2).trans rfl;have hc3:w2.cell? ⟨gb,3,none⟩=some (.int .i64 cc.f3):=(blk_cell BK2.out 3).trans rfl;have hc4:w2.cell? ⟨gb,4,none⟩=some (.int .i64 cc.f4):=(blk_cell BK2.out 4).trans rfl;clear hw))
 by_cases hs:sameC cc (x1,x2,x3,x4,x5)=true
 rotate_left
 ·rw [if_neg hs] at H
  obtain rfl:=Option.some.inj H
  have hEqc:sameC cc (x1,x2,x3,x4,x5)=false:=by simpa using hs
  clear hs H
  refine start_ (n:=10) (S:=fun w' => w'.cell? ⟨gb,0,none⟩=some (.int .i64 cc.f0)∧w'.cell? ⟨gb,1,none⟩=some (.string cc.f1)∧w'.cell? ⟨gb,2,none⟩=some (.int .i64 cc.f2)∧w'.cell? ⟨gb,3,none⟩=some (.int .i64 cc.f3)∧w'.cell? ⟨gb,4,none⟩=some (.int .i64 cc.f4)) (ds:=[]) #[false,false,false,false,false,false,false,false,false,false] (by kernel_rfl) rfl rfl ⟨hc0,hc1,hc2,hc3,hc4⟩ (fun hHeld => ?_)
  refine tk_ 0 (some 36) hHeld ?_ (hy:=by rintro w' ⟨s0,s1,s2,s3,s4⟩;go_simp;with_reducible rfl)
  refine tk_ 1 (some 37) hHeld ?_ (hy:=by rintro w' ⟨s0,s1,s2,s3,s4⟩;go_simp;with_reducible rfl)
  refine one_ (i:=2) (N:=some 38) #[true,true,true,false,false,false,false,false,false,false] rfl rfl (by kernel_rfl) (by decide) (fun K hK => ?_)
  refine goes_ Tryz.func76 (by kernel_rfl) rfl #[.agg #[.int .i64 cc.f0,.string cc.f1,.int .i64 cc.f2,.int .i64 cc.f3,.int .i64 cc.f4]] (by rfl) rfl rfl (by simp only [List.map_toArray,List.map_cons,List.map_nil];rfl) ?_
  with_reducible refine (pool_fields.calls k1 cc.f0 cc.f1 cc.f2 cc.f3 cc.f4 x1 x2 x3 x4 x5 _ HF.out).mono ?_
  rintro e w3 ⟨rfl,hb3⟩
  refine ⟨_,rfl,?_⟩
  have BK3:=am_ (blk_below (by first|exact BK2.out|exact blk_drewN BK2.out _|exact blk_drew BK2.out) hb3)
  have HB3:=am_ (below_step (by first|exact HB2.out|exact pw_below_drewN HB2.out _|exact below_drew1 HB2.out) hb3)
  clear hb3
  refine hK.out _ _ ⟨(blk_cell BK3.out 0).trans rfl,(blk_cell BK3.out 1).trans rfl,(blk_cell BK3.out 2).trans rfl,(blk_cell BK3.out 3).trans rfl,(blk_cell BK3.out 4).trans rfl⟩ (fun hHeld => ?_)
  clear hK K
  refine norm_ (a':=?_) ?_ ?_
  rotate_left
  ·show Act.put _ (some 38) _=_
   simp only [Act.put,List.setIfInBounds_toArray,List.set_cons_zero,List.set_cons_succ,i64_w,i32_w]
   rfl
  refine pr_ 3 (some 39) ?_
  refine pr_ 4 (some 40) ?_
  refine pure_ (i:=5) (N:=some 41) (v:=undef) (a':=?_) #[true,true,true,true,true,true,false,false,false,false] rfl rfl (by kernel_rfl) (fun _ _ _ h => h) (Or.inr ⟨by rfl,rfl⟩) ?_ ?_
  rotate_left
  ·simp only [Act.put,List.setIfInBounds_toArray,List.set_cons_zero,List.set_cons_succ,i64_w,i32_w]
   rfl
  refine pure_ (i:=6) (N:=some 42) (v:=undef) (a':=?_) #[true,true,true,true,true,true,true,false,false,false] rfl rfl (by kernel_rfl) (fun _ _ _ h => h) (Or.inr ⟨by rfl,rfl⟩) ?_ ?_
  rotate_left
  ·simp only [Act.put,List.setIfInBounds_toArray,List.set_cons_zero,List.set_cons_succ,i64_w,i32_w]
   rfl
  refine pure_ (i:=7) (N:=some 43) (v:=undef) (a':=?_) #[true,true,true,true,true,true,true,true,false,false] rfl rfl (by kernel_rfl) (fun _ _ _ h => h) (Or.inr ⟨by rfl,rfl⟩) ?_ ?_
  rotate_left
  ·simp only [Act.put,List.setIfInBounds_toArray,List.set_cons_zero,List.set_cons_succ,i64_w,i32_w]
   rfl
  refine pure_ (i:=8) (N:=some 44) (v:=undef) (a':=?_) #[true,true,true,true,true,true,true,true,true,false] rfl rfl (by kernel_rfl) (fun _ _ _ h => h) (Or.inr ⟨by rfl,rfl⟩) ?_ ?_
  rotate_left
  ·simp only [Act.put,List.setIfInBounds_toArray,List.set_cons_zero,List.set_cons_succ,i64_w,i32_w]
   rfl
  refine pr_ 9 (some 45) ?_
  refine done_ (by kernel_rfl) ?_
  have hwi:wrap64 ((i:Int) + 1)=(i:Int) + 1:=by have:=HPI.out;unfold wrap64;omega
  go_wp2_with ((with_reducible refine gate_dst (N:=49) rfl ?_);refine box_event ?hg (N:=49) ?hd (cs:=#[.int .i64 ((i:Int) + 1),.int .i64 40]) (t:=117) ?hr ?_;(case hd => rfl);(case hg => rfl);(case hr => first|(go_simp;done)|(go_simp;rfl));intro gw hgw w4 hbox hb;have BK4:=am_ hbox;have HB4:=am_ (below_step HB3.out hb);clear hbox hb hgw)
  go_ret
  exact ⟨⟨gw,rfl,BK4.out⟩,HB4.out⟩
 rw [if_pos hs] at H
 have hEqc:sameC cc (x1,x2,x3,x4,x5)=true:=hs
 have hwi:wrap64 ((i:Int) + 1)=(i:Int) + 1:=by have:=HPI.out;unfold wrap64;omega
 clear hs
 obtain ⟨t,hld,H⟩:=Option.bind_eq_some_iff.mp H
 have HLD:=am_ hld
 clear hld
 cases t with
 | false =>
  rw [if_neg (by simp)] at H
  obtain rfl:=Option.some.inj H
  clear H
  refine start_ (n:=10) (S:=fun w' => w'.cell? ⟨gb,0,none⟩=some (.int .i64 cc.f0)∧w'.cell? ⟨gb,1,none⟩=some (.string cc.f1)∧w'.cell? ⟨gb,2,none⟩=some (.int .i64 cc.f2)∧w'.cell? ⟨gb,3,none⟩=some (.int .i64 cc.f3)∧w'.cell? ⟨gb,4,none⟩=some (.int .i64 cc.f4)) (ds:=[]) #[false,false,false,false,false,false,false,false,false,false] (by kernel_rfl) rfl rfl ⟨hc0,hc1,hc2,hc3,hc4⟩ (fun hHeld => ?_)
  refine tk_ 0 (some 36) hHeld ?_ (hy:=by rintro w' ⟨s0,s1,s2,s3,s4⟩;go_simp;with_reducible rfl)
  refine tk_ 1 (some 37) hHeld ?_ (hy:=by rintro w' ⟨s0,s1,s2,s3,s4⟩;go_simp;with_reducible rfl)
  refine one_ (i:=2) (N:=some 38) #[true,true,true,false,false,false,false,false,false,false] rfl rfl (by kernel_rfl) (by decide) (fun K hK => ?_)
  refine goes_ Tryz.func76 (by kernel_rfl) rfl #[.agg #[.int .i64 cc.f0,.string cc.f1,.int .i64 cc.f2,.int .i64 cc.f3,.int .i64 cc.f4]] (by rfl) rfl rfl (by simp only [List.map_toArray,List.map_cons,List.map_nil];rfl) ?_
  with_reducible refine (pool_fields.calls k1 cc.f0 cc.f1 cc.f2 cc.f3 cc.f4 x1 x2 x3 x4 x5 _ HF.out).mono ?_
  rintro e w3 ⟨rfl,hb3⟩
  refine ⟨_,rfl,?_⟩
  have BK3:=am_ (blk_below (by first|exact BK2.out|exact blk_drewN BK2.out _|exact blk_drew BK2.out) hb3)
  have HB3:=am_ (below_step (by first|exact HB2.out|exact pw_below_drewN HB2.out _|exact below_drew1 HB2.out) hb3)
  clear hb3
  refine hK.out _ _ ⟨(blk_cell BK3.out 0).trans rfl,(blk_cell BK3.out 1).trans rfl,(blk_cell BK3.out 2).trans rfl,(blk_cell BK3.out 3).trans rfl,(blk_cell BK3.out 4).trans rfl⟩ (fun hHeld => ?_)
  clear hK K
  refine norm_ (a':=?_) ?_ ?_
  rotate_left
  ·show Act.put _ (some 38) _=_
   simp only [Act.put,List.setIfInBounds_toArray,List.set_cons_zero,List.set_cons_succ,i64_w,i32_w]
   rfl
  refine pr_ 3 (some 39) ?_
  refine pr_ 4 (some 40) ?_
  refine pr_ 5 (some 41) ?_
  refine tk_ 6 (some 42) hHeld ?_ (hy:=by rintro w' ⟨s0,s1,s2,s3,s4⟩;go_simp;with_reducible rfl)
  refine one_ (i:=7) (N:=some 43) #[true,true,true,true,true,true,true,true,false,false] rfl rfl (by kernel_rfl) (by decide) (fun K hK => ?_)
  refine goes_ Tryz.func77 (by kernel_rfl) rfl #[.slice (some ad) p.length c0,.agg #[.int .i64 cc.f0,.string cc.f1,.int .i64 cc.f2,.int .i64 cc.f3,.int .i64 cc.f4]] (by rfl) rfl rfl (by simp only [List.map_toArray,List.map_cons,List.map_nil];rfl) ?_
  with_reducible refine (pool_leads.calls k1 (some ad) c0 p cc.f0 cc.f1 cc.f2 cc.f3 cc.f4 false _ (Kd.C_below (Kd.C_below HR.out HB3.out) (by first|exact Below.refl _ _|exact pw_below_drewN (Below.refl _ _) _)) HC.out HLD.out).mono ?_
  rintro e w5 ⟨rfl,hb5⟩
  refine ⟨_,rfl,?_⟩
  have BK5:=am_ (blk_below (by first|exact BK3.out|exact blk_drewN BK3.out _|exact blk_drew BK3.out) hb5)
  have HB5:=am_ (below_step (by first|exact HB3.out|exact pw_below_drewN HB3.out _|exact below_drew1 HB3.out) hb5)
  clear hb5
  refine hK.out _ _ ⟨(blk_cell BK5.out 0).trans rfl,(blk_cell BK5.out 1).trans rfl,(blk_cell BK5.out 2).trans rfl,(blk_cell BK5.out 3).trans rfl,(blk_cell BK5.out 4).trans rfl⟩ (fun hHeld => ?_)
  clear hK K
  refine norm_ (a':=?_) ?_ ?_
  rotate_left
  ·show Act.put _ (some 43) _=_
   simp only [Act.put,List.setIfInBounds_toArray,List.set_cons_zero,List.set_cons_succ,i64_w,i32_w]
   rfl
  refine pr_ 8 (some 44) ?_
  refine pr_ 9 (some 45) ?_
  refine done_ (by kernel_rfl) ?_
  go_wp2_with ((with_reducible refine gate_dst (N:=49) rfl ?_);refine box_event ?hg (N:=49) ?hd (cs:=#[.int .i64 ((i:Int) + 1),.int .i64 40]) (t:=117) ?hr ?_;(case hd => rfl);(case hg => rfl);(case hr => first|(go_simp;done)|(go_simp;rfl));intro gw hgw w6 hbox hb;have BK6:=am_ hbox;have HB6:=am_ (below_step HB5.out hb);clear hbox hb hgw)
  go_ret
  exact ⟨⟨gw,rfl,BK6.out⟩,HB6.out⟩
 | true =>
  rw [if_pos rfl] at H
  obtain ⟨⟨b1,b2⟩,hE,H⟩:=Option.bind_eq_some_iff.mp H
  have HE:=am_ hE
  have H9:=am_ H
  clear hE H
  refine start_ (n:=10) (S:=fun w' => w'.cell? ⟨gb,0,none⟩=some (.int .i64 cc.f0)∧w'.cell? ⟨gb,1,none⟩=some (.string cc.f1)∧w'.cell? ⟨gb,2,none⟩=some (.int .i64 cc.f2)∧w'.cell? ⟨gb,3,none⟩=some (.int .i64 cc.f3)∧w'.cell? ⟨gb,4,none⟩=some (.int .i64 cc.f4)) (ds:=[]) #[false,false,false,false,false,false,false,false,false,false] (by kernel_rfl) rfl rfl ⟨hc0,hc1,hc2,hc3,hc4⟩ (fun hHeld => ?_)
  refine tk_ 0 (some 36) hHeld ?_ (hy:=by rintro w' ⟨s0,s1,s2,s3,s4⟩;go_simp;with_reducible rfl)
  refine tk_ 1 (some 37) hHeld ?_ (hy:=by rintro w' ⟨s0,s1,s2,s3,s4⟩;go_simp;with_reducible rfl)
  refine one_ (i:=2) (N:=some 38) #[true,true,true,false,false,false,false,false,false,false] rfl rfl (by kernel_rfl) (by decide) (fun K hK => ?_)
  refine goes_ Tryz.func76 (by kernel_rfl) rfl #[.agg #[.int .i64 cc.f0,.string cc.f1,.int .i64 cc.f2,.int .i64 cc.f3,.int .i64 cc.f4]] (by rfl) rfl rfl (by simp only [List.map_toArray,List.map_cons,List.map_nil];rfl) ?_
  with_reducible refine (pool_fields.calls k1 cc.f0 cc.f1 cc.f2 cc.f3 cc.f4 x1 x2 x3 x4 x5 _ HF.out).mono ?_
  rintro e w3 ⟨rfl,hb3⟩
  refine ⟨_,rfl,?_⟩
  have BK3:=am_ (blk_below (by first|exact BK2.out|exact blk_drewN BK2.out _|exact blk_drew BK2.out) hb3)
  have HB3:=am_ (below_step (by first|exact HB2.out|exact pw_below_drewN HB2.out _|exact below_drew1 HB2.out) hb3)
  clear hb3
  refine hK.out _ _ ⟨(blk_cell BK3.out 0).trans rfl,(blk_cell BK3.out 1).trans rfl,(blk_cell BK3.out 2).trans rfl,(blk_cell BK3.out 3).trans rfl,(blk_cell BK3.out 4).trans rfl⟩ (fun hHeld => ?_)
  clear hK K
  refine norm_ (a':=?_) ?_ ?_
  rotate_left
  ·show Act.put _ (some 38) _=_
   simp only [Act.put,List.setIfInBounds_toArray,List.set_cons_zero,List.set_cons_succ,i64_w,i32_w]
   rfl
  refine pr_ 3 (some 39) ?_
  refine pr_ 4 (some 40) ?_
  refine pr_ 5 (some 41) ?_
  refine tk_ 6 (some 42) hHeld ?_ (hy:=by rintro w' ⟨s0,s1,s2,s3,s4⟩;go_simp;with_reducible rfl)
  refine one_ (i:=7) (N:=some 43) #[true,true,true,true,true,true,true,true,false,false] rfl rfl (by kernel_rfl) (by decide) (fun K hK => ?_)
  refine goes_ Tryz.func77 (by kernel_rfl) rfl #[.slice (some ad) p.length c0,.agg #[.int .i64 cc.f0,.string cc.f1,.int .i64 cc.f2,.int .i64 cc.f3,.int .i64 cc.f4]] (by rfl) rfl rfl (by simp only [List.map_toArray,List.map_cons,List.map_nil];rfl) ?_
  with_reducible refine (pool_leads.calls k1 (some ad) c0 p cc.f0 cc.f1 cc.f2 cc.f3 cc.f4 true _ (Kd.C_below (Kd.C_below HR.out HB3.out) (by first|exact Below.refl _ _|exact pw_below_drewN (Below.refl _ _) _)) HC.out HLD.out).mono ?_
  rintro e w5 ⟨rfl,hb5⟩
  refine ⟨_,rfl,?_⟩
  have BK5:=am_ (blk_below (by first|exact BK3.out|exact blk_drewN BK3.out _|exact blk_drew BK3.out) hb5)
  have HB5:=am_ (below_step (by first|exact HB3.out|exact pw_below_drewN HB3.out _|exact below_drew1 HB3.out) hb5)
  clear hb5
  refine hK.out _ _ ⟨(blk_cell BK5.out 0).trans rfl,(blk_cell BK5.out 1).trans rfl,(blk_cell BK5.out 2).trans rfl,(blk_cell BK5.out 3).trans rfl,(blk_cell BK5.out 4).trans rfl⟩ (fun hHeld => ?_)
  clear hK K
  refine norm_ (a':=?_) ?_ ?_
  rotate_left
  ·show Act.put _ (some 43) _=_
   simp only [Act.put,List.setIfInBounds_toArray,List.set_cons_zero,List.set_cons_succ,i64_w,i32_w]
   rfl
  refine pr_ 8 (some 44) ?_
  refine pr_ 9 (some 45) ?_
  refine done_ (by kernel_rfl) ?_
  have hs1:w5.cell? ⟨gb,1,none⟩=some (.string cc.f1):=(blk_cell BK5.out 1).trans rfl
  have H:=H9.out
  clear H9
  simp only at H
  by_cases he:b2=0
  ·rw [if_pos he] at H
   have heb:(b2 != 0)=false:=bne_eq_false_iff_eq.mpr he
   by_cases hl:(b1.length:Int) > 256
   ·rw [if_pos hl] at H
    obtain rfl:=Option.some.inj H
    have hlb:decide ((256:Int) < (b1.length:Int))=true:=decide_eq_true hl
    have hln:decide (256 < b1.length)=true:=decide_eq_true (by omega)
    clear he hl H
    go_wp2_with fail
    refine (text_Encode.calls k1 cc.f1 b1 b2 _ ⟨GG.below hG.out (by first|exact HB5.out|exact pw_below_drewN HB5.out _|exact below_drew1 HB5.out)⟩ HE.out).mono ?_
    rintro e w6 ⟨v6,rfl,hR6,hb6⟩
    obtain ⟨A6,c6,hv6⟩:=Kd.R_slice hR6
    subst hv6
    have HB6:=am_ (below_step (by first|exact HB5.out|exact pw_below_drewN HB5.out _|exact below_drew1 HB5.out) hb6)
    clear hR6 hb6
    go_wp2_with ((with_reducible refine gate_dst (N:=67) rfl ?_);refine box_event ?hg (N:=67) ?hd (cs:=#[.int .i64 ((i:Int) + 1),.int .i64 20]) (t:=117) ?hr ?_;(case hd => rfl);(case hg => rfl);(case hr => first|(go_simp;done)|(go_simp;rfl));intro gw hgw w7 hbox hb;have BK9:=am_ hbox;have HB7:=am_ (below_step HB6.out hb);clear hbox hb hgw)
    go_ret
    exact ⟨⟨gw,rfl,BK9.out⟩,HB7.out⟩
   rw [if_neg hl] at H
   have hlb:decide ((256:Int) < (b1.length:Int))=false:=decide_eq_false hl
   have hln:decide (256 < b1.length)=false:=decide_eq_false (by omega)
   have H':=am_ H
   clear he hl H
   go_wp2_with fail
   refine (text_Encode.calls k1 cc.f1 b1 b2 _ ⟨GG.below hG.out (by first|exact HB5.out|exact pw_below_drewN HB5.out _|exact below_drew1 HB5.out)⟩ HE.out).mono ?_
   rintro e w6 ⟨v6,rfl,hR6,hb6⟩
   obtain ⟨A6,c6,hv6⟩:=Kd.R_slice hR6
   subst hv6
   have HB6:=am_ (below_step (by first|exact HB5.out|exact pw_below_drewN HB5.out _|exact below_drew1 HB5.out) hb6)
   clear hR6 hb6
   go_wp2
   go_roundg k1
   case measure => have:=HK.out;omega
   case rel => exact ⟨i + 1,congrArg (Value.int .i64) (by omega),H',⟨by have:=HK.out;omega⟩,⟨by have:=of_decide_eq_true hpn;omega⟩,HB6⟩
  rw [if_neg he] at H
  obtain rfl:=Option.some.inj H
  have heb:(b2 != 0)=true:=bne_iff_ne.mpr he
  clear he H
  go_wp2_with fail
  refine (text_Encode.calls k1 cc.f1 b1 b2 _ ⟨GG.below hG.out (by first|exact HB5.out|exact pw_below_drewN HB5.out _|exact below_drew1 HB5.out)⟩ HE.out).mono ?_
  rintro e w6 ⟨v6,rfl,hR6,hb6⟩
  obtain ⟨A6,c6,hv6⟩:=Kd.R_slice hR6
  subst hv6
  have HB6:=am_ (below_step (by first|exact HB5.out|exact pw_below_drewN HB5.out _|exact below_drew1 HB5.out) hb6)
  clear hR6 hb6
  go_wp2_with ((with_reducible refine gate_dst (N:=67) rfl ?_);refine box_event ?hg (N:=67) ?hd (cs:=#[.int .i64 ((i:Int) + 1),.int .i64 20]) (t:=117) ?hr ?_;(case hd => rfl);(case hg => rfl);(case hr => first|(go_simp;done)|(go_simp;rfl));intro gw hgw w7 hbox hb;have BK9:=am_ hbox;have HB7:=am_ (below_step HB6.out hb);clear hbox hb hgw)
  go_ret
  exact ⟨⟨gw,rfl,BK9.out⟩,HB7.out⟩
theorem as_at (B:Nat) (w0 w:World) (g gb:Nat) (x y:Int) (hB:Below B w0 w) (hgb:B≤gb) (hbk:w.heap[gb]?=some (.cells #[.pointer none] 110 (0,0))) (hbg:w.heap[g]?=some (.cells #[.int .i64 x,.int .i64 y] 117 (0,0))) (hG:GG w) (hBs:B≤w.heap.size) :
  Calls Tryz.prog 57 #[.iface 110 (.pointer (some ⟨g,0,none⟩)),.iface 115 (.pointer (some ⟨gb,0,none⟩))] w fun ev w' => ev=.returned (.bool true)∧w'.cell? ⟨gb,0,none⟩=some (.pointer (some ⟨g,0,none⟩))∧w'.cell? ⟨g,1,none⟩=some (.int .i64 y)∧Below B w0 w':=by
 have hne:gb ≠ g:=by
  rintro rfl
  rw [hbk] at hbg
  cases hbg
 have hl1:=blk_lt hbk
 have hl2:=blk_lt hbg
 refine (as_hit ⟨g,0,none⟩ ⟨gb,0,none⟩ (.pointer none) w hG.et ((blk_cell hbk 0).trans rfl) (blk_frozen hbk 0)).mono ?_
 rintro ev w' ⟨rfl,rfl⟩
 refine ⟨rfl,?_,?_,?_⟩
 ·refine World.cell?_setCell_same (u:=.pointer none) _ _ _ ?_
  rw [World.cell?_alloc_lt _ _ ⟨gb,0,none⟩ (by simp <;> omega),World.cell?_alloc_lt _ _ ⟨gb,0,none⟩ (by simp <;> omega),World.cell?_alloc_lt _ _ ⟨gb,0,none⟩ (by simp <;> omega),World.cell?_alloc_lt _ _ ⟨gb,0,none⟩ hl1]
  exact (blk_cell hbk 0).trans rfl
 ·rw [World.cell?_setCell_far _ _ _ _ hne]
  rw [World.cell?_alloc_lt _ _ ⟨g,1,none⟩ (by simp <;> omega),World.cell?_alloc_lt _ _ ⟨g,1,none⟩ (by simp <;> omega),World.cell?_alloc_lt _ _ ⟨g,1,none⟩ (by simp <;> omega),World.cell?_alloc_lt _ _ ⟨g,1,none⟩ hl2]
  exact (blk_cell hbg 1).trans rfl
 exact ((((hB.alloc hBs _).alloc (by simp <;> omega) _).alloc (by simp <;> omega) _).alloc (by simp <;> omega) _).setCell hgb _
set_option maxHeartbeats 4000000 in
set_option maxRecDepth 100000 in
theorem pool_Check.calls (k:Nat) (A0:Option Addr) (c0:Nat) (p:List Cst) (r1:Int) (w:World) (hG:Aside0 (GG w)) (hr0:Kd.C k61 w A0 p.length p) (hc0:p.length≤c0) (h:pool_Check.f k p=some r1) :
  Calls Tryz.prog 37 #[.slice A0 p.length c0] w fun e w' => e=.returned (.int .i64 r1)∧Below w.heap.size w w':=by
 have HR:=am_ hr0
 have HC:=am_ hc0
 have HB0:=am_ (Below.refl w.heap.size w)
 clear hr0 hc0
 unfold pool_Check.f at h
 obtain ⟨r,hr,h⟩:=Option.bind_eq_some_iff.mp h
 have HF:=am_ hr
 clear hr
 go_enter Tryz.func37,Tryz.ntmps37
 go_wp2_with ((with_reducible refine gate_dst (N:=3) rfl ?_);refine box_event ?hg (N:=3) ?hd (cs:=#[.pointer none]) (t:=110) ?hr ?_;(case hd => rfl);(case hg => rfl);(case hr => first|(go_simp;done)|(go_simp;rfl));intro gb hg w1 hbox hb;have BK:=am_ hbox;have GE:=am_ (show w.heap.size≤gb from by rw [hg];exact Nat.le_refl _);have HB1:=am_ (below_step HB0.out hb);clear hbox hb hg)
 refine (pool_check.calls k A0 c0 p r _ ⟨GG.below hG.out HB1.out⟩ (Kd.C_below HR.out HB1.out) HC.out HF.out).mono ?_
 rintro e w2 ⟨hw,hb2⟩
 have HB2:=am_ (below_step HB1.out hb2)
 have BK2:=am_ (blk_below BK.out hb2)
 clear hb2
 cases r with
 | none =>
  obtain rfl:=Option.some.inj h
  obtain rfl:e=.returned .nilIface:=hw
  clear h
  go_wp2_with fail
  refine (as_nil _ _).mono ?_
  rintro e w3 ⟨rfl,rfl⟩
  go_wp2
  go_ret
  exact ⟨rfl,HB2.out⟩
 | some q =>
  obtain ⟨x,y⟩:=q
  obtain rfl:=Option.some.inj h
  obtain ⟨g,rfl,hbg⟩:=hw
  have HBG:=am_ hbg
  clear h hbg
  go_wp2_with fail
  refine (as_at w.heap.size w _ g gb x y HB2.out GE.out BK2.out HBG.out (GG.below hG.out HB2.out) HB2.out.size).mono ?_
  rintro e w3 ⟨rfl,hc1,hc2,hb3⟩
  have HB3:=am_ hb3
  clear hb3
  go_wp2
  go_ret
  exact ⟨rfl,HB3.out⟩
end Go.Proofs.YtamdobdmjcgmoaaGreatDoor.Px
namespace Go.Proofs.YtamdobdmjcgmoaaGreatDoor.Px
open Go.RowKit Go.Proofs.YtamdobdmjcgmoaaGreatDoorW.PrintWords Go.Proofs.YtamdobdmjcgmoaaGreatDoorW.PrintLast Go.Proofs.YtamdobdmjcgmoaaGreatDoorW.PrintMore
theorem row_C {w:World} {base:Nat} {ok:Nat→Prop} {A:Option Addr} {c n:Nat} {xs:List Int} (h:Kd.R (Kd.int .u8) 5 w base ok (.slice A n c) xs):(Kd.int .u8).C w A xs.length xs:=by
 obtain ⟨A',c',e,_,hC⟩:=Kd.R_reads h
 injection e with e1 e2 e3
 rw [e1]
 exact hC
end Go.Proofs.YtamdobdmjcgmoaaGreatDoor.Px
namespace Go.Proofs.YtamdobdmjcgmoaaGreatDoor.Px
open Go.RowKit Go.Proofs.YtamdobdmjcgmoaaGreatDoorW.PrintWords Go.Proofs.YtamdobdmjcgmoaaGreatDoorW.PrintLast Go.Proofs.YtamdobdmjcgmoaaGreatDoorW.PrintMore
abbrev Mth:=S57
abbrev Trp:=S63
abbrev Fld:=S54
def sMaps:ByteArray:={ data:=#[83,116,97,99,107,77,97,112,84,97,98,108,101] }
def sCode:ByteArray:={ data:=#[67,111,100,101] }
end Go.Proofs.YtamdobdmjcgmoaaGreatDoor.Px
namespace Go.Proofs.YtamdobdmjcgmoaaGreatDoor.Px
open Go.RowKit Go.Proofs.YtamdobdmjcgmoaaGreatDoorW.PrintWords Go.Proofs.YtamdobdmjcgmoaaGreatDoorW.PrintLast Go.Proofs.YtamdobdmjcgmoaaGreatDoorW.PrintMore
set_option linter.unusedVariables false
set_option linter.unusedSimpArgs false
structure SmAt (w W:World) (ba bb:Nat) (Ra Rb:Obj):Prop where
 b:Below w.heap.size w W
 ka:W.heap[ba]?=some Ra
 kb:W.heap[bb]?=some Rb
theorem SmAt.new {w W W':World} {ba bb:Nat} {Ra Rb:Obj} (h:SmAt w W ba bb Ra Rb) (hb:Below W.heap.size W W'):SmAt w W' ba bb Ra Rb :=
 ⟨h.b.trans (hb.mono h.b.size),(hb.block _ (blk_lt h.ka)).trans h.ka,(hb.block _ (blk_lt h.kb)).trans h.kb⟩
theorem SmAt.cell {w W:World} {ba bb:Nat} {Ra Rb:Obj} {ad:Addr} {v:Value} (h:SmAt w W ba bb Ra Rb) (hc:w.cell? ad=some v):W.cell? ad=some v:=(h.b.cell (World.block_lt_of_cell? w _ hc)).trans hc
theorem rd_mem_M {l:List Mth} {x:Int} (h0:0≤x) (h1:x < (l.length:Int)):rd_T57 l x ∈ l:=by
 unfold rd_T57
 rw [List.getD_eq_getElem?_getD,List.getElem?_eq_getElem (by omega:x.toNat < l.length)]
 exact List.getElem_mem _
set_option maxHeartbeats 80000000 in
set_option maxRecDepth 100000 in
theorem same_eq.calls {A0 B0 A3 B3 A4 B4:Option Addr} {c0 d0 c3 d3 c4 d4:Nat} {l0:List Cst} {l3:List Fld} {l4:List Mth} {t s:Int} {w:World} (ha0:Kd.C k61 w A0 l0.length l0) (hb0:Kd.C k61 w B0 l0.length l0) (ha3:Kd.C k54 w A3 l3.length l3) (hb3:Kd.C k54 w B3 l3.length l3) (ha4:Kd.C k57 w A4 l4.length l4) (hb4:Kd.C k57 w B4 l4.length l4)
  (hl0:l0.length≤1048576) (hl3:l3.length≤1048576) (hl4:l4.length≤1048576) (hl6:∀ m ∈ l4,m.f6.length≤1048576) :
  Calls Tryz.prog 6 #[.agg #[.slice A0 l0.length c0,.int .i64 t,.int .i64 s,.slice A3 l3.length c3,.slice A4 l4.length c4],.agg #[.slice B0 l0.length d0,.int .i64 t,.int .i64 s,.slice B3 l3.length d3,.slice B4 l4.length d4]] w fun e w' => e=.returned (.bool true)∧Below w.heap.size w w':=by
 have hu26:=Tryz.underlying27
 have hu67:=Tryz.underlying61
 have hu53:=Tryz.underlying54
 have hu56:=Tryz.underlying57
 have hu82:=Tryz.underlying63
 have HA0:=am_ ha0
 have HB0:=am_ hb0
 have HA3:=am_ ha3
 have HB3:=am_ hb3
 have HA4:=am_ ha4
 have HB4:=am_ hb4
 have HL0:=am_ hl0
 have HL3:=am_ hl3
 have HL4:=am_ hl4
 have HL6:=am_ hl6
 clear ha0 hb0 ha3 hb3 ha4 hb4 hl0 hl3 hl4 hl6
 have q1:(t != t)=false:=bne_eq_false_iff_eq.mpr rfl
 have q2:(s != s)=false:=bne_eq_false_iff_eq.mpr rfl
 have q3:((l0.length:Int) != (l0.length:Int))=false:=bne_eq_false_iff_eq.mpr rfl
 have q4:((l3.length:Int) != (l3.length:Int))=false:=bne_eq_false_iff_eq.mpr rfl
 have q5:((l4.length:Int) != (l4.length:Int))=false:=bne_eq_false_iff_eq.mpr rfl
 go_enter Tryz.func6,Tryz.ntmps6
 go_upto_region 1 with fail
 obtain ⟨W0,hW0⟩:∃ W0,W0=(w.alloc (.cells #[.slice A0 l0.length c0,.int .i64 t,.int .i64 s,.slice A3 l3.length c3,.slice A4 l4.length c4] 27 (0,0))).alloc (.cells #[.slice B0 l0.length d0,.int .i64 t,.int .i64 s,.slice B3 l3.length d3,.slice B4 l4.length d4] 27 (0,0)):=⟨_,rfl⟩
 obtain ⟨ba,hba⟩:∃ ba,ba=w.heap.size:=⟨_,rfl⟩
 obtain ⟨bb,hbb⟩:∃ bb,bb=w.heap.size + 1:=⟨_,rfl⟩
 rw [← hW0,← hbb,← hba]
 have k0:(w.alloc (.cells #[.slice A0 l0.length c0,.int .i64 t,.int .i64 s,.slice A3 l3.length c3,.slice A4 l4.length c4] 27 (0,0))).heap[ba]?=some (.cells #[.slice A0 l0.length c0,.int .i64 t,.int .i64 s,.slice A3 l3.length c3,.slice A4 l4.length c4] 27 (0,0)):=by rw [hba];exact blk_new _ _
 have HS:Aside0 (SmAt w W0 ba bb (.cells #[.slice A0 l0.length c0,.int .i64 t,.int .i64 s,.slice A3 l3.length c3,.slice A4 l4.length c4] 27 (0,0)) (.cells #[.slice B0 l0.length d0,.int .i64 t,.int .i64 s,.slice B3 l3.length d3,.slice B4 l4.length d4] 27 (0,0))):=⟨⟨by rw [hW0];exact below_alloc (below_alloc (Below.refl _ _) _) _,by rw [hW0];exact ((below_alloc (Below.refl _ _) _).block _ (blk_lt k0)).trans k0,by
  have e:bb=(w.alloc (.cells #[.slice A0 l0.length c0,.int .i64 t,.int .i64 s,.slice A3 l3.length c3,.slice A4 l4.length c4] 27 (0,0))).heap.size:=by rw [hbb];simp
  rw [hW0,e]
  exact blk_new _ _⟩⟩
 clear k0 hW0 hba hbb
 have ea0:=(blk_cell HS.out.ka 0).trans rfl
 have eb0:=(blk_cell HS.out.kb 0).trans rfl
 have ea1:=(blk_cell HS.out.ka 1).trans rfl
 have eb1:=(blk_cell HS.out.kb 1).trans rfl
 have ea2:=(blk_cell HS.out.ka 2).trans rfl
 have eb2:=(blk_cell HS.out.kb 2).trans rfl
 have ea3:=(blk_cell HS.out.ka 3).trans rfl
 have eb3:=(blk_cell HS.out.kb 3).trans rfl
 have ea4:=(blk_cell HS.out.ka 4).trans rfl
 have eb4:=(blk_cell HS.out.kb 4).trans rfl
 go_wp2
 repeat (go_quiet (fail);try go_wp2)
 clear ea0 eb0 ea1 eb1 ea2 eb2 ea3 eb3 ea4 eb4
 go_loopw [5] (fun v W => ∃ x:Int,v=.int .i64 x∧Aside0 (0≤x∧x≤(l0.length:Int))∧Aside0 (SmAt w W ba bb (.cells #[.slice A0 l0.length c0,.int .i64 t,.int .i64 s,.slice A3 l3.length c3,.slice A4 l4.length c4] 27 (0,0)) (.cells #[.slice B0 l0.length d0,.int .i64 t,.int .i64 s,.slice B3 l3.length d3,.slice B4 l4.length d4] 27 (0,0)))) (fun v _ => l0.length - (intOf v).toNat)
 case atStart => exact ⟨0,rfl,⟨by omega⟩,HS⟩
 obtain ⟨x,rfl,HI,HS⟩:=hrel
 by_cases hi:x < (l0.length:Int)
 ·have hd:decide (x < (l0.length:Int))=true:=decide_eq_true hi
  have HLT:=am_ hi
  have p0:0≤x:=HI.out.1
  have p1:x < (l0.length:Int):=hi
  have hw:wrap64 (x + 1)=x + 1:=by have:=HL0.out;unfold wrap64;omega
  clear hi
  have ea0:=(blk_cell HS.out.ka 0).trans rfl
  have eb0:=(blk_cell HS.out.kb 0).trans rfl
  have ea1:=(blk_cell HS.out.ka 1).trans rfl
  have eb1:=(blk_cell HS.out.kb 1).trans rfl
  have ea2:=(blk_cell HS.out.ka 2).trans rfl
  have eb2:=(blk_cell HS.out.kb 2).trans rfl
  have ea3:=(blk_cell HS.out.ka 3).trans rfl
  have eb3:=(blk_cell HS.out.kb 3).trans rfl
  have ea4:=(blk_cell HS.out.ka 4).trans rfl
  have eb4:=(blk_cell HS.out.kb 4).trans rfl
  obtain ⟨ad,ead,x0,x1,x2,x3,x4⟩:=at_T61 HA0.out x p0 p1
  cases ead
  obtain ⟨bd,ebd,y0,y1,y2,y3,y4⟩:=at_T61 HB0.out x p0 p1
  cases ebd
  replace x0:=HS.out.cell x0
  replace y0:=HS.out.cell y0
  replace x1:=HS.out.cell x1
  replace y1:=HS.out.cell y1
  replace x2:=HS.out.cell x2
  replace y2:=HS.out.cell y2
  replace x3:=HS.out.cell x3
  replace y3:=HS.out.cell y3
  replace x4:=HS.out.cell x4
  replace y4:=HS.out.cell y4
  replace p0:=eq_true p0
  replace p1:=eq_true p1
  generalize rd_T61 l0 x=cc at *
  have z:(!(cc.f0==cc.f0) || (!(cc.f1.toList==cc.f1.toList) || (!(cc.f2==cc.f2) || (!(cc.f3==cc.f3) || (!(cc.f4==cc.f4))))))=false:=by simp
  go_wp2
  repeat (go_quiet (fail);try go_wp2)
  clear z
  go_roundw
  case measure =>
   have:=HLT.out
   have:=HI.out.1
   show l0.length - (wrap64 (x + 1)).toNat < l0.length - x.toNat
   rw [hw]
   omega
  case rel => rw [hw];exact ⟨x + 1,rfl,⟨by have:=HLT.out;have:=HI.out.1;omega⟩,⟨HS.out.new (pw_below_drewN (Below.refl _ _) _)⟩⟩
 have hd:decide (x < (l0.length:Int))=false:=decide_eq_false hi
 clear hi
 have ea0:=(blk_cell HS.out.ka 0).trans rfl
 have eb0:=(blk_cell HS.out.kb 0).trans rfl
 have ea1:=(blk_cell HS.out.ka 1).trans rfl
 have eb1:=(blk_cell HS.out.kb 1).trans rfl
 have ea2:=(blk_cell HS.out.ka 2).trans rfl
 have eb2:=(blk_cell HS.out.kb 2).trans rfl
 have ea3:=(blk_cell HS.out.ka 3).trans rfl
 have eb3:=(blk_cell HS.out.kb 3).trans rfl
 have ea4:=(blk_cell HS.out.ka 4).trans rfl
 have eb4:=(blk_cell HS.out.kb 4).trans rfl
 go_wp2
 repeat (go_quiet (fail);try go_wp2)
 clear ea0 eb0 ea1 eb1 ea2 eb2 ea3 eb3 ea4 eb4
 clear hd
 go_loopw [6] (fun v W => ∃ x:Int,v=.int .i64 x∧Aside0 (0≤x∧x≤(l3.length:Int))∧Aside0 (SmAt w W ba bb (.cells #[.slice A0 l0.length c0,.int .i64 t,.int .i64 s,.slice A3 l3.length c3,.slice A4 l4.length c4] 27 (0,0)) (.cells #[.slice B0 l0.length d0,.int .i64 t,.int .i64 s,.slice B3 l3.length d3,.slice B4 l4.length d4] 27 (0,0)))) (fun v _ => l3.length - (intOf v).toNat)
 case atStart => exact ⟨0,rfl,⟨by omega⟩,HS⟩
 obtain ⟨x,rfl,HI,HS⟩:=hrel
 by_cases hi:x < (l3.length:Int)
 ·have hd:decide (x < (l3.length:Int))=true:=decide_eq_true hi
  have HLT:=am_ hi
  have p0:0≤x:=HI.out.1
  have p1:x < (l3.length:Int):=hi
  have hw:wrap64 (x + 1)=x + 1:=by have:=HL3.out;unfold wrap64;omega
  clear hi
  have ea0:=(blk_cell HS.out.ka 0).trans rfl
  have eb0:=(blk_cell HS.out.kb 0).trans rfl
  have ea1:=(blk_cell HS.out.ka 1).trans rfl
  have eb1:=(blk_cell HS.out.kb 1).trans rfl
  have ea2:=(blk_cell HS.out.ka 2).trans rfl
  have eb2:=(blk_cell HS.out.kb 2).trans rfl
  have ea3:=(blk_cell HS.out.ka 3).trans rfl
  have eb3:=(blk_cell HS.out.kb 3).trans rfl
  have ea4:=(blk_cell HS.out.ka 4).trans rfl
  have eb4:=(blk_cell HS.out.kb 4).trans rfl
  obtain ⟨ad,ead,x0,x1,x2⟩:=at_T54 HA3.out x p0 p1
  cases ead
  obtain ⟨bd,ebd,y0,y1,y2⟩:=at_T54 HB3.out x p0 p1
  cases ebd
  replace x0:=HS.out.cell x0
  replace y0:=HS.out.cell y0
  replace x1:=HS.out.cell x1
  replace y1:=HS.out.cell y1
  replace x2:=HS.out.cell x2
  replace y2:=HS.out.cell y2
  replace p0:=eq_true p0
  replace p1:=eq_true p1
  generalize rd_T54 l3 x=cc at *
  have z:(!(cc.f0==cc.f0) || (!(cc.f1==cc.f1) || (!(cc.f2==cc.f2))))=false:=by simp
  go_wp2
  repeat (go_quiet (fail);try go_wp2)
  clear z
  go_roundw
  case measure =>
   have:=HLT.out
   have:=HI.out.1
   show l3.length - (wrap64 (x + 1)).toNat < l3.length - x.toNat
   rw [hw]
   omega
  case rel => rw [hw];exact ⟨x + 1,rfl,⟨by have:=HLT.out;have:=HI.out.1;omega⟩,⟨HS.out.new (pw_below_drewN (Below.refl _ _) _)⟩⟩
 have hd:decide (x < (l3.length:Int))=false:=decide_eq_false hi
 clear hi
 have ea0:=(blk_cell HS.out.ka 0).trans rfl
 have eb0:=(blk_cell HS.out.kb 0).trans rfl
 have ea1:=(blk_cell HS.out.ka 1).trans rfl
 have eb1:=(blk_cell HS.out.kb 1).trans rfl
 have ea2:=(blk_cell HS.out.ka 2).trans rfl
 have eb2:=(blk_cell HS.out.kb 2).trans rfl
 have ea3:=(blk_cell HS.out.ka 3).trans rfl
 have eb3:=(blk_cell HS.out.kb 3).trans rfl
 have ea4:=(blk_cell HS.out.ka 4).trans rfl
 have eb4:=(blk_cell HS.out.kb 4).trans rfl
 go_wp2
 repeat (go_quiet (fail);try go_wp2)
 clear ea0 eb0 ea1 eb1 ea2 eb2 ea3 eb3 ea4 eb4
 clear hd
 go_loopw [7] (fun v W => ∃ x:Int,v=.int .i64 x∧Aside0 (0≤x∧x≤(l4.length:Int))∧Aside0 (SmAt w W ba bb (.cells #[.slice A0 l0.length c0,.int .i64 t,.int .i64 s,.slice A3 l3.length c3,.slice A4 l4.length c4] 27 (0,0)) (.cells #[.slice B0 l0.length d0,.int .i64 t,.int .i64 s,.slice B3 l3.length d3,.slice B4 l4.length d4] 27 (0,0)))) (fun v _ => l4.length - (intOf v).toNat)
 case atStart => exact ⟨0,rfl,⟨by omega⟩,HS⟩
 obtain ⟨x,rfl,HI,HS⟩:=hrel
 by_cases hi:x < (l4.length:Int)
 rotate_left
 ·have hd:decide (x < (l4.length:Int))=false:=decide_eq_false hi
  clear hi
  have ea0:=(blk_cell HS.out.ka 0).trans rfl
  have eb0:=(blk_cell HS.out.kb 0).trans rfl
  have ea1:=(blk_cell HS.out.ka 1).trans rfl
  have eb1:=(blk_cell HS.out.kb 1).trans rfl
  have ea2:=(blk_cell HS.out.ka 2).trans rfl
  have eb2:=(blk_cell HS.out.kb 2).trans rfl
  have ea3:=(blk_cell HS.out.ka 3).trans rfl
  have eb3:=(blk_cell HS.out.kb 3).trans rfl
  have ea4:=(blk_cell HS.out.ka 4).trans rfl
  have eb4:=(blk_cell HS.out.kb 4).trans rfl
  go_wp2
  repeat (go_quiet (fail);try go_wp2)
  go_ret
  exact ⟨rfl,HS.out.b⟩
 have hd:decide (x < (l4.length:Int))=true:=decide_eq_true hi
 have HLT:=am_ hi
 have p0:0≤x:=HI.out.1
 have p1:x < (l4.length:Int):=hi
 have hw:wrap64 (x + 1)=x + 1:=by have:=HL4.out;unfold wrap64;omega
 clear hi
 have ea0:=(blk_cell HS.out.ka 0).trans rfl
 have eb0:=(blk_cell HS.out.kb 0).trans rfl
 have ea1:=(blk_cell HS.out.ka 1).trans rfl
 have eb1:=(blk_cell HS.out.kb 1).trans rfl
 have ea2:=(blk_cell HS.out.ka 2).trans rfl
 have eb2:=(blk_cell HS.out.kb 2).trans rfl
 have ea3:=(blk_cell HS.out.ka 3).trans rfl
 have eb3:=(blk_cell HS.out.kb 3).trans rfl
 have ea4:=(blk_cell HS.out.ka 4).trans rfl
 have eb4:=(blk_cell HS.out.kb 4).trans rfl
 obtain ⟨ad,A5,a5,A6,a6,A7,a7,ead,x0,x1,x2,x3,x4,x5,x6,x7,_,i5,_,i6,_,i7⟩:=at_T57 HA4.out x p0 p1
 cases ead
 obtain ⟨bd,B5,b5,B6,b6,B7,b7,ebd,y0,y1,y2,y3,y4,y5,y6,y7,_,j5,_,j6,_,j7⟩:=at_T57 HB4.out x p0 p1
 cases ebd
 have HM6:=am_ (HL6.out _ (rd_mem_M p0 p1))
 have Y0:=am_ y0
 replace x0:=HS.out.cell x0
 clear y0
 have Y1:=am_ y1
 replace x1:=HS.out.cell x1
 clear y1
 have Y2:=am_ y2
 replace x2:=HS.out.cell x2
 clear y2
 have Y3:=am_ y3
 replace x3:=HS.out.cell x3
 clear y3
 have Y4:=am_ y4
 replace x4:=HS.out.cell x4
 clear y4
 have Y5:=am_ y5
 replace x5:=HS.out.cell x5
 clear y5
 have Y6:=am_ y6
 replace x6:=HS.out.cell x6
 clear y6
 have Y7:=am_ y7
 replace x7:=HS.out.cell x7
 clear y7
 have I5:=am_ i5
 have J5:=am_ j5
 clear i5 j5
 have I6:=am_ i6
 have J6:=am_ j6
 clear i6 j6
 have I7:=am_ i7
 have J7:=am_ j7
 clear i7 j7
 replace p0:=eq_true p0
 replace p1:=eq_true p1
 generalize rd_T57 l4 x=m at *
 go_upto_region 17 with fail
 obtain ⟨bx,hbx⟩:∃ bx,bx=wr.heap.size:=⟨_,rfl⟩
 obtain ⟨W1,hW1⟩:∃ W1,W1=wr.alloc (.cells #[.int .i64 m.f0,.int .i64 m.f1,.int .i64 m.f2,.int .i64 m.f3,.int .i64 m.f4,.slice A5 m.f5.length a5,.slice A6 m.f6.length a6,.slice A7 m.f7.length a7] 57 (0,0)):=⟨_,rfl⟩
 rw [← hW1,← hbx]
 have HS1:=am_ (HS.out.new (show Below wr.heap.size wr W1 from by rw [hW1];exact below_alloc (Below.refl _ _) _))
 have KX:=am_ (show W1.heap[bx]?=some (.cells #[.int .i64 m.f0,.int .i64 m.f1,.int .i64 m.f2,.int .i64 m.f3,.int .i64 m.f4,.slice A5 m.f5.length a5,.slice A6 m.f6.length a6,.slice A7 m.f7.length a7] 57 (0,0)) from by rw [hW1,hbx];exact blk_new _ _)
 clear hW1 hbx x0 x1 x2 x3 x4 x5 x6 x7 HS
 clear ea0 eb0 ea1 eb1 ea2 eb2 ea3 eb3 ea4 eb4
 have HS:=HS1
 clear HS1
 have y0:=HS.out.cell Y0.out
 have y1:=HS.out.cell Y1.out
 have y2:=HS.out.cell Y2.out
 have y3:=HS.out.cell Y3.out
 have y4:=HS.out.cell Y4.out
 have y5:=HS.out.cell Y5.out
 have y6:=HS.out.cell Y6.out
 have y7:=HS.out.cell Y7.out
 have ea0:=(blk_cell HS.out.ka 0).trans rfl
 have eb0:=(blk_cell HS.out.kb 0).trans rfl
 have ea1:=(blk_cell HS.out.ka 1).trans rfl
 have eb1:=(blk_cell HS.out.kb 1).trans rfl
 have ea2:=(blk_cell HS.out.ka 2).trans rfl
 have eb2:=(blk_cell HS.out.kb 2).trans rfl
 have ea3:=(blk_cell HS.out.ka 3).trans rfl
 have eb3:=(blk_cell HS.out.kb 3).trans rfl
 have ea4:=(blk_cell HS.out.ka 4).trans rfl
 have eb4:=(blk_cell HS.out.kb 4).trans rfl
 go_upto_region 18 with fail
 obtain ⟨bY,hbx⟩:∃ bY,bY=W1.heap.size:=⟨_,rfl⟩
 obtain ⟨W2,hW1⟩:∃ W2,W2=W1.alloc (.cells #[.int .i64 m.f0,.int .i64 m.f1,.int .i64 m.f2,.int .i64 m.f3,.int .i64 m.f4,.slice B5 m.f5.length b5,.slice B6 m.f6.length b6,.slice B7 m.f7.length b7] 57 (0,0)):=⟨_,rfl⟩
 rw [← hW1,← hbx]
 have hb2:Below W1.heap.size W1 W2:=by rw [hW1];exact below_alloc (Below.refl _ _) _
 have HS1:=am_ (HS.out.new hb2)
 have KX2:=am_ ((hb2.block _ (blk_lt KX.out)).trans KX.out)
 have KY:=am_ (show W2.heap[bY]?=some (.cells #[.int .i64 m.f0,.int .i64 m.f1,.int .i64 m.f2,.int .i64 m.f3,.int .i64 m.f4,.slice B5 m.f5.length b5,.slice B6 m.f6.length b6,.slice B7 m.f7.length b7] 57 (0,0)) from by rw [hW1,hbx];exact blk_new _ _)
 clear hW1 hbx hb2 y0 y1 y2 y3 y4 y5 y6 y7 HS KX p0 p1
 have HS:=HS1
 have KX:=KX2
 clear HS1 KX2
 clear ea0 eb0 ea1 eb1 ea2 eb2 ea3 eb3 ea4 eb4
 have x0:=(blk_cell KX.out 0).trans rfl
 have y0:=(blk_cell KY.out 0).trans rfl
 have x1:=(blk_cell KX.out 1).trans rfl
 have y1:=(blk_cell KY.out 1).trans rfl
 have x2:=(blk_cell KX.out 2).trans rfl
 have y2:=(blk_cell KY.out 2).trans rfl
 have x3:=(blk_cell KX.out 3).trans rfl
 have y3:=(blk_cell KY.out 3).trans rfl
 have x4:=(blk_cell KX.out 4).trans rfl
 have y4:=(blk_cell KY.out 4).trans rfl
 have x5:=(blk_cell KX.out 5).trans rfl
 have y5:=(blk_cell KY.out 5).trans rfl
 have x6:=(blk_cell KX.out 6).trans rfl
 have y6:=(blk_cell KY.out 6).trans rfl
 have x7:=(blk_cell KX.out 7).trans rfl
 have y7:=(blk_cell KY.out 7).trans rfl
 have s0:(m.f0 != m.f0)=false:=bne_eq_false_iff_eq.mpr rfl
 have s1:(m.f1 != m.f1)=false:=bne_eq_false_iff_eq.mpr rfl
 have s2:(m.f2 != m.f2)=false:=bne_eq_false_iff_eq.mpr rfl
 have s3:(m.f3 != m.f3)=false:=bne_eq_false_iff_eq.mpr rfl
 have s4:(m.f4 != m.f4)=false:=bne_eq_false_iff_eq.mpr rfl
 have s5:((strOfNums m.f5).toList != (strOfNums m.f5).toList)=false:=bne_eq_false_iff_eq.mpr rfl
 have s7:((strOfNums m.f7).toList != (strOfNums m.f7).toList)=false:=bne_eq_false_iff_eq.mpr rfl
 have s6:((m.f6.length:Int) != (m.f6.length:Int))=false:=bne_eq_false_iff_eq.mpr rfl
 have v5:=Kd.C_string (P:=Tryz.prog) (A:=A5) (c:=a5) Tryz.underlying22 Tryz.underlying5 Tryz.underlying9 (Kd.C_below I5.out HS.out.b)
 have v7:=Kd.C_string (P:=Tryz.prog) (A:=A7) (c:=a7) Tryz.underlying22 Tryz.underlying5 Tryz.underlying9 (Kd.C_below I7.out HS.out.b)
 have u5:=Kd.C_string (P:=Tryz.prog) (A:=B5) (c:=b5) Tryz.underlying22 Tryz.underlying5 Tryz.underlying9 (Kd.C_below J5.out HS.out.b)
 have u7:=Kd.C_string (P:=Tryz.prog) (A:=B7) (c:=b7) Tryz.underlying22 Tryz.underlying5 Tryz.underlying9 (Kd.C_below J7.out HS.out.b)
 go_wp2
 repeat (go_quiet (fail);try go_wp2)
 clear x0 y0 x1 y1 x2 y2 x3 y3 x4 y4 x5 y5 x6 y6 x7 y7
 clear s0 s1 s2 s3 s4 s5 s6 s7 v5 v7 u5 u7 hd
 have HSo:=HS
 have KXo:=KX
 have KYo:=KY
 clear HS KX KY
 go_loopw [10] (fun v W => ∃ j:Int,v=.int .i64 j∧Aside0 (0≤j∧j≤(m.f6.length:Int))∧Aside0 (SmAt w W ba bb (.cells #[.slice A0 l0.length c0,.int .i64 t,.int .i64 s,.slice A3 l3.length c3,.slice (some ad) l4.length c4] 27 (0,0)) (.cells #[.slice B0 l0.length d0,.int .i64 t,.int .i64 s,.slice B3 l3.length d3,.slice (some bd) l4.length d4] 27 (0,0)))∧Aside0 (W.heap[bx]?=some (.cells #[.int .i64 m.f0,.int .i64 m.f1,.int .i64 m.f2,.int .i64 m.f3,.int .i64 m.f4,.slice A5 m.f5.length a5,.slice A6 m.f6.length a6,.slice A7 m.f7.length a7] 57 (0,0)))∧Aside0 (W.heap[bY]?=some (.cells #[.int .i64 m.f0,.int .i64 m.f1,.int .i64 m.f2,.int .i64 m.f3,.int .i64 m.f4,.slice B5 m.f5.length b5,.slice B6 m.f6.length b6,.slice B7 m.f7.length b7] 57 (0,0)))) (fun v _ => m.f6.length - (intOf v).toNat)
 case atStart => exact ⟨0,rfl,⟨by omega⟩,HSo,KXo,KYo⟩
 obtain ⟨j,rfl,HJ,HS,KX,KY⟩:=hrel
 clear HSo KXo KYo
 by_cases hi:j < (m.f6.length:Int)
 ·have hd:decide (j < (m.f6.length:Int))=true:=decide_eq_true hi
  have HLJ:=am_ hi
  have p0:0≤j:=HJ.out.1
  have p1:j < (m.f6.length:Int):=hi
  have hwj:wrap64 (j + 1)=j + 1:=by have:=HM6.out;unfold wrap64;omega
  clear hi
  have x0:=(blk_cell KX.out 0).trans rfl
  have y0:=(blk_cell KY.out 0).trans rfl
  have x1:=(blk_cell KX.out 1).trans rfl
  have y1:=(blk_cell KY.out 1).trans rfl
  have x2:=(blk_cell KX.out 2).trans rfl
  have y2:=(blk_cell KY.out 2).trans rfl
  have x3:=(blk_cell KX.out 3).trans rfl
  have y3:=(blk_cell KY.out 3).trans rfl
  have x4:=(blk_cell KX.out 4).trans rfl
  have y4:=(blk_cell KY.out 4).trans rfl
  have x5:=(blk_cell KX.out 5).trans rfl
  have y5:=(blk_cell KY.out 5).trans rfl
  have x6:=(blk_cell KX.out 6).trans rfl
  have y6:=(blk_cell KY.out 6).trans rfl
  have x7:=(blk_cell KX.out 7).trans rfl
  have y7:=(blk_cell KY.out 7).trans rfl
  obtain ⟨td,etd,t0,t1,t2,t3⟩:=at_T63 (Kd.C_below I6.out HS.out.b) j p0 p1
  obtain ⟨ud,eud,r0,r1,r2,r3⟩:=at_T63 (Kd.C_below J6.out HS.out.b) j p0 p1
  subst etd
  subst eud
  replace p0:=eq_true p0
  replace p1:=eq_true p1
  generalize rd_T63 m.f6 j=cc at *
  have z:(!(cc.f0==cc.f0) || (!(cc.f1==cc.f1) || (!(cc.f2==cc.f2) || (!(cc.f3==cc.f3)))))=false:=by simp
  go_wp2
  repeat (go_quiet (fail);try go_wp2)
  clear z
  go_roundw
  case measure =>
   have:=HLJ.out
   have:=HJ.out.1
   show m.f6.length - (wrap64 (j + 1)).toNat < m.f6.length - j.toNat
   rw [hwj]
   omega
  case rel => rw [hwj];exact ⟨j + 1,rfl,⟨by have:=HLJ.out;have:=HJ.out.1;omega⟩,⟨HS.out.new (pw_below_drewN (Below.refl _ _) _)⟩,KX,KY⟩
 have hd:decide (j < (m.f6.length:Int))=false:=decide_eq_false hi
 clear hi
 have x0:=(blk_cell KX.out 0).trans rfl
 have y0:=(blk_cell KY.out 0).trans rfl
 have x1:=(blk_cell KX.out 1).trans rfl
 have y1:=(blk_cell KY.out 1).trans rfl
 have x2:=(blk_cell KX.out 2).trans rfl
 have y2:=(blk_cell KY.out 2).trans rfl
 have x3:=(blk_cell KX.out 3).trans rfl
 have y3:=(blk_cell KY.out 3).trans rfl
 have x4:=(blk_cell KX.out 4).trans rfl
 have y4:=(blk_cell KY.out 4).trans rfl
 have x5:=(blk_cell KX.out 5).trans rfl
 have y5:=(blk_cell KY.out 5).trans rfl
 have x6:=(blk_cell KX.out 6).trans rfl
 have y6:=(blk_cell KY.out 6).trans rfl
 have x7:=(blk_cell KX.out 7).trans rfl
 have y7:=(blk_cell KY.out 7).trans rfl
 go_wp2
 repeat (go_quiet (fail);try go_wp2)
 go_roundw
 case measure =>
  have:=HLT.out
  have:=HI.out.1
  show l4.length - (wrap64 (x + 1)).toNat < l4.length - x.toNat
  rw [hw]
  omega
 case rel => rw [hw];exact ⟨x + 1,rfl,⟨by have:=HLT.out;have:=HI.out.1;omega⟩,HS⟩
end Go.Proofs.YtamdobdmjcgmoaaGreatDoor.Px
namespace Go.Proofs.YtamdobdmjcgmoaaGreatDoor.Px
open Go.RowKit Go.Proofs.YtamdobdmjcgmoaaGreatDoorW.PrintWords Go.Proofs.YtamdobdmjcgmoaaGreatDoorW.PrintLast Go.Proofs.YtamdobdmjcgmoaaGreatDoorW.PrintMore
attribute [local go_sem] max2_int min2_int max_two min_two max_three min_three max_four min_four
set_option linter.unusedVariables false
set_option linter.unusedSimpArgs false
def IsS45 (w0 W:World) (g:Nat) (f0:List Int) (f1:Int):Prop:=∃ A0 c0,W.heap[g]?=some (.cells #[.slice A0 f0.length c0,.int .i64 f1] 45 (0,0))∧w0.heap.size≤g∧Kd.C (Kd.int .u8) w0 A0 f0.length f0∧f0.length≤c0
theorem IsS45.grown {w0 W:World} {g:Nat} {f0:List Int} {f1:Int} {W1:World} {row:Option Nat} (h:IsS45 w0 W g f0 f1) (hw:W.grownBy W1 row) (hne:some g ≠ row):IsS45 w0 W1 g f0 f1:=by
 obtain ⟨A0,c0,hb,hg,hr0,hc0⟩:=h
 exact ⟨A0,c0,blk_grown hb hw hne,hg,hr0,hc0⟩
theorem IsS45.fresh {w0 W:World} {g:Nat} {f0:List Int} {f1:Int} (h:IsS45 w0 W g f0 f1):∀ k,W.heap.size≤k→k ≠ g:=by
 obtain ⟨A0,c0,hb,hg,hr0,hc0⟩:=h
 exact Kd.freshB hb
theorem IsS45.kept {w0 W:World} {g:Nat} {f0:List Int} {f1:Int} {W1:World} {S:Nat→Prop} (h:IsS45 w0 W g f0 f1) (hk:Kept W W1 S) (hne:¬ S g):IsS45 w0 W1 g f0 f1:=by
 obtain ⟨A0,c0,hb,hg,hr0,hc0⟩:=h
 exact ⟨A0,c0,blk_kept hb hk hne,hg,hr0,hc0⟩
theorem IsS45.below {w0 W:World} {g:Nat} {f0:List Int} {f1:Int} {W1:World} (h:IsS45 w0 W g f0 f1) (hw:Below W.heap.size W W1):IsS45 w0 W1 g f0 f1:=h.grown (grown_of_below hw none) (by simp)
theorem IsS45.alloc {w0 W:World} {g:Nat} {f0:List Int} {f1:Int} (h:IsS45 w0 W g f0 f1) (o:Obj):IsS45 w0 (W.alloc o) g f0 f1:=h.below (below_alloc (Below.refl _ _) o)
theorem IsS45.drewN {w0 W:World} {g:Nat} {f0:List Int} {f1:Int} (h:IsS45 w0 W g f0 f1) (m:Nat):IsS45 w0 (W.drewN m) g f0 f1:=h
theorem IsS45.drew {w0 W:World} {g:Nat} {f0:List Int} {f1:Int} (h:IsS45 w0 W g f0 f1):IsS45 w0 W.drew g f0 f1:=h
theorem IsS45.at_ {w0 W:World} {g:Nat} {f0:List Int} {f1:Int} {w':World} {m:Nat} (hq:W.drewN m=w') (h:IsS45 w0 W g f0 f1):IsS45 w0 w' g f0 f1:=by subst hq;exact IsS45.drewN h m
theorem IsS45.apart {w0 W:World} {g:Nat} {f0:List Int} {f1:Int} {α:Type} {d:Kd α} {e:Nat} {base:Nat} {ok:Nat→Prop} {v:Value} {xs:List α} (h:IsS45 w0 W g f0 f1) (ho:d.R e W base ok v xs) (ht:∀ q,q ∈ e :: d.E→q ≠ 45):d.R e W base (fun k => ok k∧k ≠ g) v xs:=by
 obtain ⟨A0,c0,hb,hg,hr0,hc0⟩:=h
 exact Kd.R_types ho hb ht
theorem IsS45.own_ne {w0 W:World} {g:Nat} {f0:List Int} {f1:Int} {α:Type} {d:Kd α} {e:Nat} {base:Nat} {ok:Nat→Prop} {v:Value} {xs:List α} (h:IsS45 w0 W g f0 f1) (ho:d.R e W base ok v xs) (ht:e ≠ 45):some g ≠ v.ownBlock:=by
 obtain ⟨A0,c0,hb,hg,hr0,hc0⟩:=h
 exact Kd.R_ne ho hb ht
theorem IsS45.lt {w0 W:World} {g:Nat} {f0:List Int} {f1:Int} (h:IsS45 w0 W g f0 f1):g < W.heap.size:=by
 obtain ⟨A0,c0,hb,hg,hr0,hc0⟩:=h
 exact blk_lt hb
theorem IsS45.ge {w0 W:World} {g:Nat} {f0:List Int} {f1:Int} (h:IsS45 w0 W g f0 f1):w0.heap.size≤g:=by
 obtain ⟨A0,c0,hb,hg,hr0,hc0⟩:=h
 exact hg
theorem IsS45.far {w0 W:World} {g:Nat} {f0:List Int} {f1:Int} {p:Addr} (h:IsS45 w0 W g f0 f1) (hne:g ≠ p.block) (u:Value):IsS45 w0 (W.setCell p u) g f0 f1:=by
 obtain ⟨A0,c0,hb,hg,hr0,hc0⟩:=h
 exact ⟨A0,c0,blk_far hb hne u,hg,hr0,hc0⟩
theorem cellS45_0 {W:World} {g:Nat} {A0:Option Addr} {c0:Nat} {f0:List Int} {f1:Int} (h:W.heap[g]?=some (.cells #[.slice A0 f0.length c0,.int .i64 f1] 45 (0,0))):W.cell? ⟨g,0,none⟩=some (.slice A0 f0.length c0):=(blk_cell h 0).trans rfl
theorem cellS45_1 {W:World} {g:Nat} {A0:Option Addr} {c0:Nat} {f0:List Int} {f1:Int} (h:W.heap[g]?=some (.cells #[.slice A0 f0.length c0,.int .i64 f1] 45 (0,0))):W.cell? ⟨g,1,none⟩=some (.int .i64 f1):=(blk_cell h 1).trans rfl
theorem IsS45.set_1 {w0 W:World} {g:Nat} {f0:List Int} {f1:Int} (h:IsS45 w0 W g f0 f1) (x:Int):IsS45 w0 (W.setCell ⟨g,1,none⟩ (.int .i64 x)) g f0 x:=by
 obtain ⟨A0,c0,hb,hg,hr0,hc0⟩:=h
 exact ⟨A0,c0,by simpa using blk_set hb 1 (.int .i64 x),hg,hr0,hc0⟩
theorem IsS45.new (w0 W:World) (A0:Option Addr) (c0:Nat) (f0:List Int) (f1:Int) (hB:Below w0.heap.size w0 W) (hr0:Kd.C (Kd.int .u8) w0 A0 f0.length f0) (hc0:f0.length≤c0):IsS45 w0 (W.alloc (.cells #[.slice A0 f0.length c0,.int .i64 f1] 45)) W.heap.size f0 f1:=⟨A0,c0,by simpa using heap_alloc_new W _,hB.size,hr0,hc0⟩
mutual
def understudyref01_Reader_Uint.j0:Nat→Int→Bool→List Int→Int→Option (Int × Int × Int)
 | 0,_,_,_,_ => none
 | k + 1,x1,x13,x1000,x1001 => if x13=true then (some (0,1,x1001)) else (if (wrap64 ((x1000.length:Int) - x1001)) < x1 then (some (0,3,x1001)) else (understudyref01_Reader_Uint.l0 k x1 0 0 x1000 x1001))
def understudyref01_Reader_Uint.l0:Nat→Int→Int→Int→List Int→Int→Option (Int × Int × Int)
 | 0,_,_,_,_,_ => none
 | k + 1,x1,x6,x7,x1000,x1001 => if x7 < x1 then (if 0≤(wrap64 (x1001 + x7)) then (if (wrap64 (x1001 + x7)) < (x1000.length:Int) then (understudyref01_Reader_Uint.l0 k x1 (Go.bits .or .u64 (IntKind.u64.wrap (x6 * 256)) (IntKind.u64.wrap (rd x1000 (wrap64 (x1001 + x7))))) (wrap64 (x7 + 1)) x1000 x1001) else (none)) else (none)) else (some (x6,0,wrap64 (x1001 + x1)))
end
def understudyref01_Reader_Uint.f (k:Nat) (s0_0:List Int) (s0_1:Int) (a1:Int):Option (Int × Int × Int):=if a1 < 1 then (understudyref01_Reader_Uint.j0 k a1 true s0_0 s0_1) else (understudyref01_Reader_Uint.j0 k a1 (decide (a1 > 8)) s0_0 s0_1)
set_option maxHeartbeats 80000000 in
set_option maxRecDepth 100000 in
theorem understudyref01_Reader_Uint.calls (k:Nat) (g:Nat) (s0_0:List Int) (s0_1:Int) (a1:Int) (r1:Int) (r2:Int) (r3:Int) (w0 w:World) (hI:IsS45 w0 w g s0_0 s0_1) (hB:Below w0.heap.size w0 w) (h:understudyref01_Reader_Uint.f k s0_0 s0_1 a1=some (r1,r2,r3)) :
  Calls Tryz.prog 29 #[.pointer (some ⟨g,0,none⟩),.int .i64 a1] w fun e w' => e=.returned (.tuple #[.int .u64 r1,.int .i64 r2])∧IsS45 w0 w' g s0_0 r3∧Below w0.heap.size w0 w'∧KeepBut w w' g none:=by
 have HI0:=am_ hI
 have HK:=am_ (KeepBut.refl w g none)
 have HL:=am_ hB.size
 clear hI
 have HW0:=am_ hB.size
 have HB:=am_ hB
 clear hB
 have H:(if a1 < 1 then (understudyref01_Reader_Uint.j0 k a1 true s0_0 s0_1) else (understudyref01_Reader_Uint.j0 k a1 (decide (a1 > 8)) s0_0 s0_1))=some (r1,r2,r3):=h
 clear h
 have HC3:=am_ H
 clear H
 go_enter Tryz.func29,Tryz.ntmps29
 go_upto_region 1 with (fail)
 repeat (go_quiet (fail);go_upto_region 1 with (fail))
 go_cut [13] (fun v13 wc => ∃ (kq:Nat) (x13_2:Bool),v13=.bool x13_2∧Aside0 (understudyref01_Reader_Uint.j0 kq a1 x13_2 s0_0 s0_1=some (r1,r2,r3))∧Aside0 (kq≤k)∧Aside0 (IsS45 w0 wc g s0_0 s0_1)∧Aside0 (KeepBut w wc g none)∧Aside0 (Below w0.heap.size w0 wc))
 case first =>
  have H:=HC3.out
  clear HC3
  by_cases c4:a1 < 1
  ·rw [if_pos c4] at H
   have c4b0:decide (a1 < 1)=true:=decide_eq_true c4
   clear c4
   (first|rw [c4b0]|(simp only [i64_w,i32_w];rw [c4b0])|skip)
   have H':=am_ H
   clear H
   go_wp2
   repeat (go_quiet (fail);try go_wp2)
   go_meet
   case rel => exact ⟨_,(true),r3_,H',⟨by first|omega|exact Nat.le_refl _⟩,⟨by repeat (first|(with_reducible first|exact HI0.out|apply IsS45.alloc|apply IsS45.drewN|apply IsS45.drew|apply IsS45.set_1)|exact HI0.out|apply IsS45.set_1)⟩,⟨by repeat (first|(with_reducible first|exact HK.out|apply KeepBut.set_|apply keep_drewN|apply keep_drew|apply keep_alloc)|exact HK.out)⟩,⟨by repeat (first|(with_reducible first|exact HB.out|apply below_alloc|apply pw_below_drewN|apply below_drew1|refine below_set ?_ (IsS45.ge HI0.out))|exact HB.out)⟩⟩
  rw [if_neg c4] at H
  have c4b0:decide (a1 < 1)=false:=decide_eq_false c4
  clear c4
  (first|rw [c4b0]|(simp only [i64_w,i32_w];rw [c4b0])|skip)
  have H':=am_ H
  clear H
  go_wp2
  repeat (go_quiet (fail);try go_wp2)
  go_meet
  case rel => exact ⟨_,(decide (a1 > 8)),r3_,H',⟨by first|omega|exact Nat.le_refl _⟩,⟨by repeat (first|(with_reducible first|exact HI0.out|apply IsS45.alloc|apply IsS45.drewN|apply IsS45.drew|apply IsS45.set_1)|exact HI0.out|apply IsS45.set_1)⟩,⟨by repeat (first|(with_reducible first|exact HK.out|apply KeepBut.set_|apply keep_drewN|apply keep_drew|apply keep_alloc)|exact HK.out)⟩,⟨by repeat (first|(with_reducible first|exact HB.out|apply below_alloc|apply pw_below_drewN|apply below_drew1|refine below_set ?_ (IsS45.ge HI0.out))|exact HB.out)⟩⟩
 clear HC3
 obtain ⟨kq,x13_2,rfl,HA,HJ2,HI0,HK,HB⟩:=hcut
 cases kq with
 | zero => exact absurd HA.out (by simp [understudyref01_Reader_Uint.j0])
 | succ kj2 =>
  have H:=HA.out
  clear HA
  simp only [understudyref01_Reader_Uint.j0] at H
  by_cases c5:x13_2=true
  ·subst c5
   rw [if_pos rfl] at H
   simp only [Option.some.injEq,Prod.mk.injEq] at H
   obtain ⟨rfl,rfl,rfl⟩:=H
   go_wp2
   repeat (go_quiet (fail);try go_wp2)
   go_ret2
   exact ⟨ew_,by repeat (first|(with_reducible first|exact HI0.out|apply IsS45.alloc|apply IsS45.drewN|apply IsS45.drew|apply IsS45.set_1)|exact HI0.out|apply IsS45.set_1),by repeat (first|(with_reducible first|exact HB.out|apply below_alloc|apply pw_below_drewN|apply below_drew1|refine below_set ?_ (IsS45.ge HI0.out))|exact HB.out),by repeat (first|(with_reducible first|exact HK.out|apply KeepBut.set_|apply keep_drewN|apply keep_drew|apply keep_alloc)|exact HK.out)⟩
  replace c5:=Bool.eq_false_iff.mpr c5
  subst c5
  rw [if_neg (show ¬ (false=true) by decide)] at H
  by_cases c6:(wrap64 ((s0_0.length:Int) - s0_1)) < a1
  ·rw [if_pos c6] at H
   have c6b0:decide ((wrap64 ((s0_0.length:Int) - s0_1)) < a1)=true:=decide_eq_true c6
   clear c6
   simp only [Option.some.injEq,Prod.mk.injEq] at H
   obtain ⟨rfl,rfl,rfl⟩:=H
   obtain ⟨ASz7_0,cSz7_0,HGz7,hgz7,HSz7_0,HVz7_0⟩:=HI0.out
   have hcz7_0:=cellS45_0 HGz7
   have hcz7_1:=cellS45_1 HGz7
   have hfz7_1:=blk_frozen HGz7 1
   clear HGz7 hgz7 HVz7_0
   go_wp2
   repeat (go_quiet (fail);try go_wp2)
   go_ret2
   exact ⟨ew_,by repeat (first|(with_reducible first|exact HI0.out|apply IsS45.alloc|apply IsS45.drewN|apply IsS45.drew|apply IsS45.set_1)|exact HI0.out|apply IsS45.set_1),by repeat (first|(with_reducible first|exact HB.out|apply below_alloc|apply pw_below_drewN|apply below_drew1|refine below_set ?_ (IsS45.ge HI0.out))|exact HB.out),by repeat (first|(with_reducible first|exact HK.out|apply KeepBut.set_|apply keep_drewN|apply keep_drew|apply keep_alloc)|exact HK.out)⟩
  rw [if_neg c6] at H
  have c6b0:decide ((wrap64 ((s0_0.length:Int) - s0_1)) < a1)=false:=decide_eq_false c6
  clear c6
  have H':=am_ H
  clear H
  obtain ⟨ASz8_0,cSz8_0,HGz8,hgz8,HSz8_0,HVz8_0⟩:=HI0.out
  have hcz8_0:=cellS45_0 HGz8
  have hcz8_1:=cellS45_1 HGz8
  have hfz8_1:=blk_frozen HGz8 1
  clear HGz8 hgz8 HVz8_0
  go_wp2
  repeat (go_quiet (fail);try go_wp2)
  go_loopg [6,7] kj2 (fun kq v6 v7 w' => ∃ (x6_2:Int) (x7_2:Int),v6=.int .u64 x6_2∧v7=.int .i64 x7_2∧Aside0 (understudyref01_Reader_Uint.l0 kq a1 x6_2 x7_2 s0_0 s0_1=some (r1,r2,r3))∧Aside0 (kq≤kj2)∧Aside0 (IsS45 w0 w' g s0_0 s0_1)∧Aside0 (KeepBut w w' g none)∧Aside0 (Below w0.heap.size w0 w'))
  case atStart => exact ⟨(0),(0),r3_,r3_,H',⟨Nat.le_refl _⟩,⟨by repeat (first|(with_reducible first|exact HI0.out|apply IsS45.alloc|apply IsS45.drewN|apply IsS45.drew|apply IsS45.set_1)|exact HI0.out|apply IsS45.set_1)⟩,⟨by repeat (first|(with_reducible first|exact HK.out|apply KeepBut.set_|apply keep_drewN|apply keep_drew|apply keep_alloc)|exact HK.out)⟩,⟨by repeat (first|(with_reducible first|exact HB.out|apply below_alloc|apply pw_below_drewN|apply below_drew1|refine below_set ?_ (IsS45.ge HI0.out))|exact HB.out)⟩⟩
  clear H'
  try clear c5;try clear c6;try clear c6b0;try clear hcz8_0;try clear hcz8_1;try clear hfz8_1
  obtain ⟨x6_2,x7_2,rfl,rfl,HA,HK2,HI0,HK,HB⟩:=hrel
  cases gk with
  | zero => exact absurd HA.out (by simp [understudyref01_Reader_Uint.l0])
  | succ k2 =>
   have H:=HA.out
   clear HA
   simp only [understudyref01_Reader_Uint.l0] at H
   by_cases c9:x7_2 < a1
   rotate_left
   ·rw [if_neg c9] at H
    have c9b0:decide (x7_2 < a1)=false:=decide_eq_false c9
    clear c9
    simp only [Option.some.injEq,Prod.mk.injEq] at H
    obtain ⟨rfl,rfl,rfl⟩:=H
    obtain ⟨ASz14_0,cSz14_0,HGz14,hgz14,HSz14_0,HVz14_0⟩:=HI0.out
    have hcz14_0:=cellS45_0 HGz14
    have hcz14_1:=cellS45_1 HGz14
    have hfz14_1:=blk_frozen HGz14 1
    clear HGz14 hgz14 HVz14_0
    go_wp2
    repeat (go_quiet (fail);try go_wp2)
    go_ret2
    exact ⟨ew_,by repeat (first|(with_reducible first|exact HI0.out|apply IsS45.alloc|apply IsS45.drewN|apply IsS45.drew|apply IsS45.set_1)|exact HI0.out|apply IsS45.set_1),by repeat (first|(with_reducible first|exact HB.out|apply below_alloc|apply pw_below_drewN|apply below_drew1|refine below_set ?_ (IsS45.ge HI0.out))|exact HB.out),by repeat (first|(with_reducible first|exact HK.out|apply KeepBut.set_|apply keep_drewN|apply keep_drew|apply keep_alloc)|exact HK.out)⟩
   rw [if_pos c9] at H
   have c9b0:decide (x7_2 < a1)=true:=decide_eq_true c9
   clear c9
   obtain ⟨ji10,hji10⟩:∃ j_:Int,(wrap64 (s0_1 + x7_2))=j_:=⟨_,rfl⟩
   replace H:(if 0≤(ji10) then (if (ji10) < (s0_0.length:Int) then (understudyref01_Reader_Uint.l0 k2 a1 (Go.bits .or .u64 (IntKind.u64.wrap (x6_2 * 256)) (IntKind.u64.wrap (rd s0_0 (ji10)))) (wrap64 (x7_2 + 1)) s0_0 s0_1) else (none)) else (none))=some (r1,r2,r3):=by first|(rw [hji10] at H;exact H)|(simp only [hji10] at H ⊢;exact H)
   have hji10w:(IntKind.i64.wrap (s0_1 + x7_2))=ji10:=(i64_w _).trans hji10
   by_cases c11:0≤(ji10)
   rotate_left
   ·rw [if_neg c11] at H
    exact absurd H (by simp)
   rw [if_pos c11] at H
   have c11b0:decide (0≤(ji10))=true:=decide_eq_true c11
   clear c11
   by_cases c12:(ji10) < (s0_0.length:Int)
   ·rw [if_pos c12] at H
    have c12b0:decide ((ji10) < (s0_0.length:Int))=true:=decide_eq_true c12
    clear c12
    have H':=am_ H
    clear H
    obtain ⟨ASz13_0,cSz13_0,HGz13,hgz13,HSz13_0,HVz13_0⟩:=HI0.out
    have hcz13_0:=cellS45_0 HGz13
    have hcz13_1:=cellS45_1 HGz13
    have hfz13_1:=blk_frozen HGz13 1
    clear HGz13 hgz13 HVz13_0
    have p218:0≤((ji10):Int):=od_
    have q218:(ji10) < (s0_0.length:Int):=od_
    obtain ⟨ad218,e218,hx218_0⟩:=Kd.at_int HSz13_0 (ji10) p218 q218
    cases e218
    replace hx218_0:=pw_cell_below HB.out hx218_0
    replace p218:=eq_true p218
    replace q218:=eq_true q218
    go_wp2
    repeat (go_quiet (fail);try go_wp2)
    go_roundg k2
    case measure => have:=HJ2.out;have:=HK2.out;omega
    case rel => exact ⟨(Go.bits .or .u64 (IntKind.u64.wrap (x6_2 * 256)) (IntKind.u64.wrap (rd s0_0 (ji10)))),(wrap64 (x7_2 + 1)),(by first|rfl|(simp;done)|(simp only [← hji10] <;> (first|rfl|simp))|(simp [*];done)),r3_,H',⟨by have:=HJ2.out;have:=HK2.out;omega⟩,⟨by repeat (first|(with_reducible first|exact HI0.out|apply IsS45.alloc|apply IsS45.drewN|apply IsS45.drew|apply IsS45.set_1)|exact HI0.out|apply IsS45.set_1)⟩,⟨by repeat (first|(with_reducible first|exact HK.out|apply KeepBut.set_|apply keep_drewN|apply keep_drew|apply keep_alloc)|exact HK.out)⟩,⟨by repeat (first|(with_reducible first|exact HB.out|apply below_alloc|apply pw_below_drewN|apply below_drew1|refine below_set ?_ (IsS45.ge HI0.out))|exact HB.out)⟩⟩
   rw [if_neg c12] at H
   exact absurd H (by simp)
def understudyref04_bare.j0:Nat→Int→Bool→Int→ByteArray→Int→Int→Int→Option (Bool)
 | 0,_,_,_,_,_,_,_ => none
 | k + 1,x4,x20,x220000,x220001,x220002,x220003,x220004 => if x20=true then (if x220001.toList=([]:List UInt8) then (if x220003=0 then (some (x220004==0)) else (some false)) else (some false)) else (if x4=7 then (if x220001.toList=([]:List UInt8) then (if x220002=0 then (some (x220004==0)) else (some false)) else (some false)) else (if x220001.toList=([]:List UInt8) then (some (x220002==0)) else (some false)))
def understudyref04_bare.f (k:Nat) (a0_0:Int) (a0_1:ByteArray) (a0_2:Int) (a0_3:Int) (a0_4:Int):Option (Bool):=if a0_0=1 then (if a0_2=0 then (if a0_3=0 then (some (a0_4==0)) else (some false)) else (some false)) else (if a0_0=3 then (understudyref04_bare.j0 k a0_0 (a0_0==3) a0_0 a0_1 a0_2 a0_3 a0_4) else (understudyref04_bare.j0 k a0_0 (a0_0==5) a0_0 a0_1 a0_2 a0_3 a0_4))
theorem understudyref04_bare.mono_l:∀ k,(∀ y0 y1 y2 y3 y4 y5 y6,LeO (understudyref04_bare.j0 k y0 y1 y2 y3 y4 y5 y6) (understudyref04_bare.j0 (k + 1) y0 y1 y2 y3 y4 y5 y6))
 | 0 => fun _ _ _ _ _ _ _ r h => by simp [understudyref04_bare.j0] at h
 | k + 1 => by
  have ih0:=understudyref04_bare.mono_l k
  intro y0 y1 y2 y3 y4 y5 y6
  unfold understudyref04_bare.j0
  repeat' first
  | (with_reducible exact ih0 _ _ _ _ _ _ _)
  | (with_reducible exact LeO.refl _)
  | (with_reducible exact LeO.none _)
  | (with_reducible refine LeO.ite ?_ ?_)
  | (with_reducible refine LeO.bind ?_ (fun _ => ?_))
  | exact ih0 _ _ _ _ _ _ _
  | exact LeO.none _
  | refine LeO.ite ?_ ?_
  | refine LeO.bind ?_ (fun _ => ?_)
theorem understudyref04_bare.mono:∀ a0 a1 a2 a3 a4 k,LeO (understudyref04_bare.f k a0 a1 a2 a3 a4) (understudyref04_bare.f (k + 1) a0 a1 a2 a3 a4):=by
 intro a0 a1 a2 a3 a4 k
 have ih0:=understudyref04_bare.mono_l k
 unfold understudyref04_bare.f
 repeat' first
   | (with_reducible exact ih0 _ _ _ _ _ _ _)
   | (with_reducible exact LeO.refl _)
   | (with_reducible exact LeO.none _)
   | (with_reducible refine LeO.ite ?_ ?_)
   | (with_reducible refine LeO.bind ?_ (fun _ => ?_))
   | exact ih0 _ _ _ _ _ _ _
   | exact LeO.none _
   | refine LeO.ite ?_ ?_
   | refine LeO.bind ?_ (fun _ => ?_)
set_option maxHeartbeats 80000000 in
set_option maxRecDepth 100000 in
theorem understudyref04_bare.calls (k:Nat) (a0_0:Int) (a0_1:ByteArray) (a0_2:Int) (a0_3:Int) (a0_4:Int) (r:Bool) (w:World) (h:understudyref04_bare.f k a0_0 a0_1 a0_2 a0_3 a0_4=some r) :
  Calls Tryz.prog 69 #[.agg #[.int .i64 a0_0,.string a0_1,.int .i64 a0_2,.int .i64 a0_3,.int .i64 a0_4]] w fun e w' => e=.returned (.bool r)∧Below w.heap.size w w':=by
 have hu61:=Tryz.underlying61
 have HB:=am_ (Below.refl w.heap.size w)
 have H:(if a0_0=1 then (if a0_2=0 then (if a0_3=0 then (some (a0_4==0)) else (some false)) else (some false)) else (if a0_0=3 then (understudyref04_bare.j0 k a0_0 (a0_0==3) a0_0 a0_1 a0_2 a0_3 a0_4) else (understudyref04_bare.j0 k a0_0 (a0_0==5) a0_0 a0_1 a0_2 a0_3 a0_4)))=some r:=h
 clear h
 by_cases c2:a0_0=1
 ·rw [if_pos c2] at H
  have c2b0:(a0_0==1)=true:=beq_iff_eq.mpr c2
  have c2b1:(a0_0 != 1)=false:=bne_eq_false_iff_eq.mpr c2
  clear c2
  by_cases c3:a0_2=0
  ·rw [if_pos c3] at H
   have c3b0:(a0_2==0)=true:=beq_iff_eq.mpr c3
   have c3b1:(a0_2 != 0)=false:=bne_eq_false_iff_eq.mpr c3
   clear c3
   by_cases c4:a0_3=0
   ·rw [if_pos c4] at H
    have c4b0:(a0_3==0)=true:=beq_iff_eq.mpr c4
    have c4b1:(a0_3 != 0)=false:=bne_eq_false_iff_eq.mpr c4
    clear c4
    obtain rfl:=Option.some.inj H
    go_enter Tryz.func69,Tryz.ntmps69
    go_wp2_with (first|((with_reducible refine gate_dst (N:=1) rfl ?_);refine box_event ?hg (N:=1) ?hd (cs:=#[.int .i64 a0_0,.string a0_1,.int .i64 a0_2,.int .i64 a0_3,.int .i64 a0_4]) (t:=61) ?hr ?_;(case hd => rfl);(case hg => rfl);(case hr => first|(go_simp;done)|(go_simp;rfl));intro gb219 hg w5 hbox hb;have n0_:=am_ (below_step bl_ hb);have n1_:=am_ (hbox);have n2_:=am_ ((by rw [hg];exact (below_size bl_):w.heap.size≤gb219));have n3_:=am_ ((by rw [hg];exact (below_size bl_):w.heap.size≤gb219));clear HB;have HB:=n0_;have BK219:=n1_;have GW219:=n2_;have GE219:=n3_;clear n0_ n1_ n2_ n3_;clear hb hbox hg;obtain ⟨hcz6_0,hcz6_1,hcz6_2,hcz6_3,hcz6_4,hfz6_0,hfz6_1,hfz6_2,hfz6_3,hfz6_4⟩:=blk5_ BK219.out))
    go_ret
    exact ⟨ew_,bl_⟩
   rw [if_neg c4] at H
   have c4b0:(a0_3==0)=false:=beq_eq_false_iff_ne.mpr c4
   have c4b1:(a0_3 != 0)=true:=bne_iff_ne.mpr c4
   obtain rfl:=Option.some.inj H
   go_enter Tryz.func69,Tryz.ntmps69
   go_wp2_with (first|((with_reducible refine gate_dst (N:=1) rfl ?_);refine box_event ?hg (N:=1) ?hd (cs:=#[.int .i64 a0_0,.string a0_1,.int .i64 a0_2,.int .i64 a0_3,.int .i64 a0_4]) (t:=61) ?hr ?_;(case hd => rfl);(case hg => rfl);(case hr => first|(go_simp;done)|(go_simp;rfl));intro gb219 hg w7 hbox hb;have n0_:=am_ (below_step bl_ hb);have n1_:=am_ (hbox);have n2_:=am_ ((by rw [hg];exact (below_size bl_):w.heap.size≤gb219));have n3_:=am_ ((by rw [hg];exact (below_size bl_):w.heap.size≤gb219));clear HB;have HB:=n0_;have BK219:=n1_;have GW219:=n2_;have GE219:=n3_;clear n0_ n1_ n2_ n3_;clear hb hbox hg;obtain ⟨hcz8_0,hcz8_1,hcz8_2,hcz8_3,hcz8_4,hfz8_0,hfz8_1,hfz8_2,hfz8_3,hfz8_4⟩:=blk5_ BK219.out))
   go_ret
   exact ⟨ew_,bl_⟩
  rw [if_neg c3] at H
  have c3b0:(a0_2==0)=false:=beq_eq_false_iff_ne.mpr c3
  have c3b1:(a0_2 != 0)=true:=bne_iff_ne.mpr c3
  obtain rfl:=Option.some.inj H
  go_enter Tryz.func69,Tryz.ntmps69
  go_wp2_with (first|((with_reducible refine gate_dst (N:=1) rfl ?_);refine box_event ?hg (N:=1) ?hd (cs:=#[.int .i64 a0_0,.string a0_1,.int .i64 a0_2,.int .i64 a0_3,.int .i64 a0_4]) (t:=61) ?hr ?_;(case hd => rfl);(case hg => rfl);(case hr => first|(go_simp;done)|(go_simp;rfl));intro gb219 hg w9 hbox hb;have n0_:=am_ (below_step bl_ hb);have n1_:=am_ (hbox);have n2_:=am_ ((by rw [hg];exact (below_size bl_):w.heap.size≤gb219));have n3_:=am_ ((by rw [hg];exact (below_size bl_):w.heap.size≤gb219));clear HB;have HB:=n0_;have BK219:=n1_;have GW219:=n2_;have GE219:=n3_;clear n0_ n1_ n2_ n3_;clear hb hbox hg;obtain ⟨hcz10_0,hcz10_1,hcz10_2,hcz10_3,hcz10_4,hfz10_0,hfz10_1,hfz10_2,hfz10_3,hfz10_4⟩:=blk5_ BK219.out))
  go_ret
  exact ⟨ew_,bl_⟩
 rw [if_neg c2] at H
 have c2b0:(a0_0==1)=false:=beq_eq_false_iff_ne.mpr c2
 have c2b1:(a0_0 != 1)=true:=bne_iff_ne.mpr c2
 have HC11:=am_ H
 clear H
 go_enter Tryz.func69,Tryz.ntmps69
 go_upto_if 20 with (first|((with_reducible refine gate_dst (N:=1) rfl ?_);refine box_event ?hg (N:=1) ?hd (cs:=#[.int .i64 a0_0,.string a0_1,.int .i64 a0_2,.int .i64 a0_3,.int .i64 a0_4]) (t:=61) ?hr ?_;(case hd => rfl);(case hg => rfl);(case hr => first|(go_simp;done)|(go_simp;rfl));intro gb219 hg w12 hbox hb;have n0_:=am_ (below_step bl_ hb);have n1_:=am_ (hbox);have n2_:=am_ ((by rw [hg];exact (below_size bl_):w.heap.size≤gb219));have n3_:=am_ ((by rw [hg];exact (below_size bl_):w.heap.size≤gb219));clear HB;have HB:=n0_;have BK219:=n1_;have GW219:=n2_;have GE219:=n3_;clear n0_ n1_ n2_ n3_;clear hb hbox hg;obtain ⟨hcz13_0,hcz13_1,hcz13_2,hcz13_3,hcz13_4,hfz13_0,hfz13_1,hfz13_2,hfz13_3,hfz13_4⟩:=blk5_ BK219.out))
 (try simp only [Act.put,List.setIfInBounds_toArray,List.set_cons_zero,List.set_cons_succ])
 go_cut [20] (fun v20 wc => ∃ (kq:Nat) (x20_10:Bool),v20=.bool x20_10∧Aside0 (understudyref04_bare.j0 kq a0_0 x20_10 a0_0 a0_1 a0_2 a0_3 a0_4=some r)∧Aside0 (kq≤k)∧Aside0 (wc.heap[gb219]?=some (.cells #[.int .i64 a0_0,.string a0_1,.int .i64 a0_2,.int .i64 a0_3,.int .i64 a0_4] 61 (0,0)))∧Aside0 (Below w.heap.size w wc))
 case first =>
  have H:=HC11.out
  clear HC11
  by_cases c14:a0_0=3
  ·rw [if_pos c14] at H
   have c14b0:(a0_0==3)=true:=beq_iff_eq.mpr c14
   have c14b1:(a0_0 != 3)=false:=bne_eq_false_iff_eq.mpr c14
   clear c14
   (first|rw [c14b0]|(simp only [i64_w,i32_w];rw [c14b0])|skip)
   have H':=am_ H
   clear H
   go_wp2
   go_meet
   case rel => exact ⟨_,((a0_0==3)),r3_,H',⟨by first|omega|exact Nat.le_refl _⟩,⟨bk_⟩,⟨bl_⟩⟩
  rw [if_neg c14] at H
  have c14b0:(a0_0==3)=false:=beq_eq_false_iff_ne.mpr c14
  have c14b1:(a0_0 != 3)=true:=bne_iff_ne.mpr c14
  (first|rw [c14b0]|(simp only [i64_w,i32_w];rw [c14b0])|skip)
  have H':=am_ H
  clear H
  go_wp2
  go_meet
  case rel => exact ⟨_,((a0_0==5)),r3_,H',⟨by first|omega|exact Nat.le_refl _⟩,⟨bk_⟩,⟨bl_⟩⟩
 clear HC11
 try clear c2;try clear c2b0;try clear c2b1;try clear hcz13_0;try clear hcz13_1;try clear hcz13_2;try clear hcz13_3;try clear hcz13_4;try clear hfz13_0;try clear hfz13_1;try clear hfz13_2;try clear hfz13_3;try clear hfz13_4
 obtain ⟨kq,x20_10,rfl,HA,HJ10,BK219,HB⟩:=hcut
 cases kq with
 | zero => exact absurd HA.out (by simp [understudyref04_bare.j0])
 | succ kj10 =>
  have H:=HA.out
  clear HA
  simp only [understudyref04_bare.j0] at H
  by_cases c15:x20_10=true
  ·subst c15
   rw [if_pos rfl] at H
   by_cases c16:a0_1.toList=([]:List UInt8)
   ·rw [if_pos c16] at H
    have c16b0:(a0_1.toList==([]:List UInt8))=true:=beq_iff_eq.mpr c16
    have c16b1:(a0_1.toList != ([]:List UInt8))=false:=bne_eq_false_iff_eq.mpr c16
    clear c16
    by_cases c17:a0_3=0
    ·rw [if_pos c17] at H
     have c17b0:(a0_3==0)=true:=beq_iff_eq.mpr c17
     have c17b1:(a0_3 != 0)=false:=bne_eq_false_iff_eq.mpr c17
     clear c17
     obtain rfl:=Option.some.inj H
     obtain ⟨hcz18_0,hcz18_1,hcz18_2,hcz18_3,hcz18_4,hfz18_0,hfz18_1,hfz18_2,hfz18_3,hfz18_4⟩:=blk5_ BK219.out
     go_wp2
     go_ret
     exact ⟨ew_,bl_⟩
    rw [if_neg c17] at H
    have c17b0:(a0_3==0)=false:=beq_eq_false_iff_ne.mpr c17
    have c17b1:(a0_3 != 0)=true:=bne_iff_ne.mpr c17
    obtain rfl:=Option.some.inj H
    obtain ⟨hcz19_0,hcz19_1,hcz19_2,hcz19_3,hcz19_4,hfz19_0,hfz19_1,hfz19_2,hfz19_3,hfz19_4⟩:=blk5_ BK219.out
    go_wp2
    go_ret
    exact ⟨ew_,bl_⟩
   rw [if_neg c16] at H
   have c16b0:(a0_1.toList==([]:List UInt8))=false:=beq_eq_false_iff_ne.mpr c16
   have c16b1:(a0_1.toList != ([]:List UInt8))=true:=bne_iff_ne.mpr c16
   obtain rfl:=Option.some.inj H
   obtain ⟨hcz20_0,hcz20_1,hcz20_2,hcz20_3,hcz20_4,hfz20_0,hfz20_1,hfz20_2,hfz20_3,hfz20_4⟩:=blk5_ BK219.out
   go_wp2
   go_ret
   exact ⟨ew_,bl_⟩
  replace c15:=Bool.eq_false_iff.mpr c15
  subst c15
  rw [if_neg (show ¬ (false=true) by decide)] at H
  by_cases c21:a0_0=7
  ·rw [if_pos c21] at H
   have c21b0:(a0_0==7)=true:=beq_iff_eq.mpr c21
   have c21b1:(a0_0 != 7)=false:=bne_eq_false_iff_eq.mpr c21
   clear c21
   by_cases c22:a0_1.toList=([]:List UInt8)
   ·rw [if_pos c22] at H
    have c22b0:(a0_1.toList==([]:List UInt8))=true:=beq_iff_eq.mpr c22
    have c22b1:(a0_1.toList != ([]:List UInt8))=false:=bne_eq_false_iff_eq.mpr c22
    clear c22
    by_cases c23:a0_2=0
    ·rw [if_pos c23] at H
     have c23b0:(a0_2==0)=true:=beq_iff_eq.mpr c23
     have c23b1:(a0_2 != 0)=false:=bne_eq_false_iff_eq.mpr c23
     clear c23
     obtain rfl:=Option.some.inj H
     obtain ⟨hcz24_0,hcz24_1,hcz24_2,hcz24_3,hcz24_4,hfz24_0,hfz24_1,hfz24_2,hfz24_3,hfz24_4⟩:=blk5_ BK219.out
     go_wp2
     go_ret
     exact ⟨ew_,bl_⟩
    rw [if_neg c23] at H
    have c23b0:(a0_2==0)=false:=beq_eq_false_iff_ne.mpr c23
    have c23b1:(a0_2 != 0)=true:=bne_iff_ne.mpr c23
    obtain rfl:=Option.some.inj H
    obtain ⟨hcz25_0,hcz25_1,hcz25_2,hcz25_3,hcz25_4,hfz25_0,hfz25_1,hfz25_2,hfz25_3,hfz25_4⟩:=blk5_ BK219.out
    go_wp2
    go_ret
    exact ⟨ew_,bl_⟩
   rw [if_neg c22] at H
   have c22b0:(a0_1.toList==([]:List UInt8))=false:=beq_eq_false_iff_ne.mpr c22
   have c22b1:(a0_1.toList != ([]:List UInt8))=true:=bne_iff_ne.mpr c22
   obtain rfl:=Option.some.inj H
   obtain ⟨hcz26_0,hcz26_1,hcz26_2,hcz26_3,hcz26_4,hfz26_0,hfz26_1,hfz26_2,hfz26_3,hfz26_4⟩:=blk5_ BK219.out
   go_wp2
   go_ret
   exact ⟨ew_,bl_⟩
  rw [if_neg c21] at H
  have c21b0:(a0_0==7)=false:=beq_eq_false_iff_ne.mpr c21
  have c21b1:(a0_0 != 7)=true:=bne_iff_ne.mpr c21
  by_cases c27:a0_1.toList=([]:List UInt8)
  ·rw [if_pos c27] at H
   have c27b0:(a0_1.toList==([]:List UInt8))=true:=beq_iff_eq.mpr c27
   have c27b1:(a0_1.toList != ([]:List UInt8))=false:=bne_eq_false_iff_eq.mpr c27
   clear c27
   obtain rfl:=Option.some.inj H
   obtain ⟨hcz28_0,hcz28_1,hcz28_2,hcz28_3,hcz28_4,hfz28_0,hfz28_1,hfz28_2,hfz28_3,hfz28_4⟩:=blk5_ BK219.out
   go_wp2
   go_ret
   exact ⟨ew_,bl_⟩
  rw [if_neg c27] at H
  have c27b0:(a0_1.toList==([]:List UInt8))=false:=beq_eq_false_iff_ne.mpr c27
  have c27b1:(a0_1.toList != ([]:List UInt8))=true:=bne_iff_ne.mpr c27
  obtain rfl:=Option.some.inj H
  obtain ⟨hcz29_0,hcz29_1,hcz29_2,hcz29_3,hcz29_4,hfz29_0,hfz29_1,hfz29_2,hfz29_3,hfz29_4⟩:=blk5_ BK219.out
  go_wp2
  go_ret
  exact ⟨ew_,bl_⟩
end Go.Proofs.YtamdobdmjcgmoaaGreatDoor.Px
namespace Go.Proofs.YtamdobdmjcgmoaaGreatDoor.Px
open Go.RowKit Go.Proofs.YtamdobdmjcgmoaaGreatDoorW.PrintWords Go.Proofs.YtamdobdmjcgmoaaGreatDoorW.PrintLast Go.Proofs.YtamdobdmjcgmoaaGreatDoorW.PrintMore
set_option linter.unusedVariables false
set_option linter.unusedSimpArgs false
def understudyref01_Reader_Bytes.f (s0_0:List Int) (s0_1 a1:Int):Option (List Int × Int × Int) :=
 if 0≤a1∧0≤s0_1∧s0_1≤s0_0.length∧s0_0.length≤140737488355328 then
  (if (s0_0.length:Int) - s0_1 < a1 then some ([],3,s0_1) else some ((s0_0.take (s0_1 + a1).toNat).drop s0_1.toNat,0,s0_1 + a1)) else none
theorem R_empty (w:World):Kd.R (Kd.int .u8) 5 (w.alloc (.cells #[] 5 (0,0))) w.heap.size (fun _ => True) (.slice (some ⟨w.heap.size,0,none⟩) 0 0) []:=by
 have h1:=World.ownsRow_lit (base:=w.heap.size) (e:=5) (size:=1) w #[] 0 (Nat.le_refl _) (by simp [maxLen]) (by simp)
 exact ⟨fun _ _ => trivial,[],by simp only [List.length_nil];exact (by simpa using h1:World.ownsRow _ _ _ 1 _ 0 []),Reps.none _ _⟩
set_option maxHeartbeats 4000000 in
set_option maxRecDepth 100000 in
theorem understudyref01_Reader_Bytes.calls (g:Nat) (s0_0:List Int) (s0_1 a1:Int) (r1:List Int) (r2 r3:Int) (w0 w:World) (hI:IsS45 w0 w g s0_0 s0_1) (hB:Below w0.heap.size w0 w) (h:understudyref01_Reader_Bytes.f s0_0 s0_1 a1=some (r1,r2,r3)) :
  Calls Tryz.prog 50 #[.pointer (some ⟨g,0,none⟩),.int .i64 a1] w fun e w' => ∃ v0_:Value,e=.returned (.tuple #[v0_,.int .i64 r2])∧Kd.R (Kd.int .u8) 5 w' w.heap.size (fun _ => True) v0_ r1∧IsS45 w0 w' g s0_0 r3∧Below w0.heap.size w0 w'∧KeepBut w w' g none:=by
 obtain ⟨A0,c0,hb,hg,hr,hc⟩:=hI
 have c0':w.cell? ⟨g,0,none⟩=some (.slice A0 s0_0.length c0):=(blk_cell hb 0).trans rfl
 have c1':w.cell? ⟨g,1,none⟩=some (.int .i64 s0_1):=(blk_cell hb 1).trans rfl
 have f1':w.frozen? ⟨g,1,none⟩=false:=blk_frozen hb 1
 have HBK:=am_ hb
 have HG:=am_ hg
 have HR:=am_ hr
 have HC:=am_ hc
 have HB:=am_ hB
 clear hb hg hr hc hB
 unfold understudyref01_Reader_Bytes.f at h
 by_cases hk:0≤a1∧0≤s0_1∧s0_1≤s0_0.length∧s0_0.length≤140737488355328
 rotate_left
 ·rw [if_neg hk] at h
  cases h
 rw [if_pos hk] at h
 obtain ⟨k1,k2,k3,k4⟩:=hk
 have t1:decide (a1 < 0)=false:=decide_eq_false (by omega)
 have hw3:wrap64 ((s0_0.length:Int) - s0_1)=(s0_0.length:Int) - s0_1:=by unfold wrap64;omega
 by_cases hs:(s0_0.length:Int) - s0_1 < a1
 ·rw [if_pos hs] at h
  simp only [Option.some.injEq,Prod.mk.injEq] at h
  obtain ⟨rfl,rfl,rfl⟩:=h
  have t3:decide ((s0_0.length:Int) - s0_1 < a1)=true:=decide_eq_true hs
  clear hs
  go_enter Tryz.func50,Tryz.ntmps50
  go_wp2
  go_quiet (fail)
  go_wp2
  go_ret2
  exact ⟨_,rfl,Kd.R_nil _ _ _ _ _,⟨A0,c0,HBK.out,HG.out,HR.out,HC.out⟩,pw_below_drewN HB.out _,⟨Nat.le_refl _,fun _ _ _ _ => rfl⟩⟩
 rw [if_neg hs] at h
 simp only [Option.some.injEq,Prod.mk.injEq] at h
 obtain ⟨rfl,rfl,rfl⟩:=h
 have t3:decide ((s0_0.length:Int) - s0_1 < a1)=false:=decide_eq_false hs
 have hw1:wrap64 (s0_1 + a1)=s0_1 + a1:=by unfold wrap64;omega
 have hw0:0≤s0_1 + a1:=by omega
 obtain ⟨i0,hi0,_,hsz,_⟩:=info_parts info5
 obtain ⟨A1,hsl,hrd,hcc⟩:=print_mid_of (P:=Tryz.prog) (Value.int .u8) (0:Int) 22 5 .i64 .i64 Tryz.underlying22 hi0 hsz A0 c0 s0_0 s0_1 (s0_1 + a1) (by omega) (by omega) (by omega) HC.out
 obtain ⟨ys,hys⟩:∃ ys,ys=(s0_0.take (s0_1 + a1).toNat).drop s0_1.toNat:=⟨_,rfl⟩
 obtain ⟨c1,hc1⟩:∃ c1,c1=c0 - s0_1.toNat:=⟨_,rfl⟩
 rw [← hys,← hc1] at hsl
 rw [← hys] at hrd ⊢
 have HYL:Aside0 (ys.length≤140737488355328):=⟨by rw [hys,List.length_drop,List.length_take];omega⟩
 have HRD:=am_ hrd
 clear hs hys hc1 hcc hrd
 go_enter Tryz.func50,Tryz.ntmps50
 go_wp2
 go_quiet (fail)
 go_wp2
 have HY:=am_ (Kd.C_of_reads (h1:=fun _ => rfl) (HRD.out _ (Kd.reads_of_C (d:=(0:Int)) (Kd.C_below HR.out (below_drew (pw_below_drewN HB.out nq))))))
 have cq0:(w.drewN nq).drew.cell? ⟨g,0,none⟩=some (.slice A0 s0_0.length c0):=c0'
 have cq1:(w.drewN nq).drew.cell? ⟨g,1,none⟩=some (.int .i64 s0_1):=c1'
 refine start_ (n:=18) (S:=fun w' => w'.cell? ⟨g,0,none⟩=some (.slice A0 s0_0.length c0)∧w'.cell? ⟨g,1,none⟩=some (.int .i64 s0_1)) (ds:=[]) #[false,false,false,false,false,false,false,false,false,false,false,false,false,false,false,false,false,false] (by kernel_rfl) rfl rfl ⟨cq0,cq1⟩ (fun hHeld => ?_)
 refine pr_ 1 (some 22) ?_
 refine pr_ 2 (some 23) ?_
 refine pr_ 3 (some 24) ?_
 refine pr_ 5 (some 26) ?_
 refine pr_ 6 (some 27) ?_
 refine pr_ 7 (some 28) ?_
 refine pr_ 9 (some 30) ?_
 refine pr_ 10 (some 31) ?_
 refine pr_ 11 (some 32) ?_
 refine pr_ 13 (some 34) ?_
 refine tk_ 4 (some 25) hHeld ?_ (hy:=by rintro w' ⟨s0,s1⟩;go_simp;with_reducible rfl)
 refine tk_ 8 (some 29) hHeld ?_ (hy:=by rintro w' ⟨s0,s1⟩;go_simp;with_reducible rfl)
 refine tk_ 12 (some 33) hHeld ?_ (hy:=by rintro w' ⟨s0,s1⟩;go_simp;with_reducible rfl)
 refine pr_ 14 (some 35) ?_
 refine pr_ 15 (some 36) ?_
 refine one_ (i:=0) (N:=some 21) #[true,true,true,true,true,true,true,true,true,true,true,true,true,true,true,true,false,false] rfl rfl (by kernel_rfl) (by decide) (fun K hK => ?_)
 refine value_ (w1:=?_) (v:=?_) (by rfl) rfl ?_ ?_
 rotate_left 2
 ·go_simp
  constructor
  ·rfl
  rfl
 refine hK.out _ _ ⟨(by exact pw_cell_below ((Below.refl _ _).alloc (Nat.le_refl _) _) hHeld.1),(by exact pw_cell_below ((Below.refl _ _).alloc (Nat.le_refl _) _) hHeld.2)⟩ (fun hHeld => ?_)
 clear hK K
 refine norm_ (a':=?_) ?_ ?_
 rotate_left
 ·show Act.put _ (some 21) _=_
  simp only [Act.put,List.setIfInBounds_toArray,List.set_cons_zero,List.set_cons_succ,i64_w,i32_w]
  rfl
 refine one_ (i:=16) (N:=some 37) #[true,true,true,true,true,true,true,true,true,true,true,true,true,true,true,true,true,false] rfl rfl (by kernel_rfl) (by decide) (fun K hK => ?_)
 refine Kd.R_append_rows_step (Kd.int .u8) (w0:=(w.drewN nq).drew) (w.drewN nq).drew.heap.size (by rfl) (.tmp 21) (.tmp 36) 22 5 (.int .u8 0) 1 (by rfl) Tryz.underlying22 info5 rfl (by decide) (by decide) (.slice (some ⟨(w.drewN nq).drew.heap.size,0,none⟩) 0 0) [] ys A1 ys.length c1 (fun _ => True) (fun _ => False) (by rfl) (by rfl) (R_empty (w.drewN nq).drew) (Kd.C_below HY.out ((Below.refl _ _).alloc (Nat.le_refl _) _)) (fun _ _ h => h) (fun _ h => h.elim) (fun _ _ => trivial) ((Below.refl _ _).alloc (Nat.le_refl _) _) (by simp) (by have:=HYL.out;simp only [List.length_nil];omega) ?_
 intro v1 w3 hR3 hB3 hg3 ho3
 have HR3:=am_ hR3
 have HB3:=am_ hB3
 clear hR3 hB3 hg3 ho3
 refine hK.out _ _ ⟨(pw_cell_below HB3.out cq0),(pw_cell_below HB3.out cq1)⟩ (fun hHeld => ?_)
 clear hK K
 refine norm_ (a':=?_) ?_ ?_
 rotate_left
 ·show Act.put _ (some 37) _=_
  simp only [Act.put,List.setIfInBounds_toArray,List.set_cons_zero,List.set_cons_succ,i64_w,i32_w]
  rfl
 refine pr_ 17 (some 6) ?_
 refine done_ (by kernel_rfl) ?_
 have HB4:=am_ (show Below w.heap.size w w3 from (below_drew (pw_below_drewN (Below.refl _ _) nq)).trans HB3.out)
 have HBK3:=am_ ((HB4.out.block g (blk_lt HBK.out)).trans HBK.out)
 have d0:w3.cell? ⟨g,0,none⟩=some (.slice A0 s0_0.length c0):=(blk_cell HBK3.out 0).trans rfl
 have d1:w3.cell? ⟨g,1,none⟩=some (.int .i64 s0_1):=(blk_cell HBK3.out 1).trans rfl
 have df:w3.frozen? ⟨g,1,none⟩=false:=blk_frozen HBK3.out 1
 obtain ⟨Av,cv,hv⟩:=Kd.R_slice HR3.out
 subst hv
 go_wp2
 go_ret2
 refine ⟨_,rfl,Kd.R_set HR3.out HBK3.out (by decide) 1 _,⟨A0,c0,blk_set HBK3.out 1 _,HG.out,HR.out,HC.out⟩,below_set (HB.out.trans (HB4.out.mono HB.out.size)) HG.out,(KeepBut.of_below HB4.out g none).set_ 1 _⟩
def understudyref01_Reader_Int.f (k:Nat) (s0_0:List Int) (s0_1 a1:Int):Option (Int × Int × Int) :=
 if a1=4 ∨ a1=8 then (understudyref01_Reader_Uint.f k s0_0 s0_1 a1).bind fun x => if x.2.1=0 then (if 0≤x.1∧x.1 < 18446744073709551616 then (if a1=4∧x.1 / 2147483648=1 then some (wrap64 (wrap64 x.1 - 4294967296),0,x.2.2) else some (wrap64 x.1,0,x.2.2)) else none) else some (0,x.2.1,x.2.2) else none
set_option maxHeartbeats 4000000 in
set_option maxRecDepth 100000 in
theorem understudyref01_Reader_Int.calls (k:Nat) (g:Nat) (s0_0:List Int) (s0_1 a1 r1 r2 r3:Int) (w0 w:World) (hI:IsS45 w0 w g s0_0 s0_1) (hB:Below w0.heap.size w0 w) (h:understudyref01_Reader_Int.f k s0_0 s0_1 a1=some (r1,r2,r3)) :
  Calls Tryz.prog 52 #[.pointer (some ⟨g,0,none⟩),.int .i64 a1] w fun e w' => e=.returned (.tuple #[.int .i64 r1,.int .i64 r2])∧IsS45 w0 w' g s0_0 r3∧Below w0.heap.size w0 w'∧KeepBut w w' g none:=by
 unfold understudyref01_Reader_Int.f at h
 by_cases hk:a1=4 ∨ a1=8
 rotate_left
 ·rw [if_neg hk] at h
  cases h
 rw [if_pos hk] at h
 obtain ⟨⟨x,e,p⟩,hx,h⟩:=Option.bind_eq_some_iff.mp h
 have HU:=am_ (understudyref01_Reader_Uint.calls k g s0_0 s0_1 a1 x e p w0 w hI hB hx)
 clear hI hB hx
 by_cases he:e=0
 rotate_left
 ·rw [if_neg he] at h
  simp only [Option.some.injEq,Prod.mk.injEq] at h
  obtain ⟨rfl,rfl,rfl⟩:=h
  have heb:(e != 0)=true:=bne_iff_ne.mpr he
  clear he
  go_enter Tryz.func52,Tryz.ntmps52
  go_wp2_with fail
  with_reducible refine HU.out.mono ?_
  rintro e' w1 ⟨rfl,hP⟩
  have HP:=am_ hP
  clear hP
  go_wp2
  go_ret2
  exact ⟨rfl,HP.out⟩
 rw [if_pos he] at h
 have heb:(e != 0)=false:=bne_eq_false_iff_eq.mpr he
 clear he
 by_cases hr:0≤x∧x < 18446744073709551616
 rotate_left
 ·rw [if_neg hr] at h
  cases h
 rw [if_pos hr] at h
 obtain ⟨x0,x1⟩:=hr
 have HX:=am_ x1
 clear x1
 rcases hk with rfl|rfl
 ·by_cases ht:x / 2147483648=1
  ·rw [if_pos ⟨rfl,ht⟩] at h
   simp only [Option.some.injEq,Prod.mk.injEq] at h
   obtain ⟨rfl,rfl,rfl⟩:=h
   have htb:(x / 2147483648==1)=true:=beq_iff_eq.mpr ht
   clear ht
   go_enter Tryz.func52,Tryz.ntmps52
   go_wp2_with fail
   with_reducible refine HU.out.mono ?_
   rintro e' w1 ⟨rfl,hP⟩
   have HP:=am_ hP
   clear hP
   go_wp2
   go_ret2
   exact ⟨rfl,HP.out⟩
  rw [if_neg (fun hh => ht hh.2)] at h
  simp only [Option.some.injEq,Prod.mk.injEq] at h
  obtain ⟨rfl,rfl,rfl⟩:=h
  have htb:(x / 2147483648==1)=false:=beq_eq_false_iff_ne.mpr ht
  clear ht
  go_enter Tryz.func52,Tryz.ntmps52
  go_wp2_with fail
  with_reducible refine HU.out.mono ?_
  rintro e' w1 ⟨rfl,hP⟩
  have HP:=am_ hP
  clear hP
  go_wp2
  go_ret2
  exact ⟨rfl,HP.out⟩
 rw [if_neg (fun hh => by have:=hh.1;omega)] at h
 simp only [Option.some.injEq,Prod.mk.injEq] at h
 obtain ⟨rfl,rfl,rfl⟩:=h
 go_enter Tryz.func52,Tryz.ntmps52
 go_wp2_with fail
 with_reducible refine HU.out.mono ?_
 rintro e' w1 ⟨rfl,hP⟩
 have HP:=am_ hP
 clear hP
 go_wp2
 go_ret2
 exact ⟨rfl,HP.out⟩
end Go.Proofs.YtamdobdmjcgmoaaGreatDoor.Px
namespace Go.Proofs.YtamdobdmjcgmoaaGreatDoor.Px
open Go.RowKit Go.Proofs.YtamdobdmjcgmoaaGreatDoorW.PrintWords Go.Proofs.YtamdobdmjcgmoaaGreatDoorW.PrintLast Go.Proofs.YtamdobdmjcgmoaaGreatDoorW.PrintMore
attribute [local go_sem] max2_int min2_int max_two min_two max_three min_three max_four min_four
set_option linter.unusedVariables false
set_option linter.unusedSimpArgs false
mutual
def understudyref02_point.j2:Nat→ByteArray→Int→Int→Int→Option (Int × Int)
 | 0,_,_,_,_ => none
 | k + 1,x0,x4,x5,x6 => if (x0.size:Int) < x5 then (some (0,0)) else (understudyref02_point.l0 k x0 x4 x5 x6 1)
def understudyref02_point.l0:Nat→ByteArray→Int→Int→Int→Int→Option (Int × Int)
 | 0,_,_,_,_,_ => none
 | k + 1,x0,x4,x5,x6,x7 => if x7 < x5 then (if 0≤x7 then (if x7 < (x0.size:Int) then (if (bt x0 x7) < 128 then (some (0,0)) else (if (bt x0 x7) > 191 then (some (0,0)) else (understudyref02_point.l0 k x0 (Go.bits .or .i64 (wrap64 (x4 * 64)) (wrap64 (Go.bits .and .u8 (bt x0 x7) 63))) x5 x6 (wrap64 (x7 + 1))))) else (none)) else (none)) else (if x4 < x6 then (some (0,0)) else (if x4 > 1114111 then (some (0,0)) else (if x4 ≥ 55296 then (if x4≤57343 then (some (0,0)) else (some (x4,x5))) else (some (x4,x5)))))
def understudyref02_point.j0:Nat→ByteArray→Int→Bool→Option (Int × Int)
 | 0,_,_,_ => none
 | k + 1,x0,x4,x15 => if x15=true then (understudyref02_point.j2 k x0 (Go.bits .and .i64 x4 31) 2 128) else (if x4 ≥ 224 then (understudyref02_point.j1 k x0 x4 (decide (x4≤239))) else (understudyref02_point.j1 k x0 x4 false))
def understudyref02_point.j1:Nat→ByteArray→Int→Bool→Option (Int × Int)
 | 0,_,_,_ => none
 | k + 1,x0,x4,x24 => if x24=true then (understudyref02_point.j2 k x0 (Go.bits .and .i64 x4 15) 3 2048) else (if x4 ≥ 240 then (if x4≤244 then (understudyref02_point.j2 k x0 (Go.bits .and .i64 x4 7) 4 65536) else (some (0,0))) else (some (0,0)))
end
def understudyref02_point.f (k:Nat) (a0:ByteArray):Option (Int × Int):=if 0 < (a0.size:Int) then (if (wrap64 (bt a0 0)) < 128 then (some (wrap64 (bt a0 0),1)) else (if (wrap64 (bt a0 0)) ≥ 194 then (understudyref02_point.j0 k a0 (wrap64 (bt a0 0)) (decide ((wrap64 (bt a0 0))≤223))) else (understudyref02_point.j0 k a0 (wrap64 (bt a0 0)) false))) else (none)
set_option maxHeartbeats 80000000 in
set_option maxRecDepth 100000 in
theorem understudyref02_point.calls (k:Nat) (a0:ByteArray) (r1:Int) (r2:Int) (w:World) (h:understudyref02_point.f k a0=some (r1,r2)) :
  Calls Tryz.prog 84 #[.string a0] w fun e w' => e=.returned (.tuple #[.int .i64 r1,.int .i64 r2])∧Drawn0 w w':=by
 have H:(if 0 < (a0.size:Int) then (if (wrap64 (bt a0 0)) < 128 then (some (wrap64 (bt a0 0),1)) else (if (wrap64 (bt a0 0)) ≥ 194 then (understudyref02_point.j0 k a0 (wrap64 (bt a0 0)) (decide ((wrap64 (bt a0 0))≤223))) else (understudyref02_point.j0 k a0 (wrap64 (bt a0 0)) false))) else (none))=some (r1,r2):=h
 clear h
 by_cases c2:0 < (a0.size:Int)
 rotate_left
 ·rw [if_neg c2] at H
  exact absurd H (by simp)
 rw [if_pos c2] at H
 have c2b0:decide (0 < (a0.size:Int))=true:=decide_eq_true c2
 have c2b1:decide (0 < a0.size)=true:=decide_eq_true (by omega)
 clear c2
 have HC4:=am_ H
 clear H
 have p3:0≤(0:Int):=(by omega)
 have q3:0 < a0.size:=(by have:(0:Int) < (a0.size:Int):=od_;omega)
 have hx3:∀ h:0 < a0.size,((a0[0]'h).toNat:Int)=bt a0 0:=bt_at a0 0
 clear p3
 have qi3:(0 < (a0.size:Int))=True:=eq_true (od_)
 replace q3:=eq_true q3
 go_enter Tryz.func84,Tryz.ntmps84
 go_upto_block 0 with (fail)
 go_cut [4,5,6] (fun v4 v5 v6 wc => ∃ (kq:Nat) (x4_3:Int) (x5_3:Int) (x6_3:Int),v4=.int .i64 x4_3∧v5=.int .i64 x5_3∧v6=.int .i64 x6_3∧Aside0 (understudyref02_point.j2 kq a0 x4_3 x5_3 x6_3=some (r1,r2))∧Aside0 (kq≤k)∧Drawn0 w wc)
 case first =>
  have H:=HC4.out
  clear HC4
  by_cases c5:(wrap64 (bt a0 0)) < 128
  ·rw [if_pos c5] at H
   have c5b0:decide ((wrap64 (bt a0 0)) < 128)=true:=decide_eq_true c5
   clear c5
   (first|rw [c5b0]|(simp only [i64_w,i32_w];rw [c5b0])|skip)
   simp only [Option.some.injEq,Prod.mk.injEq] at H
   obtain ⟨rfl,rfl⟩:=H
   go_wp2
   go_ret2
   exact ⟨by first|rfl|(simp;done)|(simp [*];done),by repeat (first|exact Drawn0.refl _|apply Drawn0.step)⟩
  rw [if_neg c5] at H
  have c5b0:decide ((wrap64 (bt a0 0)) < 128)=false:=decide_eq_false c5
  clear c5
  (first|rw [c5b0]|(simp only [i64_w,i32_w];rw [c5b0])|skip)
  have HC6:=am_ H
  clear H
  go_upto_region 7 with (fail)
  go_cut [15] (fun v15 wc => ∃ (kq:Nat) (x15_5:Bool),v15=.bool x15_5∧Aside0 (understudyref02_point.j0 kq a0 (wrap64 (bt a0 0)) x15_5=some (r1,r2))∧Aside0 (kq≤k)∧Drawn0 w wc)
  case first =>
   have H:=HC6.out
   clear HC6
   by_cases c7:(wrap64 (bt a0 0)) ≥ 194
   ·rw [if_pos c7] at H
    have c7b0:decide (194≤(wrap64 (bt a0 0)))=true:=decide_eq_true c7
    clear c7
    (first|rw [c7b0]|(simp only [i64_w,i32_w];rw [c7b0])|skip)
    have H':=am_ H
    clear H
    go_wp2
    go_meet
    case rel => exact ⟨_,(decide ((wrap64 (bt a0 0))≤223)),r3_,H',⟨by first|omega|exact Nat.le_refl _⟩,by repeat (first|exact Drawn0.refl _|apply Drawn0.step)⟩
   rw [if_neg c7] at H
   have c7b0:decide (194≤(wrap64 (bt a0 0)))=false:=decide_eq_false c7
   clear c7
   (first|rw [c7b0]|(simp only [i64_w,i32_w];rw [c7b0])|skip)
   have H':=am_ H
   clear H
   go_wp2
   go_meet
   case rel => exact ⟨_,(false),r3_,H',⟨by first|omega|exact Nat.le_refl _⟩,by repeat (first|exact Drawn0.refl _|apply Drawn0.step)⟩
  clear HC6
  try clear c2;try clear c2b0;try clear c2b1;try clear p3;try clear q3;try clear hx3;try clear qi3;try clear c5;try clear c5b0
  obtain ⟨kq,x15_5,rfl,HA,HJ5,⟨mc5,rfl⟩⟩:=hcut
  cases kq with
  | zero => exact absurd HA.out (by simp [understudyref02_point.j0])
  | succ kj5 =>
   have H:=HA.out
   clear HA
   simp only [understudyref02_point.j0] at H
   by_cases c8:x15_5=true
   ·subst c8
    rw [if_pos rfl] at H
    have H':=am_ H
    clear H
    go_wp2
    go_meet
    case rel => exact ⟨_,(Go.bits .and .i64 (wrap64 (bt a0 0)) 31),(2),(128),r3_,r3_,r3_,H',⟨by have:=HJ5.out;first|omega|exact Nat.le_refl _⟩,by repeat (first|exact Drawn0.refl _|apply Drawn0.step)⟩
   replace c8:=Bool.eq_false_iff.mpr c8
   subst c8
   rw [if_neg (show ¬ (false=true) by decide)] at H
   have HC9:=am_ H
   clear H
   go_upto_region 11 with (fail)
   go_cut [24] (fun v24 wc => ∃ (kq:Nat) (x24_8:Bool),v24=.bool x24_8∧Aside0 (understudyref02_point.j1 kq a0 (wrap64 (bt a0 0)) x24_8=some (r1,r2))∧Aside0 (kq≤kj5)∧Drawn0 w wc)
   case first =>
    have H:=HC9.out
    clear HC9
    by_cases c10:(wrap64 (bt a0 0)) ≥ 224
    ·rw [if_pos c10] at H
     have c10b0:decide (224≤(wrap64 (bt a0 0)))=true:=decide_eq_true c10
     clear c10
     (first|rw [c10b0]|(simp only [i64_w,i32_w];rw [c10b0])|skip)
     have H':=am_ H
     clear H
     go_wp2
     go_meet
     case rel => exact ⟨_,(decide ((wrap64 (bt a0 0))≤239)),r3_,H',⟨by have:=HJ5.out;first|omega|exact Nat.le_refl _⟩,by repeat (first|exact Drawn0.refl _|apply Drawn0.step)⟩
    rw [if_neg c10] at H
    have c10b0:decide (224≤(wrap64 (bt a0 0)))=false:=decide_eq_false c10
    clear c10
    (first|rw [c10b0]|(simp only [i64_w,i32_w];rw [c10b0])|skip)
    have H':=am_ H
    clear H
    go_wp2
    go_meet
    case rel => exact ⟨_,(false),r3_,H',⟨by have:=HJ5.out;first|omega|exact Nat.le_refl _⟩,by repeat (first|exact Drawn0.refl _|apply Drawn0.step)⟩
   clear HC9
   try clear c8
   obtain ⟨kq,x24_8,rfl,HA,HJ8,⟨mc8,rfl⟩⟩:=hcut
   cases kq with
   | zero => exact absurd HA.out (by simp [understudyref02_point.j1])
   | succ kj8 =>
    have H:=HA.out
    clear HA
    simp only [understudyref02_point.j1] at H
    by_cases c11:x24_8=true
    ·subst c11
     rw [if_pos rfl] at H
     have H':=am_ H
     clear H
     go_wp2
     go_meet
     case rel => exact ⟨_,(Go.bits .and .i64 (wrap64 (bt a0 0)) 15),(3),(2048),r3_,r3_,r3_,H',⟨by have:=HJ5.out;have:=HJ8.out;first|omega|exact Nat.le_refl _⟩,by repeat (first|exact Drawn0.refl _|apply Drawn0.step)⟩
    replace c11:=Bool.eq_false_iff.mpr c11
    subst c11
    rw [if_neg (show ¬ (false=true) by decide)] at H
    by_cases c12:(wrap64 (bt a0 0)) ≥ 240
    ·rw [if_pos c12] at H
     have c12b0:decide (240≤(wrap64 (bt a0 0)))=true:=decide_eq_true c12
     clear c12
     by_cases c13:(wrap64 (bt a0 0))≤244
     ·rw [if_pos c13] at H
      have c13b0:decide ((wrap64 (bt a0 0))≤244)=true:=decide_eq_true c13
      clear c13
      have H':=am_ H
      clear H
      go_wp2
      go_meet
      case rel => exact ⟨_,(Go.bits .and .i64 (wrap64 (bt a0 0)) 7),(4),(65536),r3_,r3_,r3_,H',⟨by have:=HJ5.out;have:=HJ8.out;first|omega|exact Nat.le_refl _⟩,by repeat (first|exact Drawn0.refl _|apply Drawn0.step)⟩
     rw [if_neg c13] at H
     have c13b0:decide ((wrap64 (bt a0 0))≤244)=false:=decide_eq_false c13
     clear c13
     simp only [Option.some.injEq,Prod.mk.injEq] at H
     obtain ⟨rfl,rfl⟩:=H
     go_wp2
     go_ret2
     exact ⟨by first|rfl|(simp;done)|(simp [*];done),by repeat (first|exact Drawn0.refl _|apply Drawn0.step)⟩
    rw [if_neg c12] at H
    have c12b0:decide (240≤(wrap64 (bt a0 0)))=false:=decide_eq_false c12
    clear c12
    simp only [Option.some.injEq,Prod.mk.injEq] at H
    obtain ⟨rfl,rfl⟩:=H
    go_wp2
    go_ret2
    exact ⟨by first|rfl|(simp;done)|(simp [*];done),by repeat (first|exact Drawn0.refl _|apply Drawn0.step)⟩
 clear HC4
 obtain ⟨kq,x4_3,x5_3,x6_3,rfl,rfl,rfl,HA,HJ3,⟨mc3,rfl⟩⟩:=hcut
 cases kq with
 | zero => exact absurd HA.out (by simp [understudyref02_point.j2])
 | succ kj3 =>
  have H:=HA.out
  clear HA
  simp only [understudyref02_point.j2] at H
  by_cases c14:(a0.size:Int) < x5_3
  ·rw [if_pos c14] at H
   have c14b0:decide ((a0.size:Int) < x5_3)=true:=decide_eq_true c14
   clear c14
   simp only [Option.some.injEq,Prod.mk.injEq] at H
   obtain ⟨rfl,rfl⟩:=H
   go_wp2
   go_ret2
   exact ⟨by first|rfl|(simp;done)|(simp [*];done),by repeat (first|exact Drawn0.refl _|apply Drawn0.step)⟩
  rw [if_neg c14] at H
  have c14b0:decide ((a0.size:Int) < x5_3)=false:=decide_eq_false c14
  clear c14
  have H':=am_ H
  clear H
  go_wp2
  go_loopg [4,7] kj3 (fun kq v4 v7 w' => ∃ (x4_2:Int) (x7_2:Int),v4=.int .i64 x4_2∧v7=.int .i64 x7_2∧Aside0 (understudyref02_point.l0 kq a0 x4_2 x5_3 x6_3 x7_2=some (r1,r2))∧Aside0 (kq≤kj3)∧Drawn0 w w')
  case atStart => exact ⟨(x4_3),(1),r3_,r3_,H',⟨Nat.le_refl _⟩,by repeat (first|exact Drawn0.refl _|apply Drawn0.step)⟩
  clear H'
  try clear c14;try clear c14b0
  obtain ⟨x4_2,x7_2,rfl,rfl,HA,HK2,⟨m2,rfl⟩⟩:=hrel
  cases gk with
  | zero => exact absurd HA.out (by simp [understudyref02_point.l0])
  | succ k2 =>
   have H:=HA.out
   clear HA
   simp only [understudyref02_point.l0] at H
   by_cases c15:x7_2 < x5_3
   rotate_left
   ·rw [if_neg c15] at H
    have c15b0:decide (x7_2 < x5_3)=false:=decide_eq_false c15
    clear c15
    by_cases c23:x4_2 < x6_3
    ·rw [if_pos c23] at H
     have c23b0:decide (x4_2 < x6_3)=true:=decide_eq_true c23
     clear c23
     simp only [Option.some.injEq,Prod.mk.injEq] at H
     obtain ⟨rfl,rfl⟩:=H
     go_wp2
     go_ret2
     exact ⟨by first|rfl|(simp;done)|(simp [*];done),by repeat (first|exact Drawn0.refl _|apply Drawn0.step)⟩
    rw [if_neg c23] at H
    have c23b0:decide (x4_2 < x6_3)=false:=decide_eq_false c23
    clear c23
    by_cases c24:x4_2 > 1114111
    ·rw [if_pos c24] at H
     have c24b0:decide (1114111 < x4_2)=true:=decide_eq_true c24
     clear c24
     simp only [Option.some.injEq,Prod.mk.injEq] at H
     obtain ⟨rfl,rfl⟩:=H
     go_wp2
     go_ret2
     exact ⟨by first|rfl|(simp;done)|(simp [*];done),by repeat (first|exact Drawn0.refl _|apply Drawn0.step)⟩
    rw [if_neg c24] at H
    have c24b0:decide (1114111 < x4_2)=false:=decide_eq_false c24
    clear c24
    by_cases c25:x4_2 ≥ 55296
    ·rw [if_pos c25] at H
     have c25b0:decide (55296≤x4_2)=true:=decide_eq_true c25
     clear c25
     by_cases c26:x4_2≤57343
     ·rw [if_pos c26] at H
      have c26b0:decide (x4_2≤57343)=true:=decide_eq_true c26
      clear c26
      simp only [Option.some.injEq,Prod.mk.injEq] at H
      obtain ⟨rfl,rfl⟩:=H
      go_wp2
      go_ret2
      exact ⟨by first|rfl|(simp;done)|(simp [*];done),by repeat (first|exact Drawn0.refl _|apply Drawn0.step)⟩
     rw [if_neg c26] at H
     have c26b0:decide (x4_2≤57343)=false:=decide_eq_false c26
     clear c26
     simp only [Option.some.injEq,Prod.mk.injEq] at H
     obtain ⟨rfl,rfl⟩:=H
     go_wp2
     go_ret2
     exact ⟨by first|rfl|(simp;done)|(simp [*];done),by repeat (first|exact Drawn0.refl _|apply Drawn0.step)⟩
    rw [if_neg c25] at H
    have c25b0:decide (55296≤x4_2)=false:=decide_eq_false c25
    clear c25
    simp only [Option.some.injEq,Prod.mk.injEq] at H
    obtain ⟨rfl,rfl⟩:=H
    go_wp2
    go_ret2
    exact ⟨by first|rfl|(simp;done)|(simp [*];done),by repeat (first|exact Drawn0.refl _|apply Drawn0.step)⟩
   rw [if_pos c15] at H
   have c15b0:decide (x7_2 < x5_3)=true:=decide_eq_true c15
   clear c15
   by_cases c16:0≤x7_2
   rotate_left
   ·rw [if_neg c16] at H
    exact absurd H (by simp)
   rw [if_pos c16] at H
   have c16b0:decide (0≤x7_2)=true:=decide_eq_true c16
   clear c16
   by_cases c17:x7_2 < (a0.size:Int)
   rotate_left
   ·rw [if_neg c17] at H
    exact absurd H (by simp)
   rw [if_pos c17] at H
   have c17b0:decide (x7_2 < (a0.size:Int))=true:=decide_eq_true c17
   clear c17
   by_cases c19:(bt a0 x7_2) < 128
   ·rw [if_pos c19] at H
    have c19b0:decide ((bt a0 x7_2) < 128)=true:=decide_eq_true c19
    clear c19
    simp only [Option.some.injEq,Prod.mk.injEq] at H
    obtain ⟨rfl,rfl⟩:=H
    have p18:0≤(x7_2:Int):=od_
    have q18:x7_2 < (a0.size:Int):=od_
    have hx18:=bt_at a0 x7_2
    replace p18:=eq_true p18
    replace q18:=eq_true q18
    go_wp2
    go_ret2
    exact ⟨by first|rfl|(simp;done)|(simp [*];done),by repeat (first|exact Drawn0.refl _|apply Drawn0.step)⟩
   rw [if_neg c19] at H
   have c19b0:decide ((bt a0 x7_2) < 128)=false:=decide_eq_false c19
   clear c19
   by_cases c21:(bt a0 x7_2) > 191
   ·rw [if_pos c21] at H
    have c21b0:decide (191 < (bt a0 x7_2))=true:=decide_eq_true c21
    clear c21
    simp only [Option.some.injEq,Prod.mk.injEq] at H
    obtain ⟨rfl,rfl⟩:=H
    have p18:0≤(x7_2:Int):=od_
    have q18:x7_2 < (a0.size:Int):=od_
    have hx18:=bt_at a0 x7_2
    replace p18:=eq_true p18
    replace q18:=eq_true q18
    have p20:0≤(x7_2:Int):=od_
    have q20:x7_2 < (a0.size:Int):=od_
    have hx20:=bt_at a0 x7_2
    replace p20:=eq_true p20
    replace q20:=eq_true q20
    go_wp2
    go_ret2
    exact ⟨by first|rfl|(simp;done)|(simp [*];done),by repeat (first|exact Drawn0.refl _|apply Drawn0.step)⟩
   rw [if_neg c21] at H
   have c21b0:decide (191 < (bt a0 x7_2))=false:=decide_eq_false c21
   clear c21
   have H':=am_ H
   clear H
   have p18:0≤(x7_2:Int):=od_
   have q18:x7_2 < (a0.size:Int):=od_
   have hx18:=bt_at a0 x7_2
   replace p18:=eq_true p18
   replace q18:=eq_true q18
   have p20:0≤(x7_2:Int):=od_
   have q20:x7_2 < (a0.size:Int):=od_
   have hx20:=bt_at a0 x7_2
   replace p20:=eq_true p20
   replace q20:=eq_true q20
   have p22:0≤(x7_2:Int):=od_
   have q22:x7_2 < (a0.size:Int):=od_
   have hx22:=bt_at a0 x7_2
   replace p22:=eq_true p22
   replace q22:=eq_true q22
   go_wp2
   go_roundg k2
   case measure => have:=HJ3.out;have:=HK2.out;omega
   case rel => exact ⟨(Go.bits .or .i64 (wrap64 (x4_2 * 64)) (wrap64 (Go.bits .and .u8 (bt a0 x7_2) 63))),(wrap64 (x7_2 + 1)),r3_,r3_,H',⟨by have:=HJ3.out;have:=HK2.out;omega⟩,by repeat (first|exact Drawn0.refl _|apply Drawn0.step)⟩
def understudyref02_unit.j0:Nat→Int→Bool→Option (List Int)
 | 0,_,_ => none
 | k + 1,x0,x3 => if x3=true then (some (([(x0) % 256]:List Int))) else (if x0≤2047 then (some (([(wrap64 (192 + (wrap64 (Int.tdiv x0 64)))) % 256,(wrap64 (128 + (Int.tmod x0 64))) % 256]:List Int))) else (some (([(wrap64 (224 + (wrap64 (Int.tdiv x0 4096)))) % 256,(wrap64 (128 + (Int.tmod (wrap64 (Int.tdiv x0 64)) 64))) % 256,(wrap64 (128 + (Int.tmod x0 64))) % 256]:List Int))))
def understudyref02_unit.f (k:Nat) (a0:Int):Option (List Int):=if a0 ≥ 1 then (understudyref02_unit.j0 k a0 (decide (a0≤127))) else (understudyref02_unit.j0 k a0 false)
set_option maxHeartbeats 80000000 in
set_option maxRecDepth 100000 in
theorem understudyref02_unit.calls (k:Nat) (a0:Int) (r:List Int) (w:World) (h:understudyref02_unit.f k a0=some r) :
  Calls Tryz.prog 85 #[.int .i64 a0] w fun e w' => ∃ v0_:Value,e=.returned (v0_)∧Kd.R (Kd.int .u8) 5 w' w.heap.size (fun _ => True) v0_ r∧Below w.heap.size w w':=by
 have HB:=am_ (Below.refl w.heap.size w)
 have H:(if a0 ≥ 1 then (understudyref02_unit.j0 k a0 (decide (a0≤127))) else (understudyref02_unit.j0 k a0 false))=some r:=h
 clear h
 have HC2:=am_ H
 clear H
 go_enter Tryz.func85,Tryz.ntmps85
 go_upto_region 1 with (fail)
 go_cut [3] (fun v3 wc => ∃ (kq:Nat) (x3_1:Bool),v3=.bool x3_1∧Aside0 (understudyref02_unit.j0 kq a0 x3_1=some r)∧Aside0 (kq≤k)∧Aside0 (Below w.heap.size w wc))
 case first =>
  have H:=HC2.out
  clear HC2
  by_cases c3:a0 ≥ 1
  ·rw [if_pos c3] at H
   have c3b0:decide (1≤a0)=true:=decide_eq_true c3
   clear c3
   (first|rw [c3b0]|(simp only [i64_w,i32_w];rw [c3b0])|skip)
   have H':=am_ H
   clear H
   go_wp2
   go_meet
   case rel => exact ⟨_,(decide (a0≤127)),r3_,H',⟨by first|omega|exact Nat.le_refl _⟩,⟨bl_⟩⟩
  rw [if_neg c3] at H
  have c3b0:decide (1≤a0)=false:=decide_eq_false c3
  clear c3
  (first|rw [c3b0]|(simp only [i64_w,i32_w];rw [c3b0])|skip)
  have H':=am_ H
  clear H
  go_wp2
  go_meet
  case rel => exact ⟨_,(false),r3_,H',⟨by first|omega|exact Nat.le_refl _⟩,⟨bl_⟩⟩
 clear HC2
 obtain ⟨kq,x3_1,rfl,HA,HJ1,HB⟩:=hcut
 cases kq with
 | zero => exact absurd HA.out (by simp [understudyref02_unit.j0])
 | succ kj1 =>
  have H:=HA.out
  clear HA
  simp only [understudyref02_unit.j0] at H
  by_cases c4:x3_1=true
  ·subst c4
   rw [if_pos rfl] at H
   obtain ⟨y220,hy220⟩:∃ y_:List Int,y_=(([(a0) % 256]:List Int)):=⟨_,rfl⟩
   replace H:(some y220)=some r:=by first|(rw [hy220];with_reducible exact H)|(have H2_:=(Option.bind_some _ _).symm.trans H;rw [hy220];with_reducible exact H2_)|(have H2_:=(Option.bind_some _ _).symm.trans H;with_reducible exact H2_)|with_reducible exact H|(rw [hy220];exact H)|exact H
   have Ny220:=am_ hy220
   clear hy220
   obtain rfl:=Option.some.inj H
   go_wp2_with (first|((with_reducible refine gate_dst (N:=12) rfl ?_);refine Kd.R_lit (Kd.int .u8) _ 5 ?hg (N:=12) ?hd (xs:=([(a0) % 256]:List Int)) (inner:=[.int .u8 ((a0) % 256)]) (ok:=fun _ => True) (okp:=fun _ => True) ?hr ?hp (fun _ hk => hk) trivial (Below.refl _ _) (Nat.le_refl _) (by simp) ?_;(case hd => rfl);(case hg => rfl);(case hr => first|(go_simp;done)|(go_simp;rfl));(case hp => exact (Reps.one (show Kd.M (Kd.int .u8) _ _ _ ((a0) % 256) [.int .u8 ((a0) % 256)] from rfl) (Reps.none _ _)));intro v221 w5 ho6 hb hg_ hnew_;clear hg_ hnew_;(first|rw [← Ny220.out] at ho6|(simp only [Int.reduceToNat] at ho6;rw [← Ny220.out] at ho6));have n0_:=am_ (Kd.R_lower ho6 (below_size bl_));have n1_:=am_ (below_step bl_ hb);clear HB;have HO222:=n0_;have HB:=n1_;clear n0_ n1_;clear hb ho6))
   go_ret
   exact ⟨_,ew_,kr_ HO222.out,bl_⟩
  replace c4:=Bool.eq_false_iff.mpr c4
  subst c4
  rw [if_neg (show ¬ (false=true) by decide)] at H
  by_cases c7:a0≤2047
  ·rw [if_pos c7] at H
   have c7b0:decide (a0≤2047)=true:=decide_eq_true c7
   clear c7
   obtain ⟨y223,hy223⟩:∃ y_:List Int,y_=(([(wrap64 (192 + (wrap64 (Int.tdiv a0 64)))) % 256,(wrap64 (128 + (Int.tmod a0 64))) % 256]:List Int)):=⟨_,rfl⟩
   replace H:(some y223)=some r:=by first|(rw [hy223];with_reducible exact H)|(have H2_:=(Option.bind_some _ _).symm.trans H;rw [hy223];with_reducible exact H2_)|(have H2_:=(Option.bind_some _ _).symm.trans H;with_reducible exact H2_)|with_reducible exact H|(rw [hy223];exact H)|exact H
   have Ny223:=am_ hy223
   clear hy223
   obtain rfl:=Option.some.inj H
   go_wp2_with (first|((with_reducible refine gate_dst (N:=24) rfl ?_);refine Kd.R_lit (Kd.int .u8) _ 5 ?hg (N:=24) ?hd (xs:=([(wrap64 (192 + (wrap64 (Int.tdiv a0 64)))) % 256,(wrap64 (128 + (Int.tmod a0 64))) % 256]:List Int)) (inner:=[.int .u8 ((wrap64 (192 + (wrap64 (Int.tdiv a0 64)))) % 256),.int .u8 ((wrap64 (128 + (Int.tmod a0 64))) % 256)]) (ok:=fun _ => True) (okp:=fun _ => True) ?hr ?hp (fun _ hk => hk) trivial (Below.refl _ _) (Nat.le_refl _) (by simp) ?_;(case hd => rfl);(case hg => rfl);(case hr => first|(go_simp;done)|(go_simp;rfl));(case hp => exact (Reps.one (show Kd.M (Kd.int .u8) _ _ _ ((wrap64 (192 + (wrap64 (Int.tdiv a0 64)))) % 256) [.int .u8 ((wrap64 (192 + (wrap64 (Int.tdiv a0 64)))) % 256)] from rfl) (Reps.one (show Kd.M (Kd.int .u8) _ _ _ ((wrap64 (128 + (Int.tmod a0 64))) % 256) [.int .u8 ((wrap64 (128 + (Int.tmod a0 64))) % 256)] from rfl) (Reps.none _ _))));intro v224 w8 ho9 hb hg_ hnew_;clear hg_ hnew_;(first|rw [← Ny223.out] at ho9|(simp only [Int.reduceToNat] at ho9;rw [← Ny223.out] at ho9));have n0_:=am_ (Kd.R_lower ho9 (below_size bl_));have n1_:=am_ (below_step bl_ hb);clear HB;have HO225:=n0_;have HB:=n1_;clear n0_ n1_;clear hb ho9))
   go_ret
   exact ⟨_,ew_,kr_ HO225.out,bl_⟩
  rw [if_neg c7] at H
  have c7b0:decide (a0≤2047)=false:=decide_eq_false c7
  clear c7
  obtain ⟨y226,hy226⟩:∃ y_:List Int,y_=(([(wrap64 (224 + (wrap64 (Int.tdiv a0 4096)))) % 256,(wrap64 (128 + (Int.tmod (wrap64 (Int.tdiv a0 64)) 64))) % 256,(wrap64 (128 + (Int.tmod a0 64))) % 256]:List Int)):=⟨_,rfl⟩
  replace H:(some y226)=some r:=by first|(rw [hy226];with_reducible exact H)|(have H2_:=(Option.bind_some _ _).symm.trans H;rw [hy226];with_reducible exact H2_)|(have H2_:=(Option.bind_some _ _).symm.trans H;with_reducible exact H2_)|with_reducible exact H|(rw [hy226];exact H)|exact H
  have Ny226:=am_ hy226
  clear hy226
  obtain rfl:=Option.some.inj H
  go_wp2_with (first|((with_reducible refine gate_dst (N:=38) rfl ?_);refine Kd.R_lit (Kd.int .u8) _ 5 ?hg (N:=38) ?hd (xs:=([(wrap64 (224 + (wrap64 (Int.tdiv a0 4096)))) % 256,(wrap64 (128 + (Int.tmod (wrap64 (Int.tdiv a0 64)) 64))) % 256,(wrap64 (128 + (Int.tmod a0 64))) % 256]:List Int)) (inner:=[.int .u8 ((wrap64 (224 + (wrap64 (Int.tdiv a0 4096)))) % 256),.int .u8 ((wrap64 (128 + (Int.tmod (wrap64 (Int.tdiv a0 64)) 64))) % 256),.int .u8 ((wrap64 (128 + (Int.tmod a0 64))) % 256)]) (ok:=fun _ => True) (okp:=fun _ => True) ?hr ?hp (fun _ hk => hk) trivial (Below.refl _ _) (Nat.le_refl _) (by simp) ?_;(case hd => rfl);(case hg => rfl);(case hr => first|(go_simp;done)|(go_simp;rfl));(case hp => exact (Reps.one (show Kd.M (Kd.int .u8) _ _ _ ((wrap64 (224 + (wrap64 (Int.tdiv a0 4096)))) % 256) [.int .u8 ((wrap64 (224 + (wrap64 (Int.tdiv a0 4096)))) % 256)] from rfl) (Reps.one (show Kd.M (Kd.int .u8) _ _ _ ((wrap64 (128 + (Int.tmod (wrap64 (Int.tdiv a0 64)) 64))) % 256) [.int .u8 ((wrap64 (128 + (Int.tmod (wrap64 (Int.tdiv a0 64)) 64))) % 256)] from rfl) (Reps.one (show Kd.M (Kd.int .u8) _ _ _ ((wrap64 (128 + (Int.tmod a0 64))) % 256) [.int .u8 ((wrap64 (128 + (Int.tmod a0 64))) % 256)] from rfl) (Reps.none _ _)))));intro v227 w10 ho11 hb hg_ hnew_;clear hg_ hnew_;(first|rw [← Ny226.out] at ho11|(simp only [Int.reduceToNat] at ho11;rw [← Ny226.out] at ho11));have n0_:=am_ (Kd.R_lower ho11 (below_size bl_));have n1_:=am_ (below_step bl_ hb);clear HB;have HO228:=n0_;have HB:=n1_;clear n0_ n1_;clear hb ho11))
  go_ret
  exact ⟨_,ew_,kr_ HO228.out,bl_⟩
def understudyref02_Encode.l0:Nat→ByteArray→List Int→Option (List Int × Int)
 | 0,_,_ => none
 | k + 1,x0,x4 => if (x0.size:Int) > 0 then ((understudyref02_point.f k x0).bind fun bt229 => (if bt229.2=0 then (some (([]:List Int),20)) else (if 0≤bt229.2 then (if bt229.2≤(x0.size:Int) then (if bt229.1 ≥ 65536 then ((understudyref02_unit.f k (wrap64 (55296 + (wrap64 (Int.tdiv (wrap64 (bt229.1 - 65536)) 1024))))).bind fun t231 => (if x4.length + t231.length < 140737488355328 then ((some (x4++t231:List Int)).bind fun y234 => ((understudyref02_unit.f k (wrap64 (56320 + (Int.tmod (wrap64 (bt229.1 - 65536)) 1024)))).bind fun t237 => (if y234.length + t237.length < 140737488355328 then (understudyref02_Encode.l0 k (x0.extract (bt229.2:Int).toNat x0.size) (y234++t237)) else (none)))) else (none))) else ((understudyref02_unit.f k bt229.1).bind fun t243 => (if x4.length + t243.length < 140737488355328 then (understudyref02_Encode.l0 k (x0.extract (bt229.2:Int).toNat x0.size) (x4++t243)) else (none)))) else (none)) else (none)))) else (some (x4,0))
def understudyref02_Encode.f (k:Nat) (a0:ByteArray):Option (List Int × Int):=understudyref02_Encode.l0 k a0 ([]:List Int)
set_option maxHeartbeats 80000000 in
set_option maxRecDepth 100000 in
theorem understudyref02_Encode.calls (k:Nat) (a0:ByteArray) (r1:List Int) (r2:Int) (w:World) (h:understudyref02_Encode.f k a0=some (r1,r2)) :
  Calls Tryz.prog 70 #[.string a0] w fun e w' => ∃ v0_:Value,e=.returned (.tuple #[v0_,.int .i64 r2])∧Kd.R (Kd.int .u8) 5 w' w.heap.size (fun _ => True) v0_ r1∧Below w.heap.size w w':=by
 have HB:=am_ (Below.refl w.heap.size w)
 have H:(understudyref02_Encode.l0 k a0 ([]:List Int))=some (r1,r2):=h
 clear h
 have H':=am_ H
 clear H
 go_enter Tryz.func70,Tryz.ntmps70
 go_wp2
 go_loopg [0,4] k (fun kq v0 v4 w' => ∃ (x0_1:ByteArray) (x4_1:List Int),v0=.string x0_1∧Aside0 (understudyref02_Encode.l0 kq x0_1 x4_1=some (r1,r2))∧Aside0 (kq≤k)∧Aside0 (Kd.R (Kd.int .u8) 5 w' w.heap.size (fun _ => True) v4 x4_1)∧Aside0 (Below w.heap.size w w'))
 case atStart => exact ⟨(a0),(([]:List Int)),r3_,H',⟨Nat.le_refl _⟩,⟨by first|exact Kd.R_nil _ _ _ _ _|exact Kd.N_nil _ _ _ _ _|exact Kd.V_nil _ _ _ _ _|exact Kd.Q_nil _ _ _ _ _|exact Kd.S_nil _ _ _ _ _⟩,⟨bl_⟩⟩
 clear H'
 obtain ⟨x0_1,x4_1,rfl,HA,HK1,HO_4,HB⟩:=hrel
 cases gk with
 | zero => exact absurd HA.out (by simp [understudyref02_Encode.l0])
 | succ k1 =>
  have H:=HA.out
  clear HA
  simp only [understudyref02_Encode.l0] at H
  by_cases c2:(x0_1.size:Int) > 0
  rotate_left
  ·rw [if_neg c2] at H
   have c2b0:decide (0 < (x0_1.size:Int))=false:=decide_eq_false c2
   have c2b1:decide (0 < x0_1.size)=false:=decide_eq_false (by omega)
   clear c2
   simp only [Option.some.injEq,Prod.mk.injEq] at H
   obtain ⟨rfl,rfl⟩:=H
   go_wp2
   go_ret2
   exact ⟨_,ew_,kr_ HO_4.out,bl_⟩
  rw [if_pos c2] at H
  have c2b0:decide (0 < (x0_1.size:Int))=true:=decide_eq_true c2
  have c2b1:decide (0 < x0_1.size)=true:=decide_eq_true (by omega)
  clear c2
  replace H:=Option.bind_eq_some_iff.mp H
  obtain ⟨⟨t229,t230⟩,A30,H⟩:=H
  try dsimp only at H
  have A3:=am_ A30
  clear A30
  by_cases c4:t230=0
  ·rw [if_pos c4] at H
   have c4b0:(t230==0)=true:=beq_iff_eq.mpr c4
   have c4b1:(t230 != 0)=false:=bne_eq_false_iff_eq.mpr c4
   clear c4
   simp only [Option.some.injEq,Prod.mk.injEq] at H
   obtain ⟨rfl,rfl⟩:=H
   go_wp2_with (first|(refine callA_ (f:=84) (some 12) Tryz.func84 #[.string x0_1] ?_;(with_reducible refine (understudyref02_point.calls k1 x0_1 t229 t230 _ A3.out).mono ?_);rintro e w' ⟨rfl,⟨nd,rfl⟩⟩;refine ⟨_,rfl,?_⟩))
   go_ret2
   exact ⟨_,ew_,by first|exact Kd.R_nil _ _ _ _ _|exact Kd.N_nil _ _ _ _ _|exact Kd.V_nil _ _ _ _ _|exact Kd.Q_nil _ _ _ _ _|exact Kd.S_nil _ _ _ _ _,bl_⟩
  rw [if_neg c4] at H
  have c4b0:(t230==0)=false:=beq_eq_false_iff_ne.mpr c4
  have c4b1:(t230 != 0)=true:=bne_iff_ne.mpr c4
  by_cases c5:0≤t230
  rotate_left
  ·rw [if_neg c5] at H
   exact absurd H (by simp)
  rw [if_pos c5] at H
  have c5b0:=eq_true c5
  have c5b1:decide (0≤t230)=true:=decide_eq_true c5
  clear c5
  by_cases c6:t230≤(x0_1.size:Int)
  rotate_left
  ·rw [if_neg c6] at H
   exact absurd H (by simp)
  rw [if_pos c6] at H
  have c6b0:=eq_true c6
  have c6b1:decide (t230≤(x0_1.size:Int))=true:=decide_eq_true c6
  clear c6
  by_cases c7:t229 ≥ 65536
  ·rw [if_pos c7] at H
   have c7b0:decide (65536≤t229)=true:=decide_eq_true c7
   clear c7
   replace H:=Option.bind_eq_some_iff.mp H
   obtain ⟨t231,A80,H⟩:=H
   try dsimp only at H
   have A8:=am_ A80
   clear A80
   by_cases c9:x4_1.length + t231.length < 140737488355328
   rotate_left
   ·rw [if_neg c9] at H
    exact absurd H (by simp)
   rw [if_pos c9] at H
   have LMc9:=am_ c9
   clear c9
   obtain ⟨y234,hy234⟩:∃ y_:List Int,y_=(x4_1++t231):=⟨_,rfl⟩
   replace H:((understudyref02_unit.f k1 (wrap64 (56320 + (Int.tmod (wrap64 (t229 - 65536)) 1024)))).bind fun t237 => (if y234.length + t237.length < 140737488355328 then (understudyref02_Encode.l0 k1 (x0_1.extract (t230:Int).toNat x0_1.size) (y234++t237)) else (none)))=some (r1,r2):=by first|(rw [hy234];with_reducible exact H)|(have H2_:=(Option.bind_some _ _).symm.trans H;rw [hy234];with_reducible exact H2_)|(have H2_:=(Option.bind_some _ _).symm.trans H;with_reducible exact H2_)|with_reducible exact H|(rw [hy234];exact H)|exact H
   have Ny234:=am_ hy234
   clear hy234
   replace H:=Option.bind_eq_some_iff.mp H
   obtain ⟨t237,A100,H⟩:=H
   try dsimp only at H
   have A10:=am_ A100
   clear A100
   by_cases c11:y234.length + t237.length < 140737488355328
   ·rw [if_pos c11] at H
    have LMc11:=am_ c11
    clear c11
    obtain ⟨y240,hy240⟩:∃ y_:List Int,y_=(y234++t237):=⟨_,rfl⟩
    replace H:(understudyref02_Encode.l0 k1 (x0_1.extract (t230:Int).toNat x0_1.size) y240)=some (r1,r2):=by first|(rw [hy240];with_reducible exact H)|(have H2_:=(Option.bind_some _ _).symm.trans H;rw [hy240];with_reducible exact H2_)|(have H2_:=(Option.bind_some _ _).symm.trans H;with_reducible exact H2_)|with_reducible exact H|(rw [hy240];exact H)|exact H
    have Ny240:=am_ hy240
    clear hy240
    have H':=am_ H
    clear H
    go_wp2_with (first|(refine callA_ (f:=84) (some 12) Tryz.func84 #[.string x0_1] ?_;(with_reducible refine (understudyref02_point.calls k1 x0_1 t229 t230 _ A3.out).mono ?_);rintro e w' ⟨rfl,⟨nd,rfl⟩⟩;refine ⟨_,rfl,?_⟩)|(refine callA_ (f:=85) (some 27) Tryz.func85 #[.int .i64 (wrap64 (55296 + (wrap64 (Int.tdiv (wrap64 (t229 - 65536)) 1024))))] ?_;(with_reducible refine (understudyref02_unit.calls k1 (wrap64 (55296 + (wrap64 (Int.tdiv (wrap64 (t229 - 65536)) 1024)))) t231 _ A8.out).mono ?_);rintro e w12 ⟨v232,rfl,ho0,hb⟩;refine ⟨_,rfl,?_⟩;have n0_:=am_ (Kd.R_elder' (kr_ HO_4.out) (Kd.R_base ho0) hb);have n1_:=am_ (Kd.R_lower (Kd.R_new' ho0 (Kd.R_lt (kr_ HO_4.out))) (below_size bl_));have n2_:=am_ (below_step bl_ hb);clear HO_4;clear HB;have HO_4:=n0_;have HO233:=n1_;have HB:=n2_;clear n0_ n1_ n2_;(try clear hb);(try clear hb2);(try clear hk);(try clear hi);(try clear ho0);obtain ⟨Ao14,co14,eo14⟩:=Kd.R_slice HO233.out;subst eo14)|((with_reducible refine gate_builtin (b:=.append) (xs:=#[.tmp 22,.tmp 27]) rfl ?_);at_builtin;refine Kd.R_append_rows (Kd.int .u8) (w0:=w) w.heap.size rfl (.tmp 22) (.tmp 27) 22 5 (.int .u8 0) 1 rfl Tryz.underlying22 info5 rfl (by decide) (by omega) u4 x4_1 t231 _ _ _ (fun k_ => some k_ ≠ (.slice Ao14 t231.length co14:Value).ownBlock) (fun _ => False) rfl rfl ?aO ?aR (fun _ _ h => h) (fun _ h => h.elim) ?aF ?aB ?aS ?aL ?_;(case aR => exact kc_ (Kd.R_reads' HO233.out).2.2);(case aB => exact bl_);(case aF => exact (fun k_ hk => Kd.fresh' (Kd.R_lt (kr_ HO233.out)) k_ hk));(case aO => exact (by (with_reducible repeat (first|apply Kd.R_alloc|apply Kd.R_drewN|apply Kd.R_drew));exact Kd.R_mono HO_4.out (fun _ hk => hk.2)));(case aS => exact (below_size bl_));(case aL => have:=LMc9.out;omega);intro v235 w13 ho hb hg hat;rw [← Ny234.out] at ho;have n0_:=am_ (Kd.R_after (ok:=(fun _ => True)) (kr_ HO233.out) hg hat);have n1_:=am_ (hb);have n2_:=am_ (ho);clear HO233;clear HB;clear HO_4;have HO233:=n0_;have HB:=n1_;have HO236:=n2_;clear n0_ n1_ n2_;clear ho hb hg hat)|(refine callA_ (f:=85) (some 34) Tryz.func85 #[.int .i64 (wrap64 (56320 + (Int.tmod (wrap64 (t229 - 65536)) 1024)))] ?_;(with_reducible refine (understudyref02_unit.calls k1 (wrap64 (56320 + (Int.tmod (wrap64 (t229 - 65536)) 1024))) t237 _ A10.out).mono ?_);rintro e w15 ⟨v238,rfl,ho0,hb⟩;refine ⟨_,rfl,?_⟩;have n0_:=am_ (Kd.R_elder' (kr_ HO233.out) (Kd.R_base ho0) hb);have n1_:=am_ (Kd.R_elder' (kr_ HO236.out) (Kd.R_base ho0) hb);have n2_:=am_ (Kd.R_lower (Kd.R_new' (Kd.R_new' ho0 (Kd.R_lt (kr_ HO233.out))) (Kd.R_lt (kr_ HO236.out))) (below_size bl_));have n3_:=am_ (below_step bl_ hb);clear HO233;clear HO236;clear HB;have HO233:=n0_;have HO236:=n1_;have HO239:=n2_;have HB:=n3_;clear n0_ n1_ n2_ n3_;(try clear hb);(try clear hb2);(try clear hk);(try clear hi);(try clear ho0);obtain ⟨Ao17,co17,eo17⟩:=Kd.R_slice HO239.out;subst eo17)|((with_reducible refine gate_builtin (b:=.append) (xs:=#[.tmp 29,.tmp 34]) rfl ?_);at_builtin;refine Kd.R_append_rows (Kd.int .u8) (w0:=w) w.heap.size rfl (.tmp 29) (.tmp 34) 22 5 (.int .u8 0) 1 rfl Tryz.underlying22 info5 rfl (by decide) (by omega) v235 y234 t237 _ _ _ (fun k_ => some k_ ≠ (.slice Ao14 t231.length co14:Value).ownBlock∧some k_ ≠ (.slice Ao17 t237.length co17:Value).ownBlock) (fun _ => False) rfl rfl ?aO ?aR (fun _ _ h => h) (fun _ h => h.elim) ?aF ?aB ?aS ?aL ?_;(case aR => exact kc_ (Kd.R_reads' HO239.out).2.2);(case aB => exact bl_);(case aF => exact (fun k_ hk => ⟨Kd.fresh' (Kd.R_lt (kr_ HO233.out)) k_ hk,Kd.fresh' (Kd.R_lt (kr_ HO239.out)) k_ hk⟩));(case aO => exact (kr_ HO236.out));(case aS => exact (below_size bl_));(case aL => have:=LMc11.out;omega);intro v241 w16 ho hb hg hat;rw [← Ny240.out] at ho;have n0_:=am_ (Kd.R_after (ok:=(fun k_ => some k_ ≠ (.slice Ao17 t237.length co17:Value).ownBlock)) (by (with_reducible repeat (first|apply Kd.R_alloc|apply Kd.R_drewN|apply Kd.R_drew));exact Kd.R_mono HO233.out (fun _ hk => ⟨hk.2,hk.1.2⟩)) hg hat);have n1_:=am_ (Kd.R_after (ok:=(fun k_ => some k_ ≠ (.slice Ao14 t231.length co14:Value).ownBlock)) (by (with_reducible repeat (first|apply Kd.R_alloc|apply Kd.R_drewN|apply Kd.R_drew));exact Kd.R_mono HO239.out (fun _ hk => ⟨hk.1.2,hk.2⟩)) hg hat);have n2_:=am_ (hb);have n3_:=am_ (ho);clear HO233;clear HO239;clear HB;clear HO236;have HO233:=n0_;have HO239:=n1_;have HB:=n2_;have HO242:=n3_;clear n0_ n1_ n2_ n3_;clear ho hb hg hat))
    go_roundg k1
    case measure => have:=HK1.out;omega
    case rel => exact ⟨(x0_1.extract (t230:Int).toNat x0_1.size),(y240),r3_,H',⟨by have:=HK1.out;omega⟩,⟨by (with_reducible repeat (first|apply Kd.R_alloc|apply Kd.R_drewN|apply Kd.R_drew));exact Kd.R_mono HO242.out (fun _ hk => trivial)⟩,⟨bl_⟩⟩
   rw [if_neg c11] at H
   exact absurd H (by simp)
  rw [if_neg c7] at H
  have c7b0:decide (65536≤t229)=false:=decide_eq_false c7
  clear c7
  replace H:=Option.bind_eq_some_iff.mp H
  obtain ⟨t243,A180,H⟩:=H
  try dsimp only at H
  have A18:=am_ A180
  clear A180
  by_cases c19:x4_1.length + t243.length < 140737488355328
  ·rw [if_pos c19] at H
   have LMc19:=am_ c19
   clear c19
   obtain ⟨y246,hy246⟩:∃ y_:List Int,y_=(x4_1++t243):=⟨_,rfl⟩
   replace H:(understudyref02_Encode.l0 k1 (x0_1.extract (t230:Int).toNat x0_1.size) y246)=some (r1,r2):=by first|(rw [hy246];with_reducible exact H)|(have H2_:=(Option.bind_some _ _).symm.trans H;rw [hy246];with_reducible exact H2_)|(have H2_:=(Option.bind_some _ _).symm.trans H;with_reducible exact H2_)|with_reducible exact H|(rw [hy246];exact H)|exact H
   have Ny246:=am_ hy246
   clear hy246
   have H':=am_ H
   clear H
   go_wp2_with (first|(refine callA_ (f:=84) (some 12) Tryz.func84 #[.string x0_1] ?_;(with_reducible refine (understudyref02_point.calls k1 x0_1 t229 t230 _ A3.out).mono ?_);rintro e w' ⟨rfl,⟨nd,rfl⟩⟩;refine ⟨_,rfl,?_⟩)|(refine callA_ (f:=85) (some 38) Tryz.func85 #[.int .i64 t229] ?_;(with_reducible refine (understudyref02_unit.calls k1 t229 t243 _ A18.out).mono ?_);rintro e w20 ⟨v244,rfl,ho0,hb⟩;refine ⟨_,rfl,?_⟩;have n0_:=am_ (Kd.R_elder' (kr_ HO_4.out) (Kd.R_base ho0) hb);have n1_:=am_ (Kd.R_lower (Kd.R_new' ho0 (Kd.R_lt (kr_ HO_4.out))) (below_size bl_));have n2_:=am_ (below_step bl_ hb);clear HO_4;clear HB;have HO_4:=n0_;have HO245:=n1_;have HB:=n2_;clear n0_ n1_ n2_;(try clear hb);(try clear hb2);(try clear hk);(try clear hi);(try clear ho0);obtain ⟨Ao22,co22,eo22⟩:=Kd.R_slice HO245.out;subst eo22)|((with_reducible refine gate_builtin (b:=.append) (xs:=#[.tmp 36,.tmp 38]) rfl ?_);at_builtin;refine Kd.R_append_rows (Kd.int .u8) (w0:=w) w.heap.size rfl (.tmp 36) (.tmp 38) 22 5 (.int .u8 0) 1 rfl Tryz.underlying22 info5 rfl (by decide) (by omega) u4 x4_1 t243 _ _ _ (fun k_ => some k_ ≠ (.slice Ao22 t243.length co22:Value).ownBlock) (fun _ => False) rfl rfl ?aO ?aR (fun _ _ h => h) (fun _ h => h.elim) ?aF ?aB ?aS ?aL ?_;(case aR => exact kc_ (Kd.R_reads' HO245.out).2.2);(case aB => exact bl_);(case aF => exact (fun k_ hk => Kd.fresh' (Kd.R_lt (kr_ HO245.out)) k_ hk));(case aO => exact (by (with_reducible repeat (first|apply Kd.R_alloc|apply Kd.R_drewN|apply Kd.R_drew));exact Kd.R_mono HO_4.out (fun _ hk => hk.2)));(case aS => exact (below_size bl_));(case aL => have:=LMc19.out;omega);intro v247 w21 ho hb hg hat;rw [← Ny246.out] at ho;have n0_:=am_ (Kd.R_after (ok:=(fun _ => True)) (kr_ HO245.out) hg hat);have n1_:=am_ (hb);have n2_:=am_ (ho);clear HO245;clear HB;clear HO_4;have HO245:=n0_;have HB:=n1_;have HO248:=n2_;clear n0_ n1_ n2_;clear ho hb hg hat))
   go_roundg k1
   case measure => have:=HK1.out;omega
   case rel => exact ⟨(x0_1.extract (t230:Int).toNat x0_1.size),(y246),r3_,H',⟨by have:=HK1.out;omega⟩,⟨by (with_reducible repeat (first|apply Kd.R_alloc|apply Kd.R_drewN|apply Kd.R_drew));exact Kd.R_mono HO248.out (fun _ hk => trivial)⟩,⟨bl_⟩⟩
  rw [if_neg c19] at H
  exact absurd H (by simp)
def understudyref04_is.f (l0:List (S61)) (a1:Int) (a2:Int):Option (Bool):=if a1 ≥ 1 then (if a1 < (l0.length:Int) then (if 0≤a1 then (some (((rd_T61 l0 a1).f0)==a2)) else (none)) else (some false)) else (some false)
set_option maxHeartbeats 80000000 in
set_option maxRecDepth 100000 in
theorem understudyref04_is.calls (A0:Option Addr) (c0:Nat) (l0:List (S61)) (a1:Int) (a2:Int) (r:Bool) (w:World) (hr0:Kd.C k61 w A0 l0.length l0) (hc0:l0.length≤c0) (h:understudyref04_is.f l0 a1 a2=some r) :
  Calls Tryz.prog 71 #[.slice A0 l0.length c0,.int .i64 a1,.int .i64 a2] w fun e w' => e=.returned (.bool r)∧Drawn0 w w':=by
 have HR0:=am_ hr0
 have HC0:=am_ hc0
 clear hr0 hc0
 have H:(if a1 ≥ 1 then (if a1 < (l0.length:Int) then (if 0≤a1 then (some (((rd_T61 l0 a1).f0)==a2)) else (none)) else (some false)) else (some false))=some r:=h
 clear h
 by_cases c4:a1 ≥ 1
 rotate_left
 ·rw [if_neg c4] at H
  have c4b0:decide (1≤a1)=false:=decide_eq_false c4
  clear c4
  obtain rfl:=Option.some.inj H
  go_enter Tryz.func71,Tryz.ntmps71
  go_wp2
  go_ret
  exact ⟨by first|rfl|(simp;done)|(simp [*];done),by repeat (first|exact Drawn0.refl _|apply Drawn0.step)⟩
 rw [if_pos c4] at H
 have c4b0:decide (1≤a1)=true:=decide_eq_true c4
 clear c4
 by_cases c5:a1 < (l0.length:Int)
 ·rw [if_pos c5] at H
  have c5b0:decide (a1 < (l0.length:Int))=true:=decide_eq_true c5
  clear c5
  by_cases c6:0≤a1
  ·rw [if_pos c6] at H
   have c6b0:decide (0≤a1)=true:=decide_eq_true c6
   clear c6
   obtain rfl:=Option.some.inj H
   have p249:0≤(a1:Int):=od_
   have q249:a1 < (l0.length:Int):=od_
   obtain ⟨ad249,e249,hx249_0,hx249_1,hx249_2,hx249_3,hx249_4⟩:=at_T61 HR0.out a1 p249 q249
   cases e249
   replace p249:=eq_true p249
   replace q249:=eq_true q249
   go_enter Tryz.func71,Tryz.ntmps71
   go_wp2
   go_ret
   exact ⟨by first|rfl|(simp;done)|(simp [*];done),by repeat (first|exact Drawn0.refl _|apply Drawn0.step)⟩
  rw [if_neg c6] at H
  exact absurd H (by simp)
 rw [if_neg c5] at H
 have c5b0:decide (a1 < (l0.length:Int))=false:=decide_eq_false c5
 clear c5
 obtain rfl:=Option.some.inj H
 go_enter Tryz.func71,Tryz.ntmps71
 go_wp2
 go_ret
 exact ⟨by first|rfl|(simp;done)|(simp [*];done),by repeat (first|exact Drawn0.refl _|apply Drawn0.step)⟩
end Go.Proofs.YtamdobdmjcgmoaaGreatDoor.Px
namespace Go.Proofs.YtamdobdmjcgmoaaGreatDoor.Px
open Go.RowKit Go.Proofs.YtamdobdmjcgmoaaGreatDoorW.PrintWords Go.Proofs.YtamdobdmjcgmoaaGreatDoorW.PrintLast Go.Proofs.YtamdobdmjcgmoaaGreatDoorW.PrintMore
attribute [local go_sem] max2_int min2_int max_two min_two max_three min_three max_four min_four
set_option linter.unusedVariables false
set_option linter.unusedSimpArgs false
def understudyref04_Text.f (l0:List (S61)) (a1:Int):Option (ByteArray × Bool):=(understudyref04_is.f l0 a1 1).bind fun t312 => (if t312=true then (if 0≤a1 then (if a1 < (l0.length:Int) then (some ((rd_T61 l0 a1).f1,true)) else (none)) else (none)) else (some ((⟨#[]⟩:ByteArray),false)))
set_option maxHeartbeats 80000000 in
set_option maxRecDepth 100000 in
theorem understudyref04_Text.calls (A0:Option Addr) (c0:Nat) (l0:List (S61)) (a1:Int) (r1:ByteArray) (r2:Bool) (w:World) (hr0:Kd.C k61 w A0 l0.length l0) (hc0:l0.length≤c0) (h:understudyref04_Text.f l0 a1=some (r1,r2)) :
  Calls Tryz.prog 54 #[.slice A0 l0.length c0,.int .i64 a1] w fun e w' => e=.returned (.tuple #[.string r1,.bool r2])∧Drawn0 w w':=by
 have HR0:=am_ hr0
 have HC0:=am_ hc0
 clear hr0 hc0
 have H:((understudyref04_is.f l0 a1 1).bind fun t312 => (if t312=true then (if 0≤a1 then (if a1 < (l0.length:Int) then (some ((rd_T61 l0 a1).f1,true)) else (none)) else (none)) else (some ((⟨#[]⟩:ByteArray),false))))=some (r1,r2):=h
 clear h
 replace H:=Option.bind_eq_some_iff.mp H
 obtain ⟨t312,A30,H⟩:=H
 try dsimp only at H
 have A3:=am_ A30
 clear A30
 by_cases c4:t312=true
 ·subst c4
  rw [if_pos rfl] at H
  by_cases c5:0≤a1
  ·rw [if_pos c5] at H
   have c5b0:decide (0≤a1)=true:=decide_eq_true c5
   clear c5
   by_cases c6:a1 < (l0.length:Int)
   ·rw [if_pos c6] at H
    have c6b0:decide (a1 < (l0.length:Int))=true:=decide_eq_true c6
    clear c6
    simp only [Option.some.injEq,Prod.mk.injEq] at H
    obtain ⟨rfl,rfl⟩:=H
    go_enter Tryz.func54,Tryz.ntmps54
    go_wp2_with (first|(refine callA_ (f:=71) (some 8) Tryz.func71 #[.slice A0 l0.length c0,.int .i64 a1,.int .i64 1] ?_;(with_reducible refine (understudyref04_is.calls _ _ l0 a1 1 true _ ?side1 ?side2 A3.out).mono ?_);(case side1 => exact kc_ HR0.out);(case side2 => exact HC0.out);rintro e w' ⟨rfl,⟨nd,rfl⟩⟩;refine ⟨_,rfl,?_⟩;have p313:0≤(a1:Int):=od_;have q313:a1 < (l0.length:Int):=od_;obtain ⟨ad313,e313,hx313_0,hx313_1,hx313_2,hx313_3,hx313_4⟩:=at_T61 HR0.out a1 p313 q313;cases e313;replace p313:=eq_true p313;replace q313:=eq_true q313))
    go_ret2
    exact ⟨by first|rfl|(simp;done)|(simp [*];done),by repeat (first|exact Drawn0.refl _|apply Drawn0.step)⟩
   rw [if_neg c6] at H
   exact absurd H (by simp)
  rw [if_neg c5] at H
  exact absurd H (by simp)
 replace c4:=Bool.eq_false_iff.mpr c4
 subst c4
 rw [if_neg (show ¬ (false=true) by decide)] at H
 simp only [Option.some.injEq,Prod.mk.injEq] at H
 obtain ⟨rfl,rfl⟩:=H
 go_enter Tryz.func54,Tryz.ntmps54
 go_wp2_with (first|(refine callA_ (f:=71) (some 8) Tryz.func71 #[.slice A0 l0.length c0,.int .i64 a1,.int .i64 1] ?_;(with_reducible refine (understudyref04_is.calls _ _ l0 a1 1 false _ ?side1 ?side2 A3.out).mono ?_);(case side1 => exact kc_ HR0.out);(case side2 => exact HC0.out);rintro e w' ⟨rfl,⟨nd,rfl⟩⟩;refine ⟨_,rfl,?_⟩))
 go_ret2
 exact ⟨by first|rfl|(simp;done)|(simp [*];done),by repeat (first|exact Drawn0.refl _|apply Drawn0.step)⟩
def understudyref04_Class.f (l0:List (S61)) (a1:Int):Option (ByteArray × Bool):=(understudyref04_is.f l0 a1 7).bind fun t314 => (if t314=true then (if 0≤a1 then (if a1 < (l0.length:Int) then ((understudyref04_Text.f l0 ((rd_T61 l0 a1).f3)).bind fun bt316 => (some (bt316.1,bt316.2))) else (none)) else (none)) else (some ((⟨#[]⟩:ByteArray),false)))
set_option maxHeartbeats 80000000 in
set_option maxRecDepth 100000 in
theorem understudyref04_Class.calls (A0:Option Addr) (c0:Nat) (l0:List (S61)) (a1:Int) (r1:ByteArray) (r2:Bool) (w:World) (hr0:Kd.C k61 w A0 l0.length l0) (hc0:l0.length≤c0) (h:understudyref04_Class.f l0 a1=some (r1,r2)) :
  Calls Tryz.prog 55 #[.slice A0 l0.length c0,.int .i64 a1] w fun e w' => e=.returned (.tuple #[.string r1,.bool r2])∧Drawn0 w w':=by
 have HR0:=am_ hr0
 have HC0:=am_ hc0
 clear hr0 hc0
 have H:((understudyref04_is.f l0 a1 7).bind fun t314 => (if t314=true then (if 0≤a1 then (if a1 < (l0.length:Int) then ((understudyref04_Text.f l0 ((rd_T61 l0 a1).f3)).bind fun bt316 => (some (bt316.1,bt316.2))) else (none)) else (none)) else (some ((⟨#[]⟩:ByteArray),false))))=some (r1,r2):=h
 clear h
 replace H:=Option.bind_eq_some_iff.mp H
 obtain ⟨t314,A30,H⟩:=H
 try dsimp only at H
 have A3:=am_ A30
 clear A30
 by_cases c4:t314=true
 ·subst c4
  rw [if_pos rfl] at H
  by_cases c5:0≤a1
  ·rw [if_pos c5] at H
   have c5b0:decide (0≤a1)=true:=decide_eq_true c5
   clear c5
   by_cases c6:a1 < (l0.length:Int)
   ·rw [if_pos c6] at H
    have c6b0:decide (a1 < (l0.length:Int))=true:=decide_eq_true c6
    clear c6
    replace H:=Option.bind_eq_some_iff.mp H
    obtain ⟨⟨t316,t317⟩,A70,H⟩:=H
    try dsimp only at H
    have A7:=am_ A70
    clear A70
    simp only [Option.some.injEq,Prod.mk.injEq] at H
    obtain ⟨rfl,rfl⟩:=H
    go_enter Tryz.func55,Tryz.ntmps55
    go_wp2_with (first|(refine callA_ (f:=71) (some 8) Tryz.func71 #[.slice A0 l0.length c0,.int .i64 a1,.int .i64 7] ?_;(with_reducible refine (understudyref04_is.calls _ _ l0 a1 7 true _ ?side1 ?side2 A3.out).mono ?_);(case side1 => exact kc_ HR0.out);(case side2 => exact HC0.out);rintro e w' ⟨rfl,⟨nd,rfl⟩⟩;refine ⟨_,rfl,?_⟩;have p315:0≤(a1:Int):=od_;have q315:a1 < (l0.length:Int):=od_;obtain ⟨ad315,e315,hx315_0,hx315_1,hx315_2,hx315_3,hx315_4⟩:=at_T61 HR0.out a1 p315 q315;cases e315;replace p315:=eq_true p315;replace q315:=eq_true q315)|(refine callA_ (f:=54) (some 16) Tryz.func54 #[.slice (some ad315) l0.length c0,.int .i64 ((rd_T61 l0 a1).f3)] ?_;(with_reducible refine (understudyref04_Text.calls _ _ l0 ((rd_T61 l0 a1).f3) t316 t317 _ ?side1 ?side2 A7.out).mono ?_);(case side1 => exact kc_ HR0.out);(case side2 => exact HC0.out);rintro e w' ⟨rfl,⟨nd,rfl⟩⟩;refine ⟨_,rfl,?_⟩))
    go_ret2
    exact ⟨by first|rfl|(simp;done)|(simp [*];done),by repeat (first|exact Drawn0.refl _|apply Drawn0.step)⟩
   rw [if_neg c6] at H
   exact absurd H (by simp)
  rw [if_neg c5] at H
  exact absurd H (by simp)
 replace c4:=Bool.eq_false_iff.mpr c4
 subst c4
 rw [if_neg (show ¬ (false=true) by decide)] at H
 simp only [Option.some.injEq,Prod.mk.injEq] at H
 obtain ⟨rfl,rfl⟩:=H
 go_enter Tryz.func55,Tryz.ntmps55
 go_wp2_with (first|(refine callA_ (f:=71) (some 8) Tryz.func71 #[.slice A0 l0.length c0,.int .i64 a1,.int .i64 7] ?_;(with_reducible refine (understudyref04_is.calls _ _ l0 a1 7 false _ ?side1 ?side2 A3.out).mono ?_);(case side1 => exact kc_ HR0.out);(case side2 => exact HC0.out);rintro e w' ⟨rfl,⟨nd,rfl⟩⟩;refine ⟨_,rfl,?_⟩))
 go_ret2
 exact ⟨by first|rfl|(simp;done)|(simp [*];done),by repeat (first|exact Drawn0.refl _|apply Drawn0.step)⟩
def understudyref05_cls.f (l0:List (S61)) (a1:Int):Option (Bool):=(understudyref04_Class.f l0 a1).bind fun bt318 => (some bt318.2)
set_option maxHeartbeats 80000000 in
set_option maxRecDepth 100000 in
theorem understudyref05_cls.calls (A0:Option Addr) (c0:Nat) (l0:List (S61)) (a1:Int) (r:Bool) (w:World) (hr0:Kd.C k61 w A0 l0.length l0) (hc0:l0.length≤c0) (h:understudyref05_cls.f l0 a1=some r) :
  Calls Tryz.prog 34 #[.slice A0 l0.length c0,.int .i64 a1] w fun e w' => e=.returned (.bool r)∧Drawn0 w w':=by
 have HR0:=am_ hr0
 have HC0:=am_ hc0
 clear hr0 hc0
 have H:((understudyref04_Class.f l0 a1).bind fun bt318 => (some bt318.2))=some r:=h
 clear h
 replace H:=Option.bind_eq_some_iff.mp H
 obtain ⟨⟨t318,t319⟩,A30,H⟩:=H
 try dsimp only at H
 have A3:=am_ A30
 clear A30
 obtain rfl:=Option.some.inj H
 go_enter Tryz.func34,Tryz.ntmps34
 go_wp2_with (first|(refine callA_ (f:=55) (some 10) Tryz.func55 #[.slice A0 l0.length c0,.int .i64 a1] ?_;(with_reducible refine (understudyref04_Class.calls _ _ l0 a1 t318 t319 _ ?side1 ?side2 A3.out).mono ?_);(case side1 => exact kc_ HR0.out);(case side2 => exact HC0.out);rintro e w' ⟨rfl,⟨nd,rfl⟩⟩;refine ⟨_,rfl,?_⟩))
 go_ret
 exact ⟨by first|rfl|(simp;done)|(simp [*];done),by repeat (first|exact Drawn0.refl _|apply Drawn0.step)⟩
def understudyref05_utf.f (l0:List (S61)) (a1:Int):Option (Bool):=(understudyref04_Text.f l0 a1).bind fun bt320 => (some bt320.2)
set_option maxHeartbeats 80000000 in
set_option maxRecDepth 100000 in
theorem understudyref05_utf.calls (A0:Option Addr) (c0:Nat) (l0:List (S61)) (a1:Int) (r:Bool) (w:World) (hr0:Kd.C k61 w A0 l0.length l0) (hc0:l0.length≤c0) (h:understudyref05_utf.f l0 a1=some r) :
  Calls Tryz.prog 35 #[.slice A0 l0.length c0,.int .i64 a1] w fun e w' => e=.returned (.bool r)∧Drawn0 w w':=by
 have HR0:=am_ hr0
 have HC0:=am_ hc0
 clear hr0 hc0
 have H:((understudyref04_Text.f l0 a1).bind fun bt320 => (some bt320.2))=some r:=h
 clear h
 replace H:=Option.bind_eq_some_iff.mp H
 obtain ⟨⟨t320,t321⟩,A30,H⟩:=H
 try dsimp only at H
 have A3:=am_ A30
 clear A30
 obtain rfl:=Option.some.inj H
 go_enter Tryz.func35,Tryz.ntmps35
 go_wp2_with (first|(refine callA_ (f:=54) (some 10) Tryz.func54 #[.slice A0 l0.length c0,.int .i64 a1] ?_;(with_reducible refine (understudyref04_Text.calls _ _ l0 a1 t320 t321 _ ?side1 ?side2 A3.out).mono ?_);(case side1 => exact kc_ HR0.out);(case side2 => exact HC0.out);rintro e w' ⟨rfl,⟨nd,rfl⟩⟩;refine ⟨_,rfl,?_⟩))
 go_ret
 exact ⟨by first|rfl|(simp;done)|(simp [*];done),by repeat (first|exact Drawn0.refl _|apply Drawn0.step)⟩
def understudyref05_text.l0:Nat→List (S61)→ByteArray→Int→Option (Int)
 | 0,_,_,_ => none
 | k + 1,x0,x1,x5 => if x5 < (x0.length:Int) then (if 0≤x5 then (if ((rd_T61 x0 x5).f0)=1 then (if ((rd_T61 x0 x5).f1).toList=x1.toList then (some x5) else (understudyref05_text.l0 k x0 x1 (wrap64 (x5 + 1)))) else (understudyref05_text.l0 k x0 x1 (wrap64 (x5 + 1)))) else (none)) else (some 0)
def understudyref05_text.f (k:Nat) (l0:List (S61)) (a1:ByteArray):Option (Int):=understudyref05_text.l0 k l0 a1 1
set_option maxHeartbeats 80000000 in
set_option maxRecDepth 100000 in
theorem understudyref05_text.calls (k:Nat) (A0:Option Addr) (c0:Nat) (l0:List (S61)) (a1:ByteArray) (r:Int) (w:World) (hr0:Kd.C k61 w A0 l0.length l0) (hc0:l0.length≤c0) (h:understudyref05_text.f k l0 a1=some r) :
  Calls Tryz.prog 56 #[.slice A0 l0.length c0,.string a1] w fun e w' => e=.returned (.int .i64 r)∧Drawn0 w w':=by
 have HR0:=am_ hr0
 have HC0:=am_ hc0
 clear hr0 hc0
 have H:(understudyref05_text.l0 k l0 a1 1)=some r:=h
 clear h
 have H':=am_ H
 clear H
 go_enter Tryz.func56,Tryz.ntmps56
 go_wp2
 go_loopg [5] k (fun kq v5 w' => ∃ (x5_1:Int),v5=.int .i64 x5_1∧Aside0 (understudyref05_text.l0 kq l0 a1 x5_1=some r)∧Aside0 (kq≤k)∧Drawn0 w w')
 case atStart => exact ⟨(1),r3_,H',⟨Nat.le_refl _⟩,by repeat (first|exact Drawn0.refl _|apply Drawn0.step)⟩
 clear H'
 obtain ⟨x5_1,rfl,HA,HK1,⟨m1,rfl⟩⟩:=hrel
 cases gk with
 | zero => exact absurd HA.out (by simp [understudyref05_text.l0])
 | succ k1 =>
  have H:=HA.out
  clear HA
  simp only [understudyref05_text.l0] at H
  by_cases c3:x5_1 < (l0.length:Int)
  rotate_left
  ·rw [if_neg c3] at H
   have c3b0:decide (x5_1 < (l0.length:Int))=false:=decide_eq_false c3
   clear c3
   obtain rfl:=Option.some.inj H
   go_wp2
   go_ret
   exact ⟨by first|rfl|(simp;done)|(simp [*];done),by repeat (first|exact Drawn0.refl _|apply Drawn0.step)⟩
  rw [if_pos c3] at H
  have c3b0:decide (x5_1 < (l0.length:Int))=true:=decide_eq_true c3
  clear c3
  by_cases c4:0≤x5_1
  rotate_left
  ·rw [if_neg c4] at H
   exact absurd H (by simp)
  rw [if_pos c4] at H
  have c4b0:decide (0≤x5_1)=true:=decide_eq_true c4
  clear c4
  by_cases c5:((rd_T61 l0 x5_1).f0)=1
  rotate_left
  ·rw [if_neg c5] at H
   have c5b0:(((rd_T61 l0 x5_1).f0)==1)=false:=beq_eq_false_iff_ne.mpr c5
   have c5b1:(((rd_T61 l0 x5_1).f0) != 1)=true:=bne_iff_ne.mpr c5
   have H':=am_ H
   clear H
   have p322:0≤(x5_1:Int):=od_
   have q322:x5_1 < (l0.length:Int):=od_
   obtain ⟨ad322,e322,hx322_0,hx322_1,hx322_2,hx322_3,hx322_4⟩:=at_T61 HR0.out x5_1 p322 q322
   cases e322
   replace p322:=eq_true p322
   replace q322:=eq_true q322
   go_wp2
   go_roundg k1
   case measure => have:=HK1.out;omega
   case rel => exact ⟨(wrap64 (x5_1 + 1)),r3_,H',⟨by have:=HK1.out;omega⟩,by repeat (first|exact Drawn0.refl _|apply Drawn0.step)⟩
  rw [if_pos c5] at H
  have c5b0:(((rd_T61 l0 x5_1).f0)==1)=true:=beq_iff_eq.mpr c5
  have c5b1:(((rd_T61 l0 x5_1).f0) != 1)=false:=bne_eq_false_iff_eq.mpr c5
  clear c5
  by_cases c6:((rd_T61 l0 x5_1).f1).toList=a1.toList
  ·rw [if_pos c6] at H
   have c6b0:(((rd_T61 l0 x5_1).f1).toList==a1.toList)=true:=beq_iff_eq.mpr c6
   have c6b1:(((rd_T61 l0 x5_1).f1).toList != a1.toList)=false:=bne_eq_false_iff_eq.mpr c6
   clear c6
   obtain rfl:=Option.some.inj H
   have p322:0≤(x5_1:Int):=od_
   have q322:x5_1 < (l0.length:Int):=od_
   obtain ⟨ad322,e322,hx322_0,hx322_1,hx322_2,hx322_3,hx322_4⟩:=at_T61 HR0.out x5_1 p322 q322
   cases e322
   replace p322:=eq_true p322
   replace q322:=eq_true q322
   have p323:0≤(x5_1:Int):=od_
   have q323:x5_1 < (l0.length:Int):=od_
   obtain ⟨ad323,e323,hx323_0,hx323_1,hx323_2,hx323_3,hx323_4⟩:=at_T61 HR0.out x5_1 p323 q323
   obtain rfl:ad322=ad323:=(by injection e323)
   replace p323:=eq_true p323
   replace q323:=eq_true q323
   go_wp2
   go_ret
   exact ⟨by first|rfl|(simp;done)|(simp [*];done),by repeat (first|exact Drawn0.refl _|apply Drawn0.step)⟩
  rw [if_neg c6] at H
  have c6b0:(((rd_T61 l0 x5_1).f1).toList==a1.toList)=false:=beq_eq_false_iff_ne.mpr c6
  have c6b1:(((rd_T61 l0 x5_1).f1).toList != a1.toList)=true:=bne_iff_ne.mpr c6
  have H':=am_ H
  clear H
  have p322:0≤(x5_1:Int):=od_
  have q322:x5_1 < (l0.length:Int):=od_
  obtain ⟨ad322,e322,hx322_0,hx322_1,hx322_2,hx322_3,hx322_4⟩:=at_T61 HR0.out x5_1 p322 q322
  cases e322
  replace p322:=eq_true p322
  replace q322:=eq_true q322
  have p323:0≤(x5_1:Int):=od_
  have q323:x5_1 < (l0.length:Int):=od_
  obtain ⟨ad323,e323,hx323_0,hx323_1,hx323_2,hx323_3,hx323_4⟩:=at_T61 HR0.out x5_1 p323 q323
  obtain rfl:ad322=ad323:=(by injection e323)
  replace p323:=eq_true p323
  replace q323:=eq_true q323
  go_wp2
  go_roundg k1
  case measure => have:=HK1.out;omega
  case rel => exact ⟨(wrap64 (x5_1 + 1)),r3_,H',⟨by have:=HK1.out;omega⟩,by repeat (first|exact Drawn0.refl _|apply Drawn0.step)⟩
end Go.Proofs.YtamdobdmjcgmoaaGreatDoor.Px
