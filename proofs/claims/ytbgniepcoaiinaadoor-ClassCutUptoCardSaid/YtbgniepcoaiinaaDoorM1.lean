/- What the bound on bulk gives. -/
/- What the package-level variables hold, as a fact of the world that stays as the world grows: unicode/utf8's tables; errors.errorType, the handle of 'error'. -/
/- Small laws for the rows: what the bound on bulk gives; a slice of whole numbers, as the walks want it; what the listed tables and errors.errorType give. -/
/- What a type's reading as data gives of a value: a value of the printed kinds, well formed, no bulkier than the datum. -/
/- What the struct types' readings give (by rowgen.py). -/
/- errors.As at the target that pool.Check hands it: the worked example toyas, turned to this program. -/
/- text.Encode: what the Go function computes, as a Lean function, and the walk of it; utf8.ValidString by the shelf's contract, text.split and text.unit by the printed contracts. -/
/- pool.check, pool.Check: what they compute, as Lean functions, and the walks; errors.As by the worked example's contracts. -/
/- wire.Writer: NewWriter, put, Uint, Int, Bytes, Out: what they leave, as contracts over a writer's block and row. -/
/- Words for wire's readers and writers. -/
import Derived.Test.YtbgniepcoaiinaaDoorRows
import Derived.Test.YtbgniepcoaiinaaDoorProg
import Derived.Below
import Derived.Deep.Draws
import Derived.Deep.AppendLies
import Derived.Maps.AppendAt
import Derived.OwnWalk
import Derived.Laws.BytesArg
import Derived.Laws.MakeOwn
import Derived.Laws.OwnMore
import Derived.Deep.OwnRows
import Derived.Tactics
import Derived.Lib.ConvBytes
import Derived.Laws.Slices
import Derived.WalkKit
import Derived.KernelRfl
import Derived.RowKit3
import Derived.Deep.LoopGhost
import Derived.Deep.QuietTactic
import Derived.BigQuiet
import Derived.WideLaws
import Derived.Deep.DeepCutAuto
import Derived.Deep.CutBlock
import Derived.Deep.RegionHeld3
import Derived.Laws.Rows
import Derived.Lib.AppendStr
import Derived.ArgAppend
import Derived.Laws.IdiomCopy
import Derived.OrdersHeld
import Derived.Laws.BitsLemmas
import Derived.RowKit
import Derived.Test.YtbgniepcoaiinaaDoorWWords
import Derived.Test.YtbgniepcoaiinaaDoorWLast
import Derived.Test.YtbgniepcoaiinaaDoorWTab
import Derived.Test.YtbgniepcoaiinaaDoorWFour
import Derived.Test.YtbgniepcoaiinaaDoorWQPut
import Derived.Test.YtbgniepcoaiinaaDoorWApart
import Derived.Test.YtbgniepcoaiinaaDoorWArr
import Derived.Test.YtbgniepcoaiinaaDoorWZeros
import Derived.Test.YtbgniepcoaiinaaDoorWFoot
import Derived.Test.YtbgniepcoaiinaaDoorWKept
import Derived.Test.YtbgniepcoaiinaaDoorWShare
import Derived.Test.YtbgniepcoaiinaaDoorWN
import Derived.Test.YtbgniepcoaiinaaDoorWFootNe
import Derived.Test.YtbgniepcoaiinaaDoorWAt
import Derived.Test.YtbgniepcoaiinaaDoorWEqStruct
import Derived.Test.YtbgniepcoaiinaaDoorWRepsOne
import Derived.Test.YtbgniepcoaiinaaDoorWInv
import Derived.Test.YtbgniepcoaiinaaDoorWInvWords
import Derived.Test.YtbgniepcoaiinaaDoorWGuard
import Derived.Test.YtbgniepcoaiinaaDoorWNEv
import Derived.Test.YtbgniepcoaiinaaDoorWMore
import Derived.Test.YtbgniepcoaiinaaDoorShelf
import Derived.Shelf.Unicode.DecodeSlow
import Derived.Lib.ValidU
import Derived.Test.YtbgniepcoaiinaaDoorWSized
import Derived.ProofKit
import Derived.OpenShut
import Derived.ShutString
import Derived.Lib.LaidU8T
import Derived.Lib.LaidIn
import Derived.PinnedBridge
import Derived.MakeChecks
import Derived.LaidSub
import Derived.LaidHandle
import Derived.ChangeArms
import Derived.ChangeOld
import Derived.LaidEql
import Derived.Stop.Asserts
import Derived.RowKitTokens
import Derived.Lib.OthersKept
import Derived.BigCall
import Derived.Shelf.Unicode.ValidAny
namespace Go.Proofs.YtbgniepcoaiinaaDoor.Px
set_option linter.unusedVariables false
theorem bulk_one {H : Type} (d : DataW H) : 1 ≤ Rows.uptoBulk d := by
  cases d with
  | lit l => cases l <;> simp [Rows.uptoBulk]
  | nil => simp [Rows.uptoBulk]
  | ptr d => simp [Rows.uptoBulk]
  | slice elems spare => simp [Rows.uptoBulk]
  | agg parts => simp [Rows.uptoBulk]
  | iface t d => simp [Rows.uptoBulk]
  | map entries => simp [Rows.uptoBulk]
  | held h => simp [Rows.uptoBulk]
theorem bulk_part_le {H : Type} {d : DataW H} {l : List (DataW H)} (h : d ∈ l) : Rows.uptoBulk d ≤ Rows.uptoBulkAll l := by
  induction l with
  | nil => cases h
  | cons x r ih =>
    simp only [Rows.uptoBulkAll]
    rcases List.mem_cons.1 h with e | e
    · subst e; omega
    · have := ih e; omega
theorem bulk_length {H : Type} (l : List (DataW H)) : l.length ≤ Rows.uptoBulkAll l := by
  induction l with
  | nil => simp [Rows.uptoBulkAll]
  | cons x r ih => have := bulk_one x; simp only [Rows.uptoBulkAll, List.length_cons]; omega
theorem bulk_part {H : Type} {ds gs : List (DataW H)} {d : DataW H} (hk : Rows.uptoSmall H (ds ++ gs) = true) (hm : d ∈ ds) : Rows.uptoBulk d ≤ 1048576 := by
  have h : Rows.uptoBulkAll (ds ++ gs) ≤ 1048576 := of_decide_eq_true hk
  exact Nat.le_trans (bulk_part_le (List.mem_append_left _ hm)) h
end Go.Proofs.YtbgniepcoaiinaaDoor.Px
namespace Go.Proofs.YtbgniepcoaiinaaDoor.Px
open Go.RowKit Go.Proofs.YtbgniepcoaiinaaDoorW.PrintWords Go.Proofs.YtbgniepcoaiinaaDoorW.PrintLast Go.Proofs.YtbgniepcoaiinaaDoorW.PrintMore
attribute [local go_sem] max2_int min2_int max_two min_two max_three min_three max_four min_four
set_option linter.unusedVariables false
set_option linter.unusedSimpArgs false
def errW:Option Int→Value
 | none => .nilIface
 | some c => .iface 0 (.int .i64 c)
theorem errW_none:errW none=.nilIface:=rfl
theorem errW_some (c:Int):errW (some c)=.iface 0 (.int .i64 c):=rfl
theorem info5:(Tryd.prog.info? 5).map (fun i => (i.zero,i.size,i.bytes))=some (some (.int .u8 0),1,1):=by kernel_rfl
theorem info53:(Tryd.prog.info? 53).map (fun i => (i.zero,i.size,i.bytes))=some (some (.agg #[(.int .i64 0),(.int .i64 0),(.int .i64 0)]),3,24):=by kernel_rfl
theorem info56:(Tryd.prog.info? 56).map (fun i => (i.zero,i.size,i.bytes))=some (some (.agg #[(.int .i64 0),(.int .i64 0),(.int .i64 0),(.int .i64 0),(.int .i64 0),(.slice none 0 0),(.slice none 0 0),(.slice none 0 0)]),8,112):=by kernel_rfl
theorem info67:(Tryd.prog.info? 67).map (fun i => (i.zero,i.size,i.bytes))=some (some (.agg #[(.int .i64 0),(.string ⟨#[]⟩),(.int .i64 0),(.int .i64 0),(.int .i64 0)]),5,48):=by kernel_rfl
structure S67 where
 f0:Int
 f1:ByteArray
 f2:Int
 f3:Int
 f4:Int
def z67:S67:=⟨(0:Int),(⟨#[]⟩:ByteArray),(0:Int),(0:Int),(0:Int)⟩
def k67:Kd S67:=Kd.iso (Kd.pair (Kd.int .i64) (Kd.pair Kd.string (Kd.pair (Kd.int .i64) (Kd.pair (Kd.int .i64) (Kd.int .i64))))) (fun x:S67 => (x.f0,x.f1,x.f2,x.f3,x.f4))
theorem k67_open {w:World} {x:S67} {cs:List Value} (h:k67.K w x cs):cs=[.int .i64 x.f0,.string x.f1,.int .i64 x.f2,.int .i64 x.f3,.int .i64 x.f4]:=by
 obtain ⟨_,_,rfl,rfl,⟨_,_,rfl,rfl,⟨_,_,rfl,rfl,⟨_,_,rfl,rfl,rfl⟩⟩⟩⟩:=h
 exact rfl
theorem k67_mkM (w:World) (base:Nat) (ok:Nat→Prop) (x:S67) :k67.M w base ok x [.int .i64 x.f0,.string x.f1,.int .i64 x.f2,.int .i64 x.f3,.int .i64 x.f4]:=⟨[.int .i64 x.f0],[.string x.f1,.int .i64 x.f2,.int .i64 x.f3,.int .i64 x.f4],rfl,rfl,⟨[.string x.f1],[.int .i64 x.f2,.int .i64 x.f3,.int .i64 x.f4],rfl,rfl,⟨[.int .i64 x.f2],[.int .i64 x.f3,.int .i64 x.f4],rfl,rfl,⟨[.int .i64 x.f3],[.int .i64 x.f4],rfl,rfl,rfl⟩⟩⟩⟩
def rd_T67 (xs:List S67) (i:Int):S67:=xs.getD i.toNat z67
theorem at_T67 {w:World} {A:Option Addr} {n:Nat} {xs:List S67} (h:Kd.C k67 w A n xs) (i:Int) (h0:0≤i) (h1:i < n):∃ ad ,A=some ad∧w.cell? (ad.add (i.toNat * 5))=some (.int .i64 (rd_T67 xs i).f0)∧w.cell? ⟨(ad.add (i.toNat * 5)).block,(ad.add (i.toNat * 5)).off + 1,none⟩=some (.string (rd_T67 xs i).f1)∧w.cell? ⟨(ad.add (i.toNat * 5)).block,(ad.add (i.toNat * 5)).off + 2,none⟩=some (.int .i64 (rd_T67 xs i).f2)∧w.cell? ⟨(ad.add (i.toNat * 5)).block,(ad.add (i.toNat * 5)).off + 3,none⟩=some (.int .i64 (rd_T67 xs i).f3)∧w.cell? ⟨(ad.add (i.toNat * 5)).block,(ad.add (i.toNat * 5)).off + 4,none⟩=some (.int .i64 (rd_T67 xs i).f4):=by
 obtain ⟨ad,c,e,_,hK,hc0⟩:=Kd.C_get h z67 i h0 h1
 have hc:∀ j u,c[j]?=some u→w.cell? (ad.add (i.toNat * 5 + j))=some u:=hc0
 obtain rfl:=k67_open hK
 exact ⟨ad,e,hc 0 _ rfl,by rw [← add_field _ _ 1 (by omega)];exact hc 1 _ rfl,by rw [← add_field _ _ 2 (by omega)];exact hc 2 _ rfl,by rw [← add_field _ _ 3 (by omega)];exact hc 3 _ rfl,by rw [← add_field _ _ 4 (by omega)];exact hc 4 _ rfl⟩
structure S82 where
 f0:Int
 f1:Int
 f2:Int
 f3:Int
def z82:S82:=⟨(0:Int),(0:Int),(0:Int),(0:Int)⟩
def k82:Kd S82:=Kd.iso (Kd.pair (Kd.int .i64) (Kd.pair (Kd.int .i64) (Kd.pair (Kd.int .i64) (Kd.int .i64)))) (fun x:S82 => (x.f0,x.f1,x.f2,x.f3))
theorem k82_open {w:World} {x:S82} {cs:List Value} (h:k82.K w x cs):cs=[.int .i64 x.f0,.int .i64 x.f1,.int .i64 x.f2,.int .i64 x.f3]:=by
 obtain ⟨_,_,rfl,rfl,⟨_,_,rfl,rfl,⟨_,_,rfl,rfl,rfl⟩⟩⟩:=h
 exact rfl
theorem k82_mkM (w:World) (base:Nat) (ok:Nat→Prop) (x:S82) :k82.M w base ok x [.int .i64 x.f0,.int .i64 x.f1,.int .i64 x.f2,.int .i64 x.f3]:=⟨[.int .i64 x.f0],[.int .i64 x.f1,.int .i64 x.f2,.int .i64 x.f3],rfl,rfl,⟨[.int .i64 x.f1],[.int .i64 x.f2,.int .i64 x.f3],rfl,rfl,⟨[.int .i64 x.f2],[.int .i64 x.f3],rfl,rfl,rfl⟩⟩⟩
def rd_T82 (xs:List S82) (i:Int):S82:=xs.getD i.toNat z82
theorem at_T82 {w:World} {A:Option Addr} {n:Nat} {xs:List S82} (h:Kd.C k82 w A n xs) (i:Int) (h0:0≤i) (h1:i < n):∃ ad ,A=some ad∧w.cell? (ad.add (i.toNat * 4))=some (.int .i64 (rd_T82 xs i).f0)∧w.cell? ⟨(ad.add (i.toNat * 4)).block,(ad.add (i.toNat * 4)).off + 1,none⟩=some (.int .i64 (rd_T82 xs i).f1)∧w.cell? ⟨(ad.add (i.toNat * 4)).block,(ad.add (i.toNat * 4)).off + 2,none⟩=some (.int .i64 (rd_T82 xs i).f2)∧w.cell? ⟨(ad.add (i.toNat * 4)).block,(ad.add (i.toNat * 4)).off + 3,none⟩=some (.int .i64 (rd_T82 xs i).f3):=by
 obtain ⟨ad,c,e,_,hK,hc0⟩:=Kd.C_get h z82 i h0 h1
 have hc:∀ j u,c[j]?=some u→w.cell? (ad.add (i.toNat * 4 + j))=some u:=hc0
 obtain rfl:=k82_open hK
 exact ⟨ad,e,hc 0 _ rfl,by rw [← add_field _ _ 1 (by omega)];exact hc 1 _ rfl,by rw [← add_field _ _ 2 (by omega)];exact hc 2 _ rfl,by rw [← add_field _ _ 3 (by omega)];exact hc 3 _ rfl⟩
structure S56 where
 f0:Int
 f1:Int
 f2:Int
 f3:Int
 f4:Int
 f5:(List Int)
 f6:(List S82)
 f7:(List Int)
def z56:S56:=⟨(0:Int),(0:Int),(0:Int),(0:Int),(0:Int),([]:List Int),([]:List S82),([]:List Int)⟩
def k56:Kd S56:=Kd.iso (Kd.pair (Kd.int .i64) (Kd.pair (Kd.int .i64) (Kd.pair (Kd.int .i64) (Kd.pair (Kd.int .i64) (Kd.pair (Kd.int .i64) (Kd.pair (Kd.slice 5 (Kd.int .u8)) (Kd.pair (Kd.slice 82 k82) (Kd.slice 5 (Kd.int .u8))))))))) (fun x:S56 => (x.f0,x.f1,x.f2,x.f3,x.f4,x.f5,x.f6,x.f7))
theorem k56_open {w:World} {x:S56} {cs:List Value} (h:k56.K w x cs):∃ A5 c5 A6 c6 A7 c7,cs=[.int .i64 x.f0,.int .i64 x.f1,.int .i64 x.f2,.int .i64 x.f3,.int .i64 x.f4,.slice A5 x.f5.length c5,.slice A6 x.f6.length c6,.slice A7 x.f7.length c7]∧x.f5.length≤c5∧(Kd.int .u8).C w A5 x.f5.length x.f5∧x.f6.length≤c6∧k82.C w A6 x.f6.length x.f6∧x.f7.length≤c7∧(Kd.int .u8).C w A7 x.f7.length x.f7:=by
 obtain ⟨_,_,rfl,rfl,⟨_,_,rfl,rfl,⟨_,_,rfl,rfl,⟨_,_,rfl,rfl,⟨_,_,rfl,rfl,⟨_,_,rfl,⟨A5,c5,rfl,l5,g5⟩,⟨_,_,rfl,⟨A6,c6,rfl,l6,g6⟩,⟨A7,c7,rfl,l7,g7⟩⟩⟩⟩⟩⟩⟩⟩:=h
 exact ⟨A5,c5,A6,c6,A7,c7,rfl,l5,g5,l6,g6,l7,g7⟩
theorem k56_mkM (w:World) (base:Nat) (ok:Nat→Prop) (x:S56) {v5:Value} (g5:(Kd.int .u8).R 5 w base ok v5 x.f5) {v6:Value} (g6:k82.R 82 w base ok v6 x.f6) {v7:Value} (g7:(Kd.int .u8).R 5 w base ok v7 x.f7):k56.M w base ok x [.int .i64 x.f0,.int .i64 x.f1,.int .i64 x.f2,.int .i64 x.f3,.int .i64 x.f4,v5,v6,v7]:=⟨[.int .i64 x.f0],[.int .i64 x.f1,.int .i64 x.f2,.int .i64 x.f3,.int .i64 x.f4,v5,v6,v7],rfl,rfl,⟨[.int .i64 x.f1],[.int .i64 x.f2,.int .i64 x.f3,.int .i64 x.f4,v5,v6,v7],rfl,rfl,⟨[.int .i64 x.f2],[.int .i64 x.f3,.int .i64 x.f4,v5,v6,v7],rfl,rfl,⟨[.int .i64 x.f3],[.int .i64 x.f4,v5,v6,v7],rfl,rfl,⟨[.int .i64 x.f4],[v5,v6,v7],rfl,rfl,⟨[v5],[v6,v7],rfl,⟨v5,rfl,g5⟩,⟨[v6],[v7],rfl,⟨v6,rfl,g6⟩,⟨v7,rfl,g7⟩⟩⟩⟩⟩⟩⟩⟩
def rd_T56 (xs:List S56) (i:Int):S56:=xs.getD i.toNat z56
theorem at_T56 {w:World} {A:Option Addr} {n:Nat} {xs:List S56} (h:Kd.C k56 w A n xs) (i:Int) (h0:0≤i) (h1:i < n):∃ ad A5 c5 A6 c6 A7 c7,A=some ad∧w.cell? (ad.add (i.toNat * 8))=some (.int .i64 (rd_T56 xs i).f0)∧w.cell? ⟨(ad.add (i.toNat * 8)).block,(ad.add (i.toNat * 8)).off + 1,none⟩=some (.int .i64 (rd_T56 xs i).f1)∧w.cell? ⟨(ad.add (i.toNat * 8)).block,(ad.add (i.toNat * 8)).off + 2,none⟩=some (.int .i64 (rd_T56 xs i).f2)∧w.cell? ⟨(ad.add (i.toNat * 8)).block,(ad.add (i.toNat * 8)).off + 3,none⟩=some (.int .i64 (rd_T56 xs i).f3)∧w.cell? ⟨(ad.add (i.toNat * 8)).block,(ad.add (i.toNat * 8)).off + 4,none⟩=some (.int .i64 (rd_T56 xs i).f4)∧w.cell? ⟨(ad.add (i.toNat * 8)).block,(ad.add (i.toNat * 8)).off + 5,none⟩=some (.slice A5 (rd_T56 xs i).f5.length c5)∧w.cell? ⟨(ad.add (i.toNat * 8)).block,(ad.add (i.toNat * 8)).off + 6,none⟩=some (.slice A6 (rd_T56 xs i).f6.length c6)∧w.cell? ⟨(ad.add (i.toNat * 8)).block,(ad.add (i.toNat * 8)).off + 7,none⟩=some (.slice A7 (rd_T56 xs i).f7.length c7)∧(rd_T56 xs i).f5.length≤c5∧(Kd.int .u8).C w A5 (rd_T56 xs i).f5.length (rd_T56 xs i).f5∧(rd_T56 xs i).f6.length≤c6∧k82.C w A6 (rd_T56 xs i).f6.length (rd_T56 xs i).f6∧(rd_T56 xs i).f7.length≤c7∧(Kd.int .u8).C w A7 (rd_T56 xs i).f7.length (rd_T56 xs i).f7:=by
 obtain ⟨ad,c,e,_,hK,hc0⟩:=Kd.C_get h z56 i h0 h1
 have hc:∀ j u,c[j]?=some u→w.cell? (ad.add (i.toNat * 8 + j))=some u:=hc0
 obtain ⟨A5,c5,A6,c6,A7,c7,rfl,l5,g5,l6,g6,l7,g7⟩:=k56_open hK
 exact ⟨ad,A5,c5,A6,c6,A7,c7,e,hc 0 _ rfl,by rw [← add_field _ _ 1 (by omega)];exact hc 1 _ rfl,by rw [← add_field _ _ 2 (by omega)];exact hc 2 _ rfl,by rw [← add_field _ _ 3 (by omega)];exact hc 3 _ rfl,by rw [← add_field _ _ 4 (by omega)];exact hc 4 _ rfl,by rw [← add_field _ _ 5 (by omega)];exact hc 5 _ rfl,by rw [← add_field _ _ 6 (by omega)];exact hc 6 _ rfl,by rw [← add_field _ _ 7 (by omega)];exact hc 7 _ rfl,l5,g5,l6,g6,l7,g7⟩
structure S53 where
 f0:Int
 f1:Int
 f2:Int
def z53:S53:=⟨(0:Int),(0:Int),(0:Int)⟩
def k53:Kd S53:=Kd.iso (Kd.pair (Kd.int .i64) (Kd.pair (Kd.int .i64) (Kd.int .i64))) (fun x:S53 => (x.f0,x.f1,x.f2))
theorem k53_open {w:World} {x:S53} {cs:List Value} (h:k53.K w x cs):cs=[.int .i64 x.f0,.int .i64 x.f1,.int .i64 x.f2]:=by
 obtain ⟨_,_,rfl,rfl,⟨_,_,rfl,rfl,rfl⟩⟩:=h
 exact rfl
theorem k53_mkM (w:World) (base:Nat) (ok:Nat→Prop) (x:S53) :k53.M w base ok x [.int .i64 x.f0,.int .i64 x.f1,.int .i64 x.f2]:=⟨[.int .i64 x.f0],[.int .i64 x.f1,.int .i64 x.f2],rfl,rfl,⟨[.int .i64 x.f1],[.int .i64 x.f2],rfl,rfl,rfl⟩⟩
def rd_T53 (xs:List S53) (i:Int):S53:=xs.getD i.toNat z53
theorem at_T53 {w:World} {A:Option Addr} {n:Nat} {xs:List S53} (h:Kd.C k53 w A n xs) (i:Int) (h0:0≤i) (h1:i < n):∃ ad ,A=some ad∧w.cell? (ad.add (i.toNat * 3))=some (.int .i64 (rd_T53 xs i).f0)∧w.cell? ⟨(ad.add (i.toNat * 3)).block,(ad.add (i.toNat * 3)).off + 1,none⟩=some (.int .i64 (rd_T53 xs i).f1)∧w.cell? ⟨(ad.add (i.toNat * 3)).block,(ad.add (i.toNat * 3)).off + 2,none⟩=some (.int .i64 (rd_T53 xs i).f2):=by
 obtain ⟨ad,c,e,_,hK,hc0⟩:=Kd.C_get h z53 i h0 h1
 have hc:∀ j u,c[j]?=some u→w.cell? (ad.add (i.toNat * 3 + j))=some u:=hc0
 obtain rfl:=k53_open hK
 exact ⟨ad,e,hc 0 _ rfl,by rw [← add_field _ _ 1 (by omega)];exact hc 1 _ rfl,by rw [← add_field _ _ 2 (by omega)];exact hc 2 _ rfl⟩
structure S26 where
 f0:(List S67)
 f1:Int
 f2:Int
 f3:(List S53)
 f4:(List S56)
end Go.Proofs.YtbgniepcoaiinaaDoor.Px
namespace Go.Proofs.YtbgniepcoaiinaaDoor.Px
open Go.RowKit Go.Proofs.YtbgniepcoaiinaaDoorW.PrintWords Go.Proofs.YtbgniepcoaiinaaDoorW.PrintLast Go.Proofs.YtbgniepcoaiinaaDoorW.PrintMore
structure GG (w:World):Prop where mk ::
 tabs:Lib.Utf8Tabs (Tryd.laysValid_ren.g 3) (Tryd.laysValid_ren.g 4) w
 et:w.cell? ⟨0,0,none⟩=some (.iface 154 (.agg #[.pointer (some ⟨3,101,none⟩)]))
theorem GG.below {w w':World} (h:GG w) (hb:Below w.heap.size w w'):GG w':=⟨Utf8Tabs_below h.tabs hb,pw_cell_below hb h.et⟩
end Go.Proofs.YtbgniepcoaiinaaDoor.Px
namespace Go.Proofs.YtbgniepcoaiinaaDoor.Px
open Go.RowKit Go.ChangeShapes Go.WideShapes Go.ChangeAt Go.Lib Go.Proofs.YtbgniepcoaiinaaDoorW.PrintWords Go.Proofs.YtbgniepcoaiinaaDoorW.PrintLast Go.Proofs.YtbgniepcoaiinaaDoorW.PrintMore
set_option linter.unusedVariables false
theorem laid_et : Tryd.prog.globalNamed "errors.errorType" = some 0 := by kernel_rfl
theorem laid_rt : (Tryd.prog.cutTypes.find? (·.1 == "internal/reflectlite.rtype")).map (·.2) = some 154 := by kernel_rfl
theorem laid_oneRow : ((List.range 210).filter fun t => Tryd.prog.rowNamed t [101, 114, 114, 111, 114]) = [101] := by kernel_rfl
theorem laid_size : Tryd.prog.types.size = 210 := by kernel_rfl
theorem GG.of_laid {l : List (String × DataW Unit)} {W : World} (h : laidMetH Tryd.prog l W) (h1 : ("unicode/utf8.acceptRanges", Rows.laid_unicode_utf8_acceptRanges) ∈ l) (h2 : ("unicode/utf8.first", Rows.laid_unicode_utf8_first) ∈ l) (h3 : ("errors.errorType", Rows.laid_errors_errorType) ∈ l) (hS : W.ShapedOpen Tryd.prog) : GG W := by
  obtain ⟨hp, hh⟩ := laidMetH_iff.1 h
  refine ⟨utf8Tabs_of_readsT (U8Types.of196 Tryd.laysValid) ⟨by kernel_rfl, by kernel_rfl, by kernel_rfl, by kernel_rfl, by kernel_rfl, by kernel_rfl, by kernel_rfl⟩ (by have := Lib.laidMet.reads hp (List.mem_filter.2 ⟨h2, by kernel_rfl⟩); unfold Rows.laid_unicode_utf8_first at this; rw [Pinned.utf8First_eq] at this; exact this) (Lib.laidMet.reads hp (List.mem_filter.2 ⟨h1, by kernel_rfl⟩)), ?_⟩
  obtain ⟨name, u, ty, e1, e2, e3, e4, e5⟩ := hh _ (List.mem_filter.2 ⟨h3, by kernel_rfl⟩)
  have en : name = [101, 114, 114, 111, 114] := (Option.some.inj e1).symm
  subst en
  obtain rfl := Option.some.inj (laid_rt.symm.trans e2)
  have hm : ty ∈ (List.range 210).filter fun t => Tryd.prog.rowNamed t [101, 114, 114, 111, 114] := List.mem_filter.2 ⟨List.mem_range.2 (by rw [← laid_size]; exact e3), e4⟩
  rw [laid_oneRow] at hm
  obtain rfl := List.mem_singleton.1 hm
  have hh : typeHandle Tryd.prog 101 = .pointer (some ⟨3, 101, none⟩) := by kernel_rfl
  rw [hh] at e5
  simpa using World.var?_cell laid_et e5 0
end Go.Proofs.YtbgniepcoaiinaaDoor.Px
namespace Go.Proofs.YtbgniepcoaiinaaDoor.Px
open Go.RowKit Go.ChangeShapes Go.WideShapes Go.ChangeAt Go.Proofs.YtbgniepcoaiinaaDoorW.PrintWords Go.Proofs.YtbgniepcoaiinaaDoorW.PrintLast Go.Proofs.YtbgniepcoaiinaaDoorW.PrintMore
set_option linter.unusedVariables false
def Fits {α:Type} {H:Type} (enc:TypeId × Value→H) (P:Program) (W:World) (t:TypeId) (d:Kd α) (Q:Nat→α→Prop):Prop :=
 ∀ (fuel:Nat) (cs:List Value) (x:DataW H) (p:List MemPlace),DataW.trod enc P W 0 (fun _ => true) true fuel t cs=some (x,p)→∃ a:α,d.K W a cs∧Q (Rows.uptoBulk x) a
section
variable {α β:Type} {H:Type} {enc:TypeId × Value→H} {P:Program} {W:World} {t e:TypeId}
def Qint (k:IntKind) (_:Nat) (a:Int):Prop:=(Lit.int k a).wf=true
def Qbool (_:Nat) (_:Bool):Prop:=True
def Qstr (b:Nat) (a:ByteArray):Prop:=a.size < b
theorem Qint.mono (k:IntKind):∀ b b' a,b≤b'→Qint k b a→Qint k b' a:=fun _ _ _ _ h => h
theorem Qbool.mono:∀ b b' a,b≤b'→Qbool b a→Qbool b' a:=fun _ _ _ _ h => h
theorem Qstr.mono:∀ b b' a,b≤b'→Qstr b a→Qstr b' a:=fun _ _ _ h1 h2 => Nat.lt_of_lt_of_le h2 h1
theorem Fits.int {k:IntKind} (ht:P.underlying t=some (.int k)):Fits enc P W t (Kd.int k) (Qint k):=by
 intro fuel cs x p h
 obtain ⟨n,hc,hx,hw⟩:=DataW.trod_int ht h
 exact ⟨n,hc,hw⟩
theorem Fits.bool (ht:P.underlying t=some .bool):Fits enc P W t Kd.bool Qbool:=by
 intro fuel cs x p h
 obtain ⟨b,hc,hx⟩:=DataW.trod_bool ht h
 exact ⟨b,hc,trivial⟩
theorem Fits.string (ht:P.underlying t=some .string):Fits enc P W t Kd.string Qstr:=by
 intro fuel cs x p h
 obtain ⟨s,hc,hx⟩:=DataW.trod_string ht h
 refine ⟨s,hc,?_⟩
 unfold Qstr
 have hx:=(Prod.mk.inj hx.1).1
 subst hx
 simp only [Rows.uptoBulk]
 have e:s.data.toList.length=s.size:=by rw [Array.length_toList];rfl
 omega
theorem fits_add (a:Addr) (x j:Nat):(a.add x).add j=a.add (x + j):=by
 unfold Addr.add
 by_cases h1:x=0 <;> by_cases h2:j=0 <;> simp [h1,h2,Nat.add_assoc]
def QAll (Q:Nat→α→Prop) (b:Nat) (l:List α):Prop:=l.length < b∧∀ x ∈ l,Q b x
theorem QAll.mono {Q:Nat→α→Prop} (hQ:∀ b b' a,b≤b'→Q b a→Q b' a):∀ b b' l,b≤b'→QAll Q b l→QAll Q b' l:=fun b b' l h hq => ⟨Nat.lt_of_lt_of_le hq.1 h,fun x hx => hQ _ _ _ h (hq.2 x hx)⟩
theorem Fits.slice {d:Kd α} {Q:Nat→α→Prop} (hQ:∀ b b' a,b≤b'→Q b a→Q b' a) (ht:P.underlying t=some (.slice e)) (hsz:P.cellsOf e=d.sz) (hd:Fits enc P W e d Q):Fits enc P W t (Kd.slice e d) (QAll Q):=by
 intro fuel cs x p h
 rcases DataW.trod_slice ht h with ⟨hcs,hx⟩|⟨a,len,cap,elems,rest,n,_,hcs,hx,_,hl,hm,hlen,hel,_,_⟩
 ·refine ⟨[],⟨none,0,hcs,Nat.le_refl _,rfl,by simp,fun hh => absurd hh (by simp)⟩,?_,fun y hy => by cases hy⟩
  exact bulk_one x
 ·have hx1:=(Prod.mk.inj hx).1
  have each:∀ i,i < len→∃ y:α,∃ c:List Value,d.K W y c∧c.length=d.sz∧(∀ j u,c[j]?=some u→W.cell? (a.add (i * d.sz + j))=some u)∧Q (Rows.uptoBulk x) y:=by
   intro i hi
   have h1:=hel i hi
   obtain ⟨z,hz⟩:∃ z,elems[i]?=some z:=⟨elems[i]'(by omega),List.getElem?_eq_getElem (by omega)⟩
   rw [hz] at h1
   obtain ⟨c,hc,hk⟩:=Option.bind_eq_some_iff.1 h1
   obtain ⟨_,hcl,hcc⟩:=World.cells?_some hc
   obtain ⟨y,hy,hq⟩:=hd n c z.1 z.2 hk
   refine ⟨y,c,hy,by rw [hcl,hsz],?_,hQ _ _ _ ?_ hq⟩
   ·intro j u hj
    have hjl:j < c.length:=(List.getElem?_eq_some_iff.1 hj).1
    have:=hcc j (by omega)
    rw [hj] at this
    rw [← this,hsz,fits_add]
   ·rw [hx1]
    simp only [Rows.uptoBulk]
    have:z.1 ∈ elems.map (·.1):=List.mem_map_of_mem (List.mem_of_getElem? hz)
    have:=bulk_part_le this
    omega
  have hf:∀ i:Fin len,∃ c:List Value,d.K W (Classical.choose (each i.1 i.2)) c∧c.length=d.sz∧(∀ j u,c[j]?=some u→W.cell? (a.add (i.1 * d.sz + j))=some u)∧Q (Rows.uptoBulk x) (Classical.choose (each i.1 i.2)):=fun i => Classical.choose_spec (each i.1 i.2)
  generalize hF:(fun i:Fin len => Classical.choose (each i.1 i.2))=f at hf
  replace hf:∀ i:Fin len,∃ c:List Value,d.K W (f i) c∧c.length=d.sz∧(∀ j u,c[j]?=some u→W.cell? (a.add (i.1 * d.sz + j))=some u)∧Q (Rows.uptoBulk x) (f i):=fun i => by
   have:=hf i
   rw [← hF]
   exact this
  have hxs:(List.ofFn f).length=len:=by simp
  refine ⟨List.ofFn f,⟨some a,cap,by rw [hxs];exact hcs,by rw [hxs];exact hl,rfl,?_,fun _ => ⟨a,rfl,?_⟩⟩,?_,?_⟩
  ·rw [hxs];unfold maxLen at hm;omega
  ·intro j q hj
   have hjl:j < len:=by
    have:=(List.getElem?_eq_some_iff.1 hj).1
    omega
   have hq:f ⟨j,hjl⟩=q:=by
    rw [List.getElem?_ofFn,dif_pos hjl] at hj
    exact Option.some.inj hj
   obtain ⟨c,h1,h2,h3,_⟩:=hf ⟨j,hjl⟩
   subst hq
   exact ⟨c,h2,h1,h3⟩
  ·rw [hxs,hx1]
   simp only [Rows.uptoBulk]
   have:=bulk_length (elems.map (·.1))
   rw [List.length_map] at this
   omega
  ·intro y hy
   obtain ⟨i,rfl⟩:=(List.mem_ofFn).1 hy
   obtain ⟨_,_,_,_,hq⟩:=hf i
   exact hq
end
end Go.Proofs.YtbgniepcoaiinaaDoor.Px
namespace Go.Proofs.YtbgniepcoaiinaaDoor.Px
open Go.RowKit Go.ChangeShapes Go.WideShapes Go.ChangeAt Go.Proofs.YtbgniepcoaiinaaDoorW.PrintWords Go.Proofs.YtbgniepcoaiinaaDoorW.PrintLast Go.Proofs.YtbgniepcoaiinaaDoorW.PrintMore
set_option linter.unusedVariables false
set_option maxRecDepth 100000
def QS67 (b:Nat) (a:S67):Prop:=(Qint .i64) b a.f0∧Qstr b a.f1∧(Qint .i64) b a.f2∧(Qint .i64) b a.f3∧(Qint .i64) b a.f4
theorem QS67.mono:∀ b b' a,b≤b'→QS67 b a→QS67 b' a:=fun b b' a h hq => ⟨(Qint.mono .i64) b b' a.f0 h hq.1,Qstr.mono b b' a.f1 h hq.2.1,(Qint.mono .i64) b b' a.f2 h hq.2.2.1,(Qint.mono .i64) b b' a.f3 h hq.2.2.2.1,(Qint.mono .i64) b b' a.f4 h hq.2.2.2.2⟩
theorem fits67 {H:Type} (enc:TypeId × Value→H) (W:World):Fits enc Tryd.prog W 67 k67 QS67:=by
 intro fuel cs x p h
 obtain ⟨xs,n,rfl,hx,hlen,hxl,hall⟩:=DataW.trod_struct Tryd.underlying67 h
 have hx1:=(Prod.mk.inj hx).1
 have hb:∀ z ∈ xs,Rows.uptoBulk z.1≤Rows.uptoBulk x:=by
  intro z hz
  rw [hx1]
  simp only [Rows.uptoBulk]
  have:=bulk_part_le (List.mem_map_of_mem (f:=(·.1)) hz)
  omega
 have hl:cs.length=5:=hlen.trans (by kernel_rfl)
 have hxl':xs.length=5:=hxl
 have e0:=hall 0 _ rfl
 obtain ⟨z0,hz0⟩:∃ z,xs[0]?=some z:=⟨xs[0]'(by omega),List.getElem?_eq_getElem (by omega)⟩
 rw [hz0] at e0
 have c0:Tryd.prog.cellsOf 3=1:=by kernel_rfl
 replace e0:DataW.trod enc Tryd.prog W 0 (fun _ => true) true n 3 ((cs.drop 0).take 1)=some z0:=by rw [← c0];exact e0
 obtain ⟨a0,K0,q0⟩:=(Fits.int Tryd.underlying3) n _ z0.1 z0.2 e0
 replace q0:=(Qint.mono .i64) _ _ _ (hb z0 (List.mem_of_getElem? hz0)) q0
 have e1:=hall 1 _ rfl
 obtain ⟨z1,hz1⟩:∃ z,xs[1]?=some z:=⟨xs[1]'(by omega),List.getElem?_eq_getElem (by omega)⟩
 rw [hz1] at e1
 have c1:Tryd.prog.cellsOf 9=1:=by kernel_rfl
 replace e1:DataW.trod enc Tryd.prog W 0 (fun _ => true) true n 9 ((cs.drop 1).take 1)=some z1:=by rw [← c1];exact e1
 obtain ⟨a1,K1,q1⟩:=(Fits.string Tryd.underlying9) n _ z1.1 z1.2 e1
 replace q1:=Qstr.mono _ _ _ (hb z1 (List.mem_of_getElem? hz1)) q1
 have e2:=hall 2 _ rfl
 obtain ⟨z2,hz2⟩:∃ z,xs[2]?=some z:=⟨xs[2]'(by omega),List.getElem?_eq_getElem (by omega)⟩
 rw [hz2] at e2
 have c2:Tryd.prog.cellsOf 2=1:=by kernel_rfl
 replace e2:DataW.trod enc Tryd.prog W 0 (fun _ => true) true n 2 ((cs.drop 2).take 1)=some z2:=by rw [← c2];exact e2
 obtain ⟨a2,K2,q2⟩:=(Fits.int Tryd.underlying2) n _ z2.1 z2.2 e2
 replace q2:=(Qint.mono .i64) _ _ _ (hb z2 (List.mem_of_getElem? hz2)) q2
 have e3:=hall 3 _ rfl
 obtain ⟨z3,hz3⟩:∃ z,xs[3]?=some z:=⟨xs[3]'(by omega),List.getElem?_eq_getElem (by omega)⟩
 rw [hz3] at e3
 have c3:Tryd.prog.cellsOf 3=1:=by kernel_rfl
 replace e3:DataW.trod enc Tryd.prog W 0 (fun _ => true) true n 3 ((cs.drop 3).take 1)=some z3:=by rw [← c3];exact e3
 obtain ⟨a3,K3,q3⟩:=(Fits.int Tryd.underlying3) n _ z3.1 z3.2 e3
 replace q3:=(Qint.mono .i64) _ _ _ (hb z3 (List.mem_of_getElem? hz3)) q3
 have e4:=hall 4 _ rfl
 obtain ⟨z4,hz4⟩:∃ z,xs[4]?=some z:=⟨xs[4]'(by omega),List.getElem?_eq_getElem (by omega)⟩
 rw [hz4] at e4
 have c4:Tryd.prog.cellsOf 3=1:=by kernel_rfl
 replace e4:DataW.trod enc Tryd.prog W 0 (fun _ => true) true n 3 ((cs.drop 4).take 1)=some z4:=by rw [← c4];exact e4
 obtain ⟨a4,K4,q4⟩:=(Fits.int Tryd.underlying3) n _ z4.1 z4.2 e4
 replace q4:=(Qint.mono .i64) _ _ _ (hb z4 (List.mem_of_getElem? hz4)) q4
 refine ⟨⟨a0,a1,a2,a3,a4⟩,?_,⟨q0,q1,q2,q3,q4⟩⟩
 rw [show cs=cs.drop 0 from rfl]
 exact ⟨(cs.drop 0).take 1,cs.drop 1,by rw [← List.drop_drop (i:=1) (j:=0),List.take_append_drop],K0,⟨(cs.drop 1).take 1,cs.drop 2,by rw [← List.drop_drop (i:=1) (j:=1),List.take_append_drop],K1,⟨(cs.drop 2).take 1,cs.drop 3,by rw [← List.drop_drop (i:=1) (j:=2),List.take_append_drop],K2,⟨(cs.drop 3).take 1,cs.drop 4,by rw [← List.drop_drop (i:=1) (j:=3),List.take_append_drop],K3,(by rw [show cs.drop 4=(cs.drop 4).take 1 from (List.take_of_length_le (by rw [List.length_drop];omega)).symm];exact K4)⟩⟩⟩⟩
def QS53 (b:Nat) (a:S53):Prop:=(Qint .i64) b a.f0∧(Qint .i64) b a.f1∧(Qint .i64) b a.f2
theorem QS53.mono:∀ b b' a,b≤b'→QS53 b a→QS53 b' a:=fun b b' a h hq => ⟨(Qint.mono .i64) b b' a.f0 h hq.1,(Qint.mono .i64) b b' a.f1 h hq.2.1,(Qint.mono .i64) b b' a.f2 h hq.2.2⟩
theorem fits53 {H:Type} (enc:TypeId × Value→H) (W:World):Fits enc Tryd.prog W 53 k53 QS53:=by
 intro fuel cs x p h
 obtain ⟨xs,n,rfl,hx,hlen,hxl,hall⟩:=DataW.trod_struct Tryd.underlying53 h
 have hx1:=(Prod.mk.inj hx).1
 have hb:∀ z ∈ xs,Rows.uptoBulk z.1≤Rows.uptoBulk x:=by
  intro z hz
  rw [hx1]
  simp only [Rows.uptoBulk]
  have:=bulk_part_le (List.mem_map_of_mem (f:=(·.1)) hz)
  omega
 have hl:cs.length=3:=hlen.trans (by kernel_rfl)
 have hxl':xs.length=3:=hxl
 have e0:=hall 0 _ rfl
 obtain ⟨z0,hz0⟩:∃ z,xs[0]?=some z:=⟨xs[0]'(by omega),List.getElem?_eq_getElem (by omega)⟩
 rw [hz0] at e0
 have c0:Tryd.prog.cellsOf 3=1:=by kernel_rfl
 replace e0:DataW.trod enc Tryd.prog W 0 (fun _ => true) true n 3 ((cs.drop 0).take 1)=some z0:=by rw [← c0];exact e0
 obtain ⟨a0,K0,q0⟩:=(Fits.int Tryd.underlying3) n _ z0.1 z0.2 e0
 replace q0:=(Qint.mono .i64) _ _ _ (hb z0 (List.mem_of_getElem? hz0)) q0
 have e1:=hall 1 _ rfl
 obtain ⟨z1,hz1⟩:∃ z,xs[1]?=some z:=⟨xs[1]'(by omega),List.getElem?_eq_getElem (by omega)⟩
 rw [hz1] at e1
 have c1:Tryd.prog.cellsOf 3=1:=by kernel_rfl
 replace e1:DataW.trod enc Tryd.prog W 0 (fun _ => true) true n 3 ((cs.drop 1).take 1)=some z1:=by rw [← c1];exact e1
 obtain ⟨a1,K1,q1⟩:=(Fits.int Tryd.underlying3) n _ z1.1 z1.2 e1
 replace q1:=(Qint.mono .i64) _ _ _ (hb z1 (List.mem_of_getElem? hz1)) q1
 have e2:=hall 2 _ rfl
 obtain ⟨z2,hz2⟩:∃ z,xs[2]?=some z:=⟨xs[2]'(by omega),List.getElem?_eq_getElem (by omega)⟩
 rw [hz2] at e2
 have c2:Tryd.prog.cellsOf 3=1:=by kernel_rfl
 replace e2:DataW.trod enc Tryd.prog W 0 (fun _ => true) true n 3 ((cs.drop 2).take 1)=some z2:=by rw [← c2];exact e2
 obtain ⟨a2,K2,q2⟩:=(Fits.int Tryd.underlying3) n _ z2.1 z2.2 e2
 replace q2:=(Qint.mono .i64) _ _ _ (hb z2 (List.mem_of_getElem? hz2)) q2
 refine ⟨⟨a0,a1,a2⟩,?_,⟨q0,q1,q2⟩⟩
 rw [show cs=cs.drop 0 from rfl]
 exact ⟨(cs.drop 0).take 1,cs.drop 1,by rw [← List.drop_drop (i:=1) (j:=0),List.take_append_drop],K0,⟨(cs.drop 1).take 1,cs.drop 2,by rw [← List.drop_drop (i:=1) (j:=1),List.take_append_drop],K1,(by rw [show cs.drop 2=(cs.drop 2).take 1 from (List.take_of_length_le (by rw [List.length_drop];omega)).symm];exact K2)⟩⟩
def QS82 (b:Nat) (a:S82):Prop:=(Qint .i64) b a.f0∧(Qint .i64) b a.f1∧(Qint .i64) b a.f2∧(Qint .i64) b a.f3
theorem QS82.mono:∀ b b' a,b≤b'→QS82 b a→QS82 b' a:=fun b b' a h hq => ⟨(Qint.mono .i64) b b' a.f0 h hq.1,(Qint.mono .i64) b b' a.f1 h hq.2.1,(Qint.mono .i64) b b' a.f2 h hq.2.2.1,(Qint.mono .i64) b b' a.f3 h hq.2.2.2⟩
theorem fits82 {H:Type} (enc:TypeId × Value→H) (W:World):Fits enc Tryd.prog W 82 k82 QS82:=by
 intro fuel cs x p h
 obtain ⟨xs,n,rfl,hx,hlen,hxl,hall⟩:=DataW.trod_struct Tryd.underlying82 h
 have hx1:=(Prod.mk.inj hx).1
 have hb:∀ z ∈ xs,Rows.uptoBulk z.1≤Rows.uptoBulk x:=by
  intro z hz
  rw [hx1]
  simp only [Rows.uptoBulk]
  have:=bulk_part_le (List.mem_map_of_mem (f:=(·.1)) hz)
  omega
 have hl:cs.length=4:=hlen.trans (by kernel_rfl)
 have hxl':xs.length=4:=hxl
 have e0:=hall 0 _ rfl
 obtain ⟨z0,hz0⟩:∃ z,xs[0]?=some z:=⟨xs[0]'(by omega),List.getElem?_eq_getElem (by omega)⟩
 rw [hz0] at e0
 have c0:Tryd.prog.cellsOf 3=1:=by kernel_rfl
 replace e0:DataW.trod enc Tryd.prog W 0 (fun _ => true) true n 3 ((cs.drop 0).take 1)=some z0:=by rw [← c0];exact e0
 obtain ⟨a0,K0,q0⟩:=(Fits.int Tryd.underlying3) n _ z0.1 z0.2 e0
 replace q0:=(Qint.mono .i64) _ _ _ (hb z0 (List.mem_of_getElem? hz0)) q0
 have e1:=hall 1 _ rfl
 obtain ⟨z1,hz1⟩:∃ z,xs[1]?=some z:=⟨xs[1]'(by omega),List.getElem?_eq_getElem (by omega)⟩
 rw [hz1] at e1
 have c1:Tryd.prog.cellsOf 3=1:=by kernel_rfl
 replace e1:DataW.trod enc Tryd.prog W 0 (fun _ => true) true n 3 ((cs.drop 1).take 1)=some z1:=by rw [← c1];exact e1
 obtain ⟨a1,K1,q1⟩:=(Fits.int Tryd.underlying3) n _ z1.1 z1.2 e1
 replace q1:=(Qint.mono .i64) _ _ _ (hb z1 (List.mem_of_getElem? hz1)) q1
 have e2:=hall 2 _ rfl
 obtain ⟨z2,hz2⟩:∃ z,xs[2]?=some z:=⟨xs[2]'(by omega),List.getElem?_eq_getElem (by omega)⟩
 rw [hz2] at e2
 have c2:Tryd.prog.cellsOf 3=1:=by kernel_rfl
 replace e2:DataW.trod enc Tryd.prog W 0 (fun _ => true) true n 3 ((cs.drop 2).take 1)=some z2:=by rw [← c2];exact e2
 obtain ⟨a2,K2,q2⟩:=(Fits.int Tryd.underlying3) n _ z2.1 z2.2 e2
 replace q2:=(Qint.mono .i64) _ _ _ (hb z2 (List.mem_of_getElem? hz2)) q2
 have e3:=hall 3 _ rfl
 obtain ⟨z3,hz3⟩:∃ z,xs[3]?=some z:=⟨xs[3]'(by omega),List.getElem?_eq_getElem (by omega)⟩
 rw [hz3] at e3
 have c3:Tryd.prog.cellsOf 3=1:=by kernel_rfl
 replace e3:DataW.trod enc Tryd.prog W 0 (fun _ => true) true n 3 ((cs.drop 3).take 1)=some z3:=by rw [← c3];exact e3
 obtain ⟨a3,K3,q3⟩:=(Fits.int Tryd.underlying3) n _ z3.1 z3.2 e3
 replace q3:=(Qint.mono .i64) _ _ _ (hb z3 (List.mem_of_getElem? hz3)) q3
 refine ⟨⟨a0,a1,a2,a3⟩,?_,⟨q0,q1,q2,q3⟩⟩
 rw [show cs=cs.drop 0 from rfl]
 exact ⟨(cs.drop 0).take 1,cs.drop 1,by rw [← List.drop_drop (i:=1) (j:=0),List.take_append_drop],K0,⟨(cs.drop 1).take 1,cs.drop 2,by rw [← List.drop_drop (i:=1) (j:=1),List.take_append_drop],K1,⟨(cs.drop 2).take 1,cs.drop 3,by rw [← List.drop_drop (i:=1) (j:=2),List.take_append_drop],K2,(by rw [show cs.drop 3=(cs.drop 3).take 1 from (List.take_of_length_le (by rw [List.length_drop];omega)).symm];exact K3)⟩⟩⟩
def QS56 (b:Nat) (a:S56):Prop:=(Qint .i64) b a.f0∧(Qint .i64) b a.f1∧(Qint .i64) b a.f2∧(Qint .i64) b a.f3∧(Qint .i64) b a.f4∧(QAll (Qint .u8)) b a.f5∧(QAll QS82) b a.f6∧(QAll (Qint .u8)) b a.f7
theorem QS56.mono:∀ b b' a,b≤b'→QS56 b a→QS56 b' a:=fun b b' a h hq => ⟨(Qint.mono .i64) b b' a.f0 h hq.1,(Qint.mono .i64) b b' a.f1 h hq.2.1,(Qint.mono .i64) b b' a.f2 h hq.2.2.1,(Qint.mono .i64) b b' a.f3 h hq.2.2.2.1,(Qint.mono .i64) b b' a.f4 h hq.2.2.2.2.1,(QAll.mono (Qint.mono .u8)) b b' a.f5 h hq.2.2.2.2.2.1,(QAll.mono QS82.mono) b b' a.f6 h hq.2.2.2.2.2.2.1,(QAll.mono (Qint.mono .u8)) b b' a.f7 h hq.2.2.2.2.2.2.2⟩
theorem fits56 {H:Type} (enc:TypeId × Value→H) (W:World):Fits enc Tryd.prog W 56 k56 QS56:=by
 intro fuel cs x p h
 obtain ⟨xs,n,rfl,hx,hlen,hxl,hall⟩:=DataW.trod_struct Tryd.underlying56 h
 have hx1:=(Prod.mk.inj hx).1
 have hb:∀ z ∈ xs,Rows.uptoBulk z.1≤Rows.uptoBulk x:=by
  intro z hz
  rw [hx1]
  simp only [Rows.uptoBulk]
  have:=bulk_part_le (List.mem_map_of_mem (f:=(·.1)) hz)
  omega
 have hl:cs.length=8:=hlen.trans (by kernel_rfl)
 have hxl':xs.length=8:=hxl
 have e0:=hall 0 _ rfl
 obtain ⟨z0,hz0⟩:∃ z,xs[0]?=some z:=⟨xs[0]'(by omega),List.getElem?_eq_getElem (by omega)⟩
 rw [hz0] at e0
 have c0:Tryd.prog.cellsOf 3=1:=by kernel_rfl
 replace e0:DataW.trod enc Tryd.prog W 0 (fun _ => true) true n 3 ((cs.drop 0).take 1)=some z0:=by rw [← c0];exact e0
 obtain ⟨a0,K0,q0⟩:=(Fits.int Tryd.underlying3) n _ z0.1 z0.2 e0
 replace q0:=(Qint.mono .i64) _ _ _ (hb z0 (List.mem_of_getElem? hz0)) q0
 have e1:=hall 1 _ rfl
 obtain ⟨z1,hz1⟩:∃ z,xs[1]?=some z:=⟨xs[1]'(by omega),List.getElem?_eq_getElem (by omega)⟩
 rw [hz1] at e1
 have c1:Tryd.prog.cellsOf 3=1:=by kernel_rfl
 replace e1:DataW.trod enc Tryd.prog W 0 (fun _ => true) true n 3 ((cs.drop 1).take 1)=some z1:=by rw [← c1];exact e1
 obtain ⟨a1,K1,q1⟩:=(Fits.int Tryd.underlying3) n _ z1.1 z1.2 e1
 replace q1:=(Qint.mono .i64) _ _ _ (hb z1 (List.mem_of_getElem? hz1)) q1
 have e2:=hall 2 _ rfl
 obtain ⟨z2,hz2⟩:∃ z,xs[2]?=some z:=⟨xs[2]'(by omega),List.getElem?_eq_getElem (by omega)⟩
 rw [hz2] at e2
 have c2:Tryd.prog.cellsOf 3=1:=by kernel_rfl
 replace e2:DataW.trod enc Tryd.prog W 0 (fun _ => true) true n 3 ((cs.drop 2).take 1)=some z2:=by rw [← c2];exact e2
 obtain ⟨a2,K2,q2⟩:=(Fits.int Tryd.underlying3) n _ z2.1 z2.2 e2
 replace q2:=(Qint.mono .i64) _ _ _ (hb z2 (List.mem_of_getElem? hz2)) q2
 have e3:=hall 3 _ rfl
 obtain ⟨z3,hz3⟩:∃ z,xs[3]?=some z:=⟨xs[3]'(by omega),List.getElem?_eq_getElem (by omega)⟩
 rw [hz3] at e3
 have c3:Tryd.prog.cellsOf 3=1:=by kernel_rfl
 replace e3:DataW.trod enc Tryd.prog W 0 (fun _ => true) true n 3 ((cs.drop 3).take 1)=some z3:=by rw [← c3];exact e3
 obtain ⟨a3,K3,q3⟩:=(Fits.int Tryd.underlying3) n _ z3.1 z3.2 e3
 replace q3:=(Qint.mono .i64) _ _ _ (hb z3 (List.mem_of_getElem? hz3)) q3
 have e4:=hall 4 _ rfl
 obtain ⟨z4,hz4⟩:∃ z,xs[4]?=some z:=⟨xs[4]'(by omega),List.getElem?_eq_getElem (by omega)⟩
 rw [hz4] at e4
 have c4:Tryd.prog.cellsOf 3=1:=by kernel_rfl
 replace e4:DataW.trod enc Tryd.prog W 0 (fun _ => true) true n 3 ((cs.drop 4).take 1)=some z4:=by rw [← c4];exact e4
 obtain ⟨a4,K4,q4⟩:=(Fits.int Tryd.underlying3) n _ z4.1 z4.2 e4
 replace q4:=(Qint.mono .i64) _ _ _ (hb z4 (List.mem_of_getElem? hz4)) q4
 have e5:=hall 5 _ rfl
 obtain ⟨z5,hz5⟩:∃ z,xs[5]?=some z:=⟨xs[5]'(by omega),List.getElem?_eq_getElem (by omega)⟩
 rw [hz5] at e5
 have c5:Tryd.prog.cellsOf 27=1:=by kernel_rfl
 replace e5:DataW.trod enc Tryd.prog W 0 (fun _ => true) true n 27 ((cs.drop 5).take 1)=some z5:=by rw [← c5];exact e5
 obtain ⟨a5,K5,q5⟩:=(Fits.slice (Qint.mono .u8) Tryd.underlying27 (by kernel_rfl) (Fits.int Tryd.underlying5)) n _ z5.1 z5.2 e5
 replace q5:=(QAll.mono (Qint.mono .u8)) _ _ _ (hb z5 (List.mem_of_getElem? hz5)) q5
 have e6:=hall 6 _ rfl
 obtain ⟨z6,hz6⟩:∃ z,xs[6]?=some z:=⟨xs[6]'(by omega),List.getElem?_eq_getElem (by omega)⟩
 rw [hz6] at e6
 have c6:Tryd.prog.cellsOf 54=1:=by kernel_rfl
 replace e6:DataW.trod enc Tryd.prog W 0 (fun _ => true) true n 54 ((cs.drop 6).take 1)=some z6:=by rw [← c6];exact e6
 obtain ⟨a6,K6,q6⟩:=(Fits.slice QS82.mono Tryd.underlying54 (by kernel_rfl) (fits82 enc W)) n _ z6.1 z6.2 e6
 replace q6:=(QAll.mono QS82.mono) _ _ _ (hb z6 (List.mem_of_getElem? hz6)) q6
 have e7:=hall 7 _ rfl
 obtain ⟨z7,hz7⟩:∃ z,xs[7]?=some z:=⟨xs[7]'(by omega),List.getElem?_eq_getElem (by omega)⟩
 rw [hz7] at e7
 have c7:Tryd.prog.cellsOf 27=1:=by kernel_rfl
 replace e7:DataW.trod enc Tryd.prog W 0 (fun _ => true) true n 27 ((cs.drop 7).take 1)=some z7:=by rw [← c7];exact e7
 obtain ⟨a7,K7,q7⟩:=(Fits.slice (Qint.mono .u8) Tryd.underlying27 (by kernel_rfl) (Fits.int Tryd.underlying5)) n _ z7.1 z7.2 e7
 replace q7:=(QAll.mono (Qint.mono .u8)) _ _ _ (hb z7 (List.mem_of_getElem? hz7)) q7
 refine ⟨⟨a0,a1,a2,a3,a4,a5,a6,a7⟩,?_,⟨q0,q1,q2,q3,q4,q5,q6,q7⟩⟩
 rw [show cs=cs.drop 0 from rfl]
 exact ⟨(cs.drop 0).take 1,cs.drop 1,by rw [← List.drop_drop (i:=1) (j:=0),List.take_append_drop],K0,⟨(cs.drop 1).take 1,cs.drop 2,by rw [← List.drop_drop (i:=1) (j:=1),List.take_append_drop],K1,⟨(cs.drop 2).take 1,cs.drop 3,by rw [← List.drop_drop (i:=1) (j:=2),List.take_append_drop],K2,⟨(cs.drop 3).take 1,cs.drop 4,by rw [← List.drop_drop (i:=1) (j:=3),List.take_append_drop],K3,⟨(cs.drop 4).take 1,cs.drop 5,by rw [← List.drop_drop (i:=1) (j:=4),List.take_append_drop],K4,⟨(cs.drop 5).take 1,cs.drop 6,by rw [← List.drop_drop (i:=1) (j:=5),List.take_append_drop],K5,⟨(cs.drop 6).take 1,cs.drop 7,by rw [← List.drop_drop (i:=1) (j:=6),List.take_append_drop],K6,(by rw [show cs.drop 7=(cs.drop 7).take 1 from (List.take_of_length_le (by rw [List.length_drop];omega)).symm];exact K7)⟩⟩⟩⟩⟩⟩⟩
theorem open26 {H:Type} (enc:TypeId × Value→H) (W:World) (fuel:Nat) (cs:List Value) (x:DataW H) (p:List MemPlace) (h:DataW.trod enc Tryd.prog W 0 (fun _ => true) true fuel 26 cs=some (x,p)) (b:Nat) (hbb:Rows.uptoBulk x≤b):∃ (A0:Option Addr) (c0:Nat) (a0:List S67) (a1:Int) (a2:Int) (A3:Option Addr) (c3:Nat) (a3:List S53) (A4:Option Addr) (c4:Nat) (a4:List S56),cs=[.slice A0 a0.length c0,.int .i64 a1,.int .i64 a2,.slice A3 a3.length c3,.slice A4 a4.length c4]∧(k67.C W A0 a0.length a0)∧(a0.length≤c0)∧(k53.C W A3 a3.length a3)∧(a3.length≤c3)∧(k56.C W A4 a4.length a4)∧(a4.length≤c4)∧((QAll QS67) b a0)∧((Qint .i64) b a1)∧((Qint .i64) b a2)∧((QAll QS53) b a3)∧((QAll QS56) b a4):=by
 obtain ⟨xs,n,rfl,hx,hlen,hxl,hall⟩:=DataW.trod_struct Tryd.underlying26 h
 have hx1:=(Prod.mk.inj hx).1
 have hb:∀ z ∈ xs,Rows.uptoBulk z.1≤Rows.uptoBulk x:=by
  intro z hz
  rw [hx1]
  simp only [Rows.uptoBulk]
  have:=bulk_part_le (List.mem_map_of_mem (f:=(·.1)) hz)
  omega
 have hl:cs.length=5:=hlen.trans (by kernel_rfl)
 have hxl':xs.length=5:=hxl
 obtain ⟨y0,y1,y2,y3,y4,rfl⟩:∃ y0 y1 y2 y3 y4,cs=[y0,y1,y2,y3,y4]:=by
  match cs,hl with
  | [y0,y1,y2,y3,y4],_ => exact ⟨y0,y1,y2,y3,y4,rfl⟩
 have e0:=hall 0 _ rfl
 obtain ⟨z0,hz0⟩:∃ z,xs[0]?=some z:=⟨xs[0]'(by omega),List.getElem?_eq_getElem (by omega)⟩
 rw [hz0] at e0
 have k0:Tryd.prog.cellsOf 22=1:=by kernel_rfl
 replace e0:DataW.trod enc Tryd.prog W 0 (fun _ => true) true n 22 [y0]=some z0:=by first|exact e0|(rw [k0] at e0;exact e0)
 obtain ⟨a0,⟨A0,c0,hc0,hp0,hr0⟩,q0⟩:=(Fits.slice QS67.mono Tryd.underlying22 (by kernel_rfl) (fits67 enc W)) n _ z0.1 z0.2 e0
 replace q0:=(QAll.mono QS67.mono) _ b _ (Nat.le_trans (hb z0 (List.mem_of_getElem? hz0)) hbb) q0
 obtain rfl:y0=_:=List.head_eq_of_cons_eq hc0
 have e1:=hall 1 _ rfl
 obtain ⟨z1,hz1⟩:∃ z,xs[1]?=some z:=⟨xs[1]'(by omega),List.getElem?_eq_getElem (by omega)⟩
 rw [hz1] at e1
 have k1:Tryd.prog.cellsOf 3=1:=by kernel_rfl
 replace e1:DataW.trod enc Tryd.prog W 0 (fun _ => true) true n 3 [y1]=some z1:=by first|exact e1|(rw [k1] at e1;exact e1)
 obtain ⟨a1,hc1,q1⟩:=(Fits.int Tryd.underlying3) n _ z1.1 z1.2 e1
 replace q1:=(Qint.mono .i64) _ b _ (Nat.le_trans (hb z1 (List.mem_of_getElem? hz1)) hbb) q1
 obtain rfl:y1=_:=List.head_eq_of_cons_eq hc1
 have e2:=hall 2 _ rfl
 obtain ⟨z2,hz2⟩:∃ z,xs[2]?=some z:=⟨xs[2]'(by omega),List.getElem?_eq_getElem (by omega)⟩
 rw [hz2] at e2
 have k2:Tryd.prog.cellsOf 3=1:=by kernel_rfl
 replace e2:DataW.trod enc Tryd.prog W 0 (fun _ => true) true n 3 [y2]=some z2:=by first|exact e2|(rw [k2] at e2;exact e2)
 obtain ⟨a2,hc2,q2⟩:=(Fits.int Tryd.underlying3) n _ z2.1 z2.2 e2
 replace q2:=(Qint.mono .i64) _ b _ (Nat.le_trans (hb z2 (List.mem_of_getElem? hz2)) hbb) q2
 obtain rfl:y2=_:=List.head_eq_of_cons_eq hc2
 have e3:=hall 3 _ rfl
 obtain ⟨z3,hz3⟩:∃ z,xs[3]?=some z:=⟨xs[3]'(by omega),List.getElem?_eq_getElem (by omega)⟩
 rw [hz3] at e3
 have k3:Tryd.prog.cellsOf 23=1:=by kernel_rfl
 replace e3:DataW.trod enc Tryd.prog W 0 (fun _ => true) true n 23 [y3]=some z3:=by first|exact e3|(rw [k3] at e3;exact e3)
 obtain ⟨a3,⟨A3,c3,hc3,hp3,hr3⟩,q3⟩:=(Fits.slice QS53.mono Tryd.underlying23 (by kernel_rfl) (fits53 enc W)) n _ z3.1 z3.2 e3
 replace q3:=(QAll.mono QS53.mono) _ b _ (Nat.le_trans (hb z3 (List.mem_of_getElem? hz3)) hbb) q3
 obtain rfl:y3=_:=List.head_eq_of_cons_eq hc3
 have e4:=hall 4 _ rfl
 obtain ⟨z4,hz4⟩:∃ z,xs[4]?=some z:=⟨xs[4]'(by omega),List.getElem?_eq_getElem (by omega)⟩
 rw [hz4] at e4
 have k4:Tryd.prog.cellsOf 24=1:=by kernel_rfl
 replace e4:DataW.trod enc Tryd.prog W 0 (fun _ => true) true n 24 [y4]=some z4:=by first|exact e4|(rw [k4] at e4;exact e4)
 obtain ⟨a4,⟨A4,c4,hc4,hp4,hr4⟩,q4⟩:=(Fits.slice QS56.mono Tryd.underlying24 (by kernel_rfl) (fits56 enc W)) n _ z4.1 z4.2 e4
 replace q4:=(QAll.mono QS56.mono) _ b _ (Nat.le_trans (hb z4 (List.mem_of_getElem? hz4)) hbb) q4
 obtain rfl:y4=_:=List.head_eq_of_cons_eq hc4
 exact ⟨A0,c0,a0,a1,a2,A3,c3,a3,A4,c4,a4,rfl,hr0,hp0,hr3,hp3,hr4,hp4,q0,q1,q2,q3,q4⟩
end Go.Proofs.YtbgniepcoaiinaaDoor.Px
namespace Go.Proofs.YtbgniepcoaiinaaDoor.Px
open Go.RowKit Go.Extern.Stop Go.Stop Go.Extern
set_option linter.unusedVariables false
set_option linter.unusedSimpArgs false
theorem as_nil (t:Value) (w:World) :
  Calls Tryd.prog 50 #[.nilIface,t] w fun e w' => e=.returned (.bool false)∧w'=w:=by
 go_enter Tryd.func50,Tryd.ntmps50
 go_wp2
 go_ret
 exact ⟨rfl,rfl⟩
theorem as_valueOf27 (t:Addr) (w:World):(ReflectliteValue.unpack (.iface 103 (.pointer (some t)))).run Tryd.prog w
  = .ok (.agg #[.pointer (some ⟨3,103,none⟩),.pointer (some ⟨w.heap.size,0,none⟩),.int .u64 150]) (w.alloc (.cells #[.pointer (some t)] 103)):=by kernel_rfl
theorem as_type27 (a : Addr) (w : World) : (ReflectliteValue.methodAny (ReflectliteValue.valueError "reflectlite.Value.Type" 0) (fun t _ _ _ => ReflectliteType.toType t) #[.agg #[.pointer (some ⟨3, 103, none⟩), .pointer (some a), .int .u64 150]]).run Tryd.prog w
  = .ok (.iface 154 (.agg #[.pointer (some ⟨3,103,none⟩)])) w:=by kernel_rfl
theorem as_methodKind (h : Value) (w : World) : (Go.method 310 154 (.agg #[h]) "Kind").run Tryd.prog w = .ok (117, h) w := by kernel_rfl
theorem as_kind27 (w:World):((ReflectliteType.abiMethod fun t => (fun a:Nat => Value.int IntKind.u8 (a:Int)) <$> Rtype.kind t) #[.pointer (some ⟨3,103,none⟩)]).run Tryd.prog w=.ok (.int .u8 22) w:=by kernel_rfl
theorem as_kind25 (w:World):((ReflectliteType.abiMethod fun t => (fun a:Nat => Value.int IntKind.u8 (a:Int)) <$> Rtype.kind t) #[.pointer (some ⟨3,98,none⟩)]).run Tryd.prog w=.ok (.int .u8 22) w:=by kernel_rfl
theorem rlm (z:Sem Value) (f:TypeId→Addr→Nat→Nat→Sem Value) (v:Value) :
  ReflectliteValue.method z f #[v]=(do match ← ReflectliteValue.parts v with|none => z|some (t,a,fl) => f t a fl (fl % 32)):=rfl
theorem as_parts27 (a:Addr) (w:World):(ReflectliteValue.parts (.agg #[.pointer (some ⟨3,103,none⟩),.pointer (some a),.int .u64 150])).run Tryd.prog w=.ok (some (103,a,150)) w:=by kernel_rfl
theorem as_isNil27 (a p:Addr) (W:World) (ha:W.cell? a=some (.pointer (some p))) :
  (ReflectliteValue.method (ReflectliteValue.valueError "reflectlite.Value.IsNil" 0) ReflectliteValue.isNil #[.agg #[.pointer (some ⟨3, 103, none⟩), .pointer (some a), .int .u64 150]]).run Tryd.prog W = .ok (.bool false) W := by
 rw [rlm]
 simp only [Sem.run_bind,as_parts27,Result.andThen]
 simp [ReflectliteValue.isNil,loadVar,isAgg,underlying,Tryd.underlying103,ha,Result.andThen]
theorem as_methodElem (h : Value) (w : World) : (Go.method 310 154 (.agg #[h]) "Elem").run Tryd.prog w = .ok (129, .agg #[h]) w := by kernel_rfl
theorem as_methodImplements (h : Value) (w : World) : (Go.method 310 154 (.agg #[h]) "Implements").run Tryd.prog w = .ok (130, .agg #[h]) w := by kernel_rfl
theorem as_methodAssignableTo (h : Value) (w : World) : (Go.method 310 154 (.agg #[h]) "AssignableTo").run Tryd.prog w = .ok (127, .agg #[h]) w := by kernel_rfl
theorem as_elem27 (w:World):(ReflectliteType.method ReflectliteType.elem #[.agg #[.pointer (some ⟨3,103,none⟩)]]).run Tryd.prog w=.ok (.iface 154 (.agg #[.pointer (some ⟨3,98,none⟩)])) w:=by kernel_rfl
theorem as_implements25 (w : World) : (ReflectliteType.relation "Implements" ReflectliteType.implements_ #[.agg #[.pointer (some ⟨3, 98, none⟩)], .iface 154 (.agg #[.pointer (some ⟨3, 101, none⟩)])]).run Tryd.prog w = .ok (.bool true) w := by kernel_rfl
theorem as_typeOf25 (v:Value) (w:World):(ReflectliteType.typeOf #[.iface 98 v]).run Tryd.prog w=.ok (.iface 154 (.agg #[.pointer (some ⟨3,98,none⟩)])) w:=by kernel_rfl
theorem as_assignable25 (w : World) : (ReflectliteType.relation "AssignableTo" ReflectliteType.assignableTo #[.agg #[.pointer (some ⟨3, 98, none⟩)], .iface 154 (.agg #[.pointer (some ⟨3, 98, none⟩)])]).run Tryd.prog w = .ok (.bool true) w := by kernel_rfl
theorem as_valueOf25 (e:Addr) (w:World):(ReflectliteValue.unpack (.iface 98 (.pointer (some e)))).run Tryd.prog w
  = .ok (.agg #[.pointer (some ⟨3,98,none⟩),.pointer (some ⟨w.heap.size,0,none⟩),.int .u64 150]) (w.alloc (.cells #[.pointer (some e)] 98)):=by kernel_rfl
theorem as_elemOf27 (w:World):(Rtype.elem? 103).run Tryd.prog w=.ok (some 98) w:=by kernel_rfl
theorem as_mk25 (p:Addr) (w:World):(ReflectliteValue.mk 98 p ReflectliteValue.flagAddr).run Tryd.prog w=.ok (.agg #[.pointer (some ⟨3,98,none⟩),.pointer (some p),.int .u64 406]) w:=by kernel_rfl
theorem as_elemV27 (a p:Addr) (W:World) (ha:W.cell? a=some (.pointer (some p))) :
  (ReflectliteValue.method (ReflectliteValue.valueError "reflectlite.Value.Elem" 0) ReflectliteValue.elem #[.agg #[.pointer (some ⟨3, 103, none⟩), .pointer (some a), .int .u64 150]]).run Tryd.prog W
   = .ok (.agg #[.pointer (some ⟨3,98,none⟩),.pointer (some p),.int .u64 406]) W:=by
 rw [rlm]
 simp only [Sem.run_bind,as_parts27,Result.andThen]
 simp [ReflectliteValue.elem,loadVar,isAgg,underlying,Tryd.underlying103,ha,Result.andThen,as_elemOf27,as_mk25]
theorem rls (v x:Value):ReflectliteValue.set #[v,x]=(do
  let (some (dst,a,fl),some (src,b,_)):=(← ReflectliteValue.parts v,← ReflectliteValue.parts x)
   | unsupported (.noEntry "extern/(internal/reflectlite.Value).Set.zeroValue")
  if fl / ReflectliteValue.flagAddr % 2 == 0 then unsupported (.noEntry "extern/(internal/reflectlite.Value).Set.unaddressable")
  let val ← loadVar src b
  if ← Rtype.directlyAssignable dst src then storeVar dst a val
  else if ← Rtype.implements dst src then
   if (← Rtype.kind src)==20 then
    match val with
    | .nilIface => unsupported (.noEntry "extern/reflectlite: a nil value of one interface type handed on as a value of another")
    | _ => storeVar dst a val
   else storeVar dst a (.iface src val)
  else panicString ("reflectlite.Set: value of type " ++ (← Rtype.spelt src) ++ " is not assignable to type " ++ (← Rtype.spelt dst))
  pure (.tuple #[])):=rfl
theorem as_parts25a (a:Addr) (w:World):(ReflectliteValue.parts (.agg #[.pointer (some ⟨3,98,none⟩),.pointer (some a),.int .u64 406])).run Tryd.prog w=.ok (some (98,a,406)) w:=by kernel_rfl
theorem as_parts25 (a:Addr) (w:World):(ReflectliteValue.parts (.agg #[.pointer (some ⟨3,98,none⟩),.pointer (some a),.int .u64 150])).run Tryd.prog w=.ok (some (98,a,150)) w:=by kernel_rfl
theorem as_direct25 (w:World):(Rtype.directlyAssignable 98 98).run Tryd.prog w=.ok true w:=by kernel_rfl
theorem as_set25 (ta b e:Addr) (old:Value) (W:World) (hb:W.cell? b=some (.pointer (some e))) (ht:W.cell? ta=some old) (hf:W.frozen? ta=false) :
  (ReflectliteValue.set #[.agg #[.pointer (some ⟨3,98,none⟩),.pointer (some ta),.int .u64 406],.agg #[.pointer (some ⟨3,98,none⟩),.pointer (some b),.int .u64 150]]).run Tryd.prog W
   = .ok (.tuple #[]) (W.setCell ta (.pointer (some e))):=by
 rw [rls]
 simp only [Sem.run_bind,as_parts25a,as_parts25,Result.andThen]
 simp [ReflectliteValue.flagAddr,loadVar,isAgg,underlying,Tryd.underlying98,hb,Result.andThen,as_direct25,storeVar,Value.cells,storeCells,Addr.add]
 rw [run_store Tryd.prog W ta _ _ (by rfl)]
 simp [ht,hf]
set_option maxHeartbeats 4000000 in
theorem as_hit (e t:Addr) (old:Value) (w:World) (hg:w.cell? ⟨0,0,none⟩=some (.iface 154 (.agg #[.pointer (some ⟨3,101,none⟩)]))) (ht0:w.cell? t=some old) (hf0:w.frozen? t=false) :
  Calls Tryd.prog 50 #[.iface 98 (.pointer (some e)),.iface 103 (.pointer (some t))] w fun ev w' => ev=.returned (.bool true)∧w'=((((w.alloc (.cells #[.pointer (some t)] 103)).alloc (.cells #[.pointer (some ⟨3,103,none⟩),.pointer (some ⟨w.heap.size,0,none⟩),.int .u64 150] 129)).alloc (.cells #[.pointer (some ⟨3,103,none⟩),.pointer (some ⟨w.heap.size,0,none⟩),.int .u64 150] 129)).alloc (.cells #[.pointer (some e)] 98)).setCell t (.pointer (some e)):=by
 have h6:=@run_callFunc_extern Tryd.prog 72 _ (fun args => ReflectliteValue.unpack (args.getD 0 (.tuple #[]))) Tryd.func72 (by kernel_rfl) (by kernel_rfl) (by kernel_rfl) (by kernel_rfl)
 have h7 := @run_callFunc_extern Tryd.prog 73 _ (ReflectliteValue.methodAny (ReflectliteValue.valueError "reflectlite.Value.Type" 0) (fun t _ _ _ => ReflectliteType.toType t)) Tryd.func73 (by kernel_rfl) (by kernel_rfl) (by kernel_rfl) (by kernel_rfl)
 have h8 := @run_callFunc_extern Tryd.prog 74 _ (ReflectliteValue.method (ReflectliteValue.valueError "reflectlite.Value.IsNil" 0) ReflectliteValue.isNil) Tryd.func74 (by kernel_rfl) (by kernel_rfl) (by kernel_rfl) (by kernel_rfl)
 have h27:=@run_callFunc_extern Tryd.prog 117 _ (ReflectliteType.abiMethod fun t => do pure (.int .u8 (← Rtype.kind t))) Tryd.func117 (by kernel_rfl) (by kernel_rfl) (by kernel_rfl) (by kernel_rfl)
 have h37:=@run_callFunc_extern Tryd.prog 129 _ (ReflectliteType.method ReflectliteType.elem) Tryd.func129 (by kernel_rfl) (by kernel_rfl) (by kernel_rfl) (by kernel_rfl)
 have h38 := @run_callFunc_extern Tryd.prog 130 _ (ReflectliteType.relation "Implements" ReflectliteType.implements_) Tryd.func130 (by kernel_rfl) (by kernel_rfl) (by kernel_rfl) (by kernel_rfl)
 have h10:=@run_callFunc_extern Tryd.prog 88 _ ReflectliteType.typeOf Tryd.func88 (by kernel_rfl) (by kernel_rfl) (by kernel_rfl) (by kernel_rfl)
 have h35 := @run_callFunc_extern Tryd.prog 127 _ (ReflectliteType.relation "AssignableTo" ReflectliteType.assignableTo) Tryd.func127 (by kernel_rfl) (by kernel_rfl) (by kernel_rfl) (by kernel_rfl)
 have h11 := @run_callFunc_extern Tryd.prog 89 _ (ReflectliteValue.method (ReflectliteValue.valueError "reflectlite.Value.Elem" 0) ReflectliteValue.elem) Tryd.func89 (by kernel_rfl) (by kernel_rfl) (by kernel_rfl) (by kernel_rfl)
 have h12:=@run_callFunc_extern Tryd.prog 90 _ ReflectliteValue.set Tryd.func90 (by kernel_rfl) (by kernel_rfl) (by kernel_rfl) (by kernel_rfl)
 have tO:=as_typeOf25
 have mA:=as_methodAssignableTo
 have a25:=as_assignable25
 have v25:=as_valueOf25
 have f6:=as_valueOf27
 have f7:=as_type27
 have mK:=as_methodKind
 have mE:=as_methodElem
 have mI:=as_methodImplements
 have k27:=as_kind27
 have k25:=as_kind25
 have e27:=as_elem27
 have i25:=as_implements25
 have n8:=as_isNil27 ⟨w.heap.size,0,none⟩ t ((w.alloc (.cells #[.pointer (some t)] 103)).alloc (.cells #[.pointer (some ⟨3,103,none⟩),.pointer (some ⟨w.heap.size,0,none⟩),.int .u64 150] 129)) (by simp)
 have hlt:0 < w.heap.size:=by
  rcases Nat.lt_or_ge 0 w.heap.size with h|h
  ·exact h
  ·simp [World.cell?,Array.getElem?_eq_none h] at hg
 have hg2:((w.alloc (.cells #[.pointer (some t)] 103)).alloc (.cells #[.pointer (some ⟨3,103,none⟩),.pointer (some ⟨w.heap.size,0,none⟩),.int .u64 150] 129)).cell? ⟨0,0,none⟩=some (.iface 154 (.agg #[.pointer (some ⟨3,101,none⟩)])):=by
  rw [World.cell?_alloc_lt _ _ ⟨0,0,none⟩ (by simp <;> omega),World.cell?_alloc_lt _ _ ⟨0,0,none⟩ hlt];exact hg
 have htl:t.block < w.heap.size:=by
  rcases Nat.lt_or_ge t.block w.heap.size with h|h
  ·exact h
  ·simp [World.cell?,Array.getElem?_eq_none h] at ht0
 have el:=as_elemV27 ⟨w.heap.size,0,none⟩ t (((w.alloc (.cells #[.pointer (some t)] 103)).alloc (.cells #[.pointer (some ⟨3,103,none⟩),.pointer (some ⟨w.heap.size,0,none⟩),.int .u64 150] 129)).alloc (.cells #[.pointer (some ⟨3,103,none⟩),.pointer (some ⟨w.heap.size,0,none⟩),.int .u64 150] 129)) (by rw [World.cell?_alloc_lt _ _ ⟨w.heap.size,0,none⟩ (by simp <;> omega)];simp)
 have st:=as_set25 t ⟨w.heap.size + 1 + 1 + 1,0,none⟩ e old ((((w.alloc (.cells #[.pointer (some t)] 103)).alloc (.cells #[.pointer (some ⟨3,103,none⟩),.pointer (some ⟨w.heap.size,0,none⟩),.int .u64 150] 129)).alloc (.cells #[.pointer (some ⟨3,103,none⟩),.pointer (some ⟨w.heap.size,0,none⟩),.int .u64 150] 129)).alloc (.cells #[.pointer (some e)] 98))
  (by rw [World.cell?_alloc_at _ _ _ _ (by simp)];rfl)
  (by rw [World.cell?_alloc_lt _ _ t (by simp <;> omega),World.cell?_alloc_lt _ _ t (by simp <;> omega),World.cell?_alloc_lt _ _ t (by simp <;> omega),World.cell?_alloc_lt _ _ t htl];exact ht0)
  (by rw [World.frozen?_alloc_old _ _ t (by simp <;> omega),World.frozen?_alloc_old _ _ t (by simp <;> omega),World.frozen?_alloc_old _ _ t (by simp <;> omega),World.frozen?_alloc_old _ _ t (Nat.ne_of_lt htl)];exact hf0)
 go_enter Tryd.func50,Tryd.ntmps50
 go_wp2
 refine wp_loop_rounds 1 ?_
 rw [rounds_succ]
 go_wp2
 go_ret
 exact ⟨rfl,rfl⟩
end Go.Proofs.YtbgniepcoaiinaaDoor.Px
namespace Go.Proofs.YtbgniepcoaiinaaDoor.Px
open Go.RowKit Go.Proofs.YtbgniepcoaiinaaDoorW.PrintWords Go.Proofs.YtbgniepcoaiinaaDoorW.PrintLast Go.Proofs.YtbgniepcoaiinaaDoorW.PrintMore
attribute [local go_sem] max2_int min2_int max_two min_two max_three min_three max_four min_four
set_option linter.unusedVariables false
set_option linter.unusedSimpArgs false
def text_split.f (a0:Int):Option (Int × Int):=if a0 < 65536 then (some (0,a0)) else (some (wrap32 (55296 + ((wrap32 (a0 - 65536)) / 1024)),wrap32 (56320 + (Go.bits .and .i32 (wrap32 (a0 - 65536)) 1023))))
set_option maxHeartbeats 80000000 in
set_option maxRecDepth 100000 in
theorem text_split.calls (a0:Int) (r1:Int) (r2:Int) (w:World) (h:text_split.f a0=some (r1,r2)) :
  Calls Tryd.prog 63 #[.int .i32 a0] w fun e w' => e=.returned (.tuple #[.int .i32 r1,.int .i32 r2])∧Drawn0 w w':=by
 have H:(if a0 < 65536 then (some (0,a0)) else (some (wrap32 (55296 + ((wrap32 (a0 - 65536)) / 1024)),wrap32 (56320 + (Go.bits .and .i32 (wrap32 (a0 - 65536)) 1023)))))=some (r1,r2):=h
 clear h
 by_cases c2:a0 < 65536
 ·rw [if_pos c2] at H
  have c2b0:decide (a0 < 65536)=true:=decide_eq_true c2
  clear c2
  simp only [Option.some.injEq,Prod.mk.injEq] at H
  obtain ⟨rfl,rfl⟩:=H
  go_enter Tryd.func63,Tryd.ntmps63
  go_wp2
  go_ret2
  exact ⟨by first|rfl|(simp;done)|(simp [*];done),by repeat (first|exact Drawn0.refl _|apply Drawn0.step)⟩
 ·rw [if_neg c2] at H
  have c2b0:decide (a0 < 65536)=false:=decide_eq_false c2
  clear c2
  simp only [Option.some.injEq,Prod.mk.injEq] at H
  obtain ⟨rfl,rfl⟩:=H
  go_enter Tryd.func63,Tryd.ntmps63
  go_wp2
  go_ret2
  exact ⟨by first|rfl|(simp;done)|(simp [*];done),by repeat (first|exact Drawn0.refl _|apply Drawn0.step)⟩
def text_unit.j0:Nat→List Int→Int→Bool→Option (List Int)
 | 0,_,_,_ => none
 | k + 1,x0,x1,x5 => if x5=true then (if x0.length < 140737488355328 then (some (x0++[(x1) % 256])) else (none)) else (if x1 < 2048 then ((some (([Go.bits .or .u8 192 ((x1 / 64) % 256),Go.bits .or .u8 128 ((Go.bits .and .i32 x1 63) % 256)]:List Int):List Int)).bind fun y104 => (if x0.length + y104.length < 140737488355328 then (some (x0++y104)) else (none))) else ((some (([Go.bits .or .u8 224 ((x1 / 4096) % 256),Go.bits .or .u8 128 ((Go.bits .and .i32 (x1 / 64) 63) % 256),Go.bits .or .u8 128 ((Go.bits .and .i32 x1 63) % 256)]:List Int):List Int)).bind fun y110 => (if x0.length + y110.length < 140737488355328 then (some (x0++y110)) else (none))))
def text_unit.f (k:Nat) (l0:List Int) (a1:Int):Option (List Int):=if a1 > 0 then (text_unit.j0 k l0 a1 (decide (a1 < 128))) else (text_unit.j0 k l0 a1 false)
theorem text_unit.mono_l:∀ k,(∀ y0 y1 y2,LeO (text_unit.j0 k y0 y1 y2) (text_unit.j0 (k + 1) y0 y1 y2))
 | 0 => fun _ _ _ r h => by simp [text_unit.j0] at h
 | k + 1 => by
  have ih0:=text_unit.mono_l k
  ·intro y0 y1 y2
   unfold text_unit.j0
   repeat' first
   | (with_reducible exact ih0 _ _ _)
   | (with_reducible exact LeO.refl _)
   | (with_reducible exact LeO.none _)
   | (with_reducible refine LeO.ite ?_ ?_)
   | (with_reducible refine LeO.bind ?_ (fun _ => ?_))
   | exact ih0 _ _ _
   | exact LeO.none _
   | refine LeO.ite ?_ ?_
   | refine LeO.bind ?_ (fun _ => ?_)
theorem text_unit.mono:∀ a0 a1 k,LeO (text_unit.f k a0 a1) (text_unit.f (k + 1) a0 a1):=by
 intro a0 a1 k
 have ih0:=text_unit.mono_l k
 unfold text_unit.f
 repeat' first
   | (with_reducible exact ih0 _ _ _)
   | (with_reducible exact LeO.refl _)
   | (with_reducible exact LeO.none _)
   | (with_reducible refine LeO.ite ?_ ?_)
   | (with_reducible refine LeO.bind ?_ (fun _ => ?_))
   | exact ih0 _ _ _
   | exact LeO.none _
   | refine LeO.ite ?_ ?_
   | refine LeO.bind ?_ (fun _ => ?_)
set_option maxHeartbeats 80000000 in
set_option maxRecDepth 100000 in
theorem text_unit.calls (k:Nat) (P0_:Nat→Prop) (u9000_:Value) (l0:List Int) (a1:Int) (r:List Int) (w0 w:World) (hB:Below w0.heap.size w0 w) (ho0:Kd.R (Kd.int .u8) 5 w w0.heap.size P0_ u9000_ l0) (h:text_unit.f k l0 a1=some r) :
  Calls Tryd.prog 64 #[u9000_,.int .i32 a1] w fun e w' => ∃ v0_:Value,e=.returned (v0_)∧Kd.R (Kd.int .u8) 5 w' w0.heap.size (fun k_ => (P0_ k_ ∨ w.heap.size≤k_)) v0_ r∧Below w0.heap.size w0 w'∧Kept w w' (fun k_ => P0_ k_):=by
 have HO0:=Aside0.mk (show Kd.R (Kd.int .u8) 5 w w0.heap.size (fun k_ => (P0_ k_ ∨ w.heap.size≤k_)) u9000_ l0 from Kd.R_mono ho0 (fun k_ hk => (.inl hk)))
 have HK:=Aside0.mk (Kept.refl w (fun k_ => P0_ k_))
 have HW0:=Aside0.mk hB.size
 have HB:=Aside0.mk hB
 clear hB
 have H:(if a1 > 0 then (text_unit.j0 k l0 a1 (decide (a1 < 128))) else (text_unit.j0 k l0 a1 false))=some r:=h
 clear h
 have HC3:=Aside0.mk H
 clear H
 go_enter Tryd.func64,Tryd.ntmps64
 go_upto_region 1 with (fail)
 go_cut [5] (fun v5 wc => ∃ (kq:Nat) (x5_2:Bool),v5=.bool x5_2∧Aside0 (text_unit.j0 kq l0 a1 x5_2=some r)∧Aside0 (kq≤k)∧Aside0 (Kd.R (Kd.int .u8) 5 wc w0.heap.size (fun k_ => (P0_ k_ ∨ w.heap.size≤k_)) u9000_ l0)∧Aside0 (Kept w wc (fun k_ => P0_ k_))∧Aside0 (Below w0.heap.size w0 wc))
 case first =>
  have H:=HC3.out
  clear HC3
  by_cases c4:a1 > 0
  ·rw [if_pos c4] at H
   have c4b0:decide (0 < a1)=true:=decide_eq_true c4
   clear c4
   (first|rw [c4b0]|(simp only [i64_w,i32_w];rw [c4b0])|skip)
   have H':=Aside0.mk H
   clear H
   go_wp2
   go_meet
   case rel => exact ⟨_,(decide (a1 < 128)),(by first|rfl|(simp;done)|(simp [*];done)),H',⟨by first|omega|exact Nat.le_refl _⟩,⟨by (with_reducible repeat (first|apply Kd.R_alloc|apply Kd.R_drewN|apply Kd.R_drew));exact HO0.out⟩,⟨by repeat (first|(with_reducible first|exact HK.out|apply Kept.alloc|apply Kept.drewN|apply Kept.drew)|exact HK.out)⟩,⟨by repeat (first|(with_reducible first|exact HB.out|apply below_alloc|apply pw_below_drewN|apply below_drew1)|exact HB.out)⟩⟩
  ·rw [if_neg c4] at H
   have c4b0:decide (0 < a1)=false:=decide_eq_false c4
   clear c4
   (first|rw [c4b0]|(simp only [i64_w,i32_w];rw [c4b0])|skip)
   have H':=Aside0.mk H
   clear H
   go_wp2
   go_meet
   case rel => exact ⟨_,(false),(by first|rfl|(simp;done)|(simp [*];done)),H',⟨by first|omega|exact Nat.le_refl _⟩,⟨by (with_reducible repeat (first|apply Kd.R_alloc|apply Kd.R_drewN|apply Kd.R_drew));exact HO0.out⟩,⟨by repeat (first|(with_reducible first|exact HK.out|apply Kept.alloc|apply Kept.drewN|apply Kept.drew)|exact HK.out)⟩,⟨by repeat (first|(with_reducible first|exact HB.out|apply below_alloc|apply pw_below_drewN|apply below_drew1)|exact HB.out)⟩⟩
 case rest =>
  clear HC3
  try clear p2;try clear c4;try clear c4b0
  obtain ⟨kq,x5_2,rfl,HA,HJ2,HO_0,HK,HB⟩:=hcut
  cases kq with
  | zero => exact absurd HA.out (by simp [text_unit.j0])
  | succ kj2 =>
   have H:=HA.out
   clear HA
   simp only [text_unit.j0] at H
   by_cases c5:x5_2=true
   ·subst c5
    have H1:(if l0.length < 140737488355328 then (some (l0++[(a1) % 256])) else (none))=some r:=by rw [if_pos rfl] at H;exact H
    clear H
    have H:=H1
    clear H1
    by_cases c6:l0.length < 140737488355328
    ·rw [if_pos c6] at H
     have LMc6:=Aside0.mk c6
     clear c6
     obtain ⟨y101,hy101⟩:∃ y_:List Int,y_=(l0++[(a1) % 256]):=⟨_,rfl⟩
     replace H:(some y101)=some r:=by first|(rw [hy101];with_reducible exact H)|(have H2_:=(Option.bind_some _ _).symm.trans H;rw [hy101];with_reducible exact H2_)|(have H2_:=(Option.bind_some _ _).symm.trans H;with_reducible exact H2_)|with_reducible exact H|(rw [hy101];exact H)|exact H
     have Ny101:=Aside0.mk hy101
     clear hy101
     obtain rfl:=Option.some.inj H
     go_wp2_with (first|((with_reducible refine gate_builtin (b:=.append) (xs:=#[.tmp 12,.tmp 15]) rfl ?_);at_builtin;refine Kd.R_append (Kd.int .u8) (w0:=w0) w0.heap.size rfl (.tmp 12) (.tmp 15) 27 5 (.int .u8 0) 1 rfl Tryd.underlying27 info5 rfl (by decide) (by omega) u9000_ l0 ((a1) % 256) [.int .u8 ((a1) % 256)] (fun k_ => (P0_ k_ ∨ w.heap.size≤k_)) (fun _ => False) rfl rfl ?aP (fun _ hk => hk.elim) ?aF ?aO ?aB ?aS ?aL ?_;(case aP => exact rfl);(case aB => exact (by repeat (first|(with_reducible first|exact HB.out|apply below_alloc|apply pw_below_drewN|apply below_drew1)|exact HB.out)));(case aF => exact (fun k_ hk => (.inr (Nat.le_trans (by first|exact HK.out.1|exact (show Kept w _ (fun k_ => P0_ k_) from by repeat (first|(with_reducible first|exact HK.out|apply Kept.alloc|apply Kept.drewN|apply Kept.drew)|exact HK.out)).1) hk))));(case aO => exact (by (with_reducible repeat (first|apply Kd.R_alloc|apply Kd.R_drewN|apply Kd.R_drew));exact HO_0.out));(case aS => exact (below_size (by repeat (first|(with_reducible first|exact HB.out|apply below_alloc|apply pw_below_drewN|apply below_drew1)|exact HB.out))));(case aL => have:=LMc6.out;omega);intro v102 w7 ho hb hg hat;rw [← Ny101.out] at ho;have n0_:=Aside0.mk (hb);have n1_:=Aside0.mk (Kept.of_grown (S:=(fun k_ => P0_ k_)) hg (by repeat (first|(with_reducible first|exact HK.out|apply Kept.alloc|apply Kept.drewN|apply Kept.drew)|exact HK.out)) (fun k_ e_ => (HO_0.out.1 k_ e_)));have n2_:=Aside0.mk (ho);clear HB;clear HK;clear HO_0;have HB:=n0_;have HK:=n1_;have HO103:=n2_;clear n0_ n1_ n2_;clear ho hb hg hat))
     go_ret
     exact ⟨_,by first|rfl|(simp [errW_none,errW_some] <;> rfl)|(simp [*,errW_none,errW_some] <;> rfl),by (with_reducible repeat (first|apply Kd.R_alloc|apply Kd.R_drewN|apply Kd.R_drew));exact HO103.out,by repeat (first|(with_reducible first|exact HB.out|apply below_alloc|apply pw_below_drewN|apply below_drew1)|exact HB.out),by repeat (first|(with_reducible first|exact HK.out|apply Kept.alloc|apply Kept.drewN|apply Kept.drew)|exact HK.out)⟩
    ·rw [if_neg c6] at H
     exact absurd H (by simp)
   ·replace c5:=Bool.eq_false_iff.mpr c5
    subst c5
    have H1:(if a1 < 2048 then ((some (([Go.bits .or .u8 192 ((a1 / 64) % 256),Go.bits .or .u8 128 ((Go.bits .and .i32 a1 63) % 256)]:List Int):List Int)).bind fun y104 => (if l0.length + y104.length < 140737488355328 then (some (l0++y104)) else (none))) else ((some (([Go.bits .or .u8 224 ((a1 / 4096) % 256),Go.bits .or .u8 128 ((Go.bits .and .i32 (a1 / 64) 63) % 256),Go.bits .or .u8 128 ((Go.bits .and .i32 a1 63) % 256)]:List Int):List Int)).bind fun y110 => (if l0.length + y110.length < 140737488355328 then (some (l0++y110)) else (none))))=some r:=by rw [if_neg (show ¬ (false=true) by decide)] at H;exact H
    clear H
    have H:=H1
    clear H1
    by_cases c8:a1 < 2048
    ·rw [if_pos c8] at H
     have c8b0:decide (a1 < 2048)=true:=decide_eq_true c8
     clear c8
     obtain ⟨y104,hy104⟩:∃ y_:List Int,y_=(([Go.bits .or .u8 192 ((a1 / 64) % 256),Go.bits .or .u8 128 ((Go.bits .and .i32 a1 63) % 256)]:List Int)):=⟨_,rfl⟩
     replace H:(if l0.length + y104.length < 140737488355328 then (some (l0++y104)) else (none))=some r:=by first|(rw [hy104];with_reducible exact H)|(have H2_:=(Option.bind_some _ _).symm.trans H;rw [hy104];with_reducible exact H2_)|(have H2_:=(Option.bind_some _ _).symm.trans H;with_reducible exact H2_)|with_reducible exact H|(rw [hy104];exact H)|exact H
     have Ny104:=Aside0.mk hy104
     clear hy104
     by_cases c9:l0.length + y104.length < 140737488355328
     ·rw [if_pos c9] at H
      have LMc9:=Aside0.mk c9
      clear c9
      obtain ⟨y107,hy107⟩:∃ y_:List Int,y_=(l0++y104):=⟨_,rfl⟩
      replace H:(some y107)=some r:=by first|(rw [hy107];with_reducible exact H)|(have H2_:=(Option.bind_some _ _).symm.trans H;rw [hy107];with_reducible exact H2_)|(have H2_:=(Option.bind_some _ _).symm.trans H;with_reducible exact H2_)|with_reducible exact H|(rw [hy107];exact H)|exact H
      have Ny107:=Aside0.mk hy107
      clear hy107
      obtain rfl:=Option.some.inj H
      go_wp2_with (first|((with_reducible refine gate_dst (N:=29) rfl ?_);refine Kd.R_lit (Kd.int .u8) _ 5 ?hg (N:=29) ?hd (xs:=([Go.bits .or .u8 192 ((a1 / 64) % 256),Go.bits .or .u8 128 ((Go.bits .and .i32 a1 63) % 256)]:List Int)) (inner:=[.int .u8 (Go.bits .or .u8 192 ((a1 / 64) % 256)),.int .u8 (Go.bits .or .u8 128 ((Go.bits .and .i32 a1 63) % 256))]) (ok:=fun _ => True) (okp:=fun _ => True) ?hr ?hp (fun _ hk => hk) trivial (Below.refl _ _) (Nat.le_refl _) (by simp) ?_;(case hd => rfl);(case hg => rfl);(case hr => first|(go_simp;done)|(go_simp;rfl));(case hp => exact (Reps.one (show Kd.M (Kd.int .u8) _ _ _ (Go.bits .or .u8 192 ((a1 / 64) % 256)) [.int .u8 (Go.bits .or .u8 192 ((a1 / 64) % 256))] from rfl) (Reps.one (show Kd.M (Kd.int .u8) _ _ _ (Go.bits .or .u8 128 ((Go.bits .and .i32 a1 63) % 256)) [.int .u8 (Go.bits .or .u8 128 ((Go.bits .and .i32 a1 63) % 256))] from rfl) (Reps.none _ _))));intro v105 w10 ho11 hb hg_ hnew_;clear hg_ hnew_;(first|rw [← Ny104.out] at ho11|(simp only [Int.reduceToNat] at ho11;rw [← Ny104.out] at ho11));have n0_:=Aside0.mk (Kd.R_elder' (by (with_reducible repeat (first|apply Kd.R_alloc|apply Kd.R_drewN|apply Kd.R_drew));exact HO_0.out) (Kd.R_base ho11) hb);have n1_:=Aside0.mk (Kd.R_lower (Kd.R_new' (Kd.R_newM (M:=fun k_ => (P0_ k_ ∨ w.heap.size≤k_)) ho11 (by first|exact HK.out.1|exact (show Kept w _ (fun k_ => P0_ k_) from by repeat (first|(with_reducible first|exact HK.out|apply Kept.alloc|apply Kept.drewN|apply Kept.drew)|exact HK.out)).1) (fun k_ h_ => .inr h_)) (Kd.R_lt (by (with_reducible repeat (first|apply Kd.R_alloc|apply Kd.R_drewN|apply Kd.R_drew));exact HO_0.out))) (below_size (by repeat (first|(with_reducible first|exact HB.out|apply below_alloc|apply pw_below_drewN|apply below_drew1)|exact HB.out))));have n2_:=Aside0.mk (Kept.below (S:=(fun k_ => P0_ k_)) (by repeat (first|(with_reducible first|exact HK.out|apply Kept.alloc|apply Kept.drewN|apply Kept.drew)|exact HK.out)) hb);have n3_:=Aside0.mk (below_step (by repeat (first|(with_reducible first|exact HB.out|apply below_alloc|apply pw_below_drewN|apply below_drew1)|exact HB.out)) hb);clear HO_0;clear HK;clear HB;have HO_0:=n0_;have HO106:=n1_;have HK:=n2_;have HB:=n3_;clear n0_ n1_ n2_ n3_;clear hb ho11;obtain ⟨Ao13,co13,eo13⟩:=Kd.R_slice HO106.out;subst eo13)|((with_reducible refine gate_builtin (b:=.append) (xs:=#[.tmp 20,.tmp 29]) rfl ?_);at_builtin;refine Kd.R_append_rows (Kd.int .u8) (w0:=w0) w0.heap.size rfl (.tmp 20) (.tmp 29) 27 5 (.int .u8 0) 1 rfl Tryd.underlying27 info5 rfl (by decide) (by omega) u9000_ l0 y104 _ _ _ (fun k_ => (P0_ k_ ∨ w.heap.size≤k_)∧some k_ ≠ (.slice Ao13 y104.length co13:Value).ownBlock) (fun _ => False) rfl rfl ?aO ?aR (fun _ _ h => h) (fun _ h => h.elim) ?aF ?aB ?aS ?aL ?_;(case aR => repeat (first|exact (Kd.R_reads' HO106.out).2.2|(with_reducible refine Kd.C_alloc ?_ _)|(with_reducible refine Kd.C_drewN ?_ _)|(with_reducible refine Kd.C_drew ?_)));(case aB => exact (by repeat (first|(with_reducible first|exact HB.out|apply below_alloc|apply pw_below_drewN|apply below_drew1)|exact HB.out)));(case aF => exact (fun k_ hk => ⟨(.inr (Nat.le_trans (by first|exact HK.out.1|exact (show Kept w _ (fun k_ => P0_ k_) from by repeat (first|(with_reducible first|exact HK.out|apply Kept.alloc|apply Kept.drewN|apply Kept.drew)|exact HK.out)).1) hk)),Kd.fresh' (Kd.R_lt (by (with_reducible repeat (first|apply Kd.R_alloc|apply Kd.R_drewN|apply Kd.R_drew));exact HO106.out)) k_ hk⟩));(case aO => exact (by (with_reducible repeat (first|apply Kd.R_alloc|apply Kd.R_drewN|apply Kd.R_drew));exact HO_0.out));(case aS => exact (below_size (by repeat (first|(with_reducible first|exact HB.out|apply below_alloc|apply pw_below_drewN|apply below_drew1)|exact HB.out))));(case aL => have:=LMc9.out;omega);intro v108 w12 ho hb hg hat;rw [← Ny107.out] at ho;have n0_:=Aside0.mk (Kd.R_after (ok:=(fun k_ => (P0_ k_ ∨ w.heap.size≤k_))) (by (with_reducible repeat (first|apply Kd.R_alloc|apply Kd.R_drewN|apply Kd.R_drew));exact Kd.R_mono HO106.out (fun _ hk => ⟨hk.1.1,hk.2⟩)) hg hat);have n1_:=Aside0.mk (hb);have n2_:=Aside0.mk (Kept.of_grown (S:=(fun k_ => P0_ k_)) hg (by repeat (first|(with_reducible first|exact HK.out|apply Kept.alloc|apply Kept.drewN|apply Kept.drew)|exact HK.out)) (fun k_ e_ => (HO_0.out.1 k_ e_).1));have n3_:=Aside0.mk (ho);clear HO106;clear HB;clear HK;clear HO_0;have HO106:=n0_;have HB:=n1_;have HK:=n2_;have HO109:=n3_;clear n0_ n1_ n2_ n3_;clear ho hb hg hat))
      go_ret
      exact ⟨_,by first|rfl|(simp [errW_none,errW_some] <;> rfl)|(simp [*,errW_none,errW_some] <;> rfl),by (with_reducible repeat (first|apply Kd.R_alloc|apply Kd.R_drewN|apply Kd.R_drew));exact Kd.R_mono HO109.out (fun _ hk => hk.1),by repeat (first|(with_reducible first|exact HB.out|apply below_alloc|apply pw_below_drewN|apply below_drew1)|exact HB.out),by repeat (first|(with_reducible first|exact HK.out|apply Kept.alloc|apply Kept.drewN|apply Kept.drew)|exact HK.out)⟩
     ·rw [if_neg c9] at H
      exact absurd H (by simp)
    ·rw [if_neg c8] at H
     have c8b0:decide (a1 < 2048)=false:=decide_eq_false c8
     clear c8
     obtain ⟨y110,hy110⟩:∃ y_:List Int,y_=(([Go.bits .or .u8 224 ((a1 / 4096) % 256),Go.bits .or .u8 128 ((Go.bits .and .i32 (a1 / 64) 63) % 256),Go.bits .or .u8 128 ((Go.bits .and .i32 a1 63) % 256)]:List Int)):=⟨_,rfl⟩
     replace H:(if l0.length + y110.length < 140737488355328 then (some (l0++y110)) else (none))=some r:=by first|(rw [hy110];with_reducible exact H)|(have H2_:=(Option.bind_some _ _).symm.trans H;rw [hy110];with_reducible exact H2_)|(have H2_:=(Option.bind_some _ _).symm.trans H;with_reducible exact H2_)|with_reducible exact H|(rw [hy110];exact H)|exact H
     have Ny110:=Aside0.mk hy110
     clear hy110
     by_cases c14:l0.length + y110.length < 140737488355328
     ·rw [if_pos c14] at H
      have LMc14:=Aside0.mk c14
      clear c14
      obtain ⟨y113,hy113⟩:∃ y_:List Int,y_=(l0++y110):=⟨_,rfl⟩
      replace H:(some y113)=some r:=by first|(rw [hy113];with_reducible exact H)|(have H2_:=(Option.bind_some _ _).symm.trans H;rw [hy113];with_reducible exact H2_)|(have H2_:=(Option.bind_some _ _).symm.trans H;with_reducible exact H2_)|with_reducible exact H|(rw [hy113];exact H)|exact H
      have Ny113:=Aside0.mk hy113
      clear hy113
      obtain rfl:=Option.some.inj H
      go_wp2_with (first|((with_reducible refine gate_dst (N:=45) rfl ?_);refine Kd.R_lit (Kd.int .u8) _ 5 ?hg (N:=45) ?hd (xs:=([Go.bits .or .u8 224 ((a1 / 4096) % 256),Go.bits .or .u8 128 ((Go.bits .and .i32 (a1 / 64) 63) % 256),Go.bits .or .u8 128 ((Go.bits .and .i32 a1 63) % 256)]:List Int)) (inner:=[.int .u8 (Go.bits .or .u8 224 ((a1 / 4096) % 256)),.int .u8 (Go.bits .or .u8 128 ((Go.bits .and .i32 (a1 / 64) 63) % 256)),.int .u8 (Go.bits .or .u8 128 ((Go.bits .and .i32 a1 63) % 256))]) (ok:=fun _ => True) (okp:=fun _ => True) ?hr ?hp (fun _ hk => hk) trivial (Below.refl _ _) (Nat.le_refl _) (by simp) ?_;(case hd => rfl);(case hg => rfl);(case hr => first|(go_simp;done)|(go_simp;rfl));(case hp => exact (Reps.one (show Kd.M (Kd.int .u8) _ _ _ (Go.bits .or .u8 224 ((a1 / 4096) % 256)) [.int .u8 (Go.bits .or .u8 224 ((a1 / 4096) % 256))] from rfl) (Reps.one (show Kd.M (Kd.int .u8) _ _ _ (Go.bits .or .u8 128 ((Go.bits .and .i32 (a1 / 64) 63) % 256)) [.int .u8 (Go.bits .or .u8 128 ((Go.bits .and .i32 (a1 / 64) 63) % 256))] from rfl) (Reps.one (show Kd.M (Kd.int .u8) _ _ _ (Go.bits .or .u8 128 ((Go.bits .and .i32 a1 63) % 256)) [.int .u8 (Go.bits .or .u8 128 ((Go.bits .and .i32 a1 63) % 256))] from rfl) (Reps.none _ _)))));intro v111 w15 ho16 hb hg_ hnew_;clear hg_ hnew_;(first|rw [← Ny110.out] at ho16|(simp only [Int.reduceToNat] at ho16;rw [← Ny110.out] at ho16));have n0_:=Aside0.mk (Kd.R_elder' (by (with_reducible repeat (first|apply Kd.R_alloc|apply Kd.R_drewN|apply Kd.R_drew));exact HO_0.out) (Kd.R_base ho16) hb);have n1_:=Aside0.mk (Kd.R_lower (Kd.R_new' (Kd.R_newM (M:=fun k_ => (P0_ k_ ∨ w.heap.size≤k_)) ho16 (by first|exact HK.out.1|exact (show Kept w _ (fun k_ => P0_ k_) from by repeat (first|(with_reducible first|exact HK.out|apply Kept.alloc|apply Kept.drewN|apply Kept.drew)|exact HK.out)).1) (fun k_ h_ => .inr h_)) (Kd.R_lt (by (with_reducible repeat (first|apply Kd.R_alloc|apply Kd.R_drewN|apply Kd.R_drew));exact HO_0.out))) (below_size (by repeat (first|(with_reducible first|exact HB.out|apply below_alloc|apply pw_below_drewN|apply below_drew1)|exact HB.out))));have n2_:=Aside0.mk (Kept.below (S:=(fun k_ => P0_ k_)) (by repeat (first|(with_reducible first|exact HK.out|apply Kept.alloc|apply Kept.drewN|apply Kept.drew)|exact HK.out)) hb);have n3_:=Aside0.mk (below_step (by repeat (first|(with_reducible first|exact HB.out|apply below_alloc|apply pw_below_drewN|apply below_drew1)|exact HB.out)) hb);clear HO_0;clear HK;clear HB;have HO_0:=n0_;have HO112:=n1_;have HK:=n2_;have HB:=n3_;clear n0_ n1_ n2_ n3_;clear hb ho16;obtain ⟨Ao18,co18,eo18⟩:=Kd.R_slice HO112.out;subst eo18)|((with_reducible refine gate_builtin (b:=.append) (xs:=#[.tmp 31,.tmp 45]) rfl ?_);at_builtin;refine Kd.R_append_rows (Kd.int .u8) (w0:=w0) w0.heap.size rfl (.tmp 31) (.tmp 45) 27 5 (.int .u8 0) 1 rfl Tryd.underlying27 info5 rfl (by decide) (by omega) u9000_ l0 y110 _ _ _ (fun k_ => (P0_ k_ ∨ w.heap.size≤k_)∧some k_ ≠ (.slice Ao18 y110.length co18:Value).ownBlock) (fun _ => False) rfl rfl ?aO ?aR (fun _ _ h => h) (fun _ h => h.elim) ?aF ?aB ?aS ?aL ?_;(case aR => repeat (first|exact (Kd.R_reads' HO112.out).2.2|(with_reducible refine Kd.C_alloc ?_ _)|(with_reducible refine Kd.C_drewN ?_ _)|(with_reducible refine Kd.C_drew ?_)));(case aB => exact (by repeat (first|(with_reducible first|exact HB.out|apply below_alloc|apply pw_below_drewN|apply below_drew1)|exact HB.out)));(case aF => exact (fun k_ hk => ⟨(.inr (Nat.le_trans (by first|exact HK.out.1|exact (show Kept w _ (fun k_ => P0_ k_) from by repeat (first|(with_reducible first|exact HK.out|apply Kept.alloc|apply Kept.drewN|apply Kept.drew)|exact HK.out)).1) hk)),Kd.fresh' (Kd.R_lt (by (with_reducible repeat (first|apply Kd.R_alloc|apply Kd.R_drewN|apply Kd.R_drew));exact HO112.out)) k_ hk⟩));(case aO => exact (by (with_reducible repeat (first|apply Kd.R_alloc|apply Kd.R_drewN|apply Kd.R_drew));exact HO_0.out));(case aS => exact (below_size (by repeat (first|(with_reducible first|exact HB.out|apply below_alloc|apply pw_below_drewN|apply below_drew1)|exact HB.out))));(case aL => have:=LMc14.out;omega);intro v114 w17 ho hb hg hat;rw [← Ny113.out] at ho;have n0_:=Aside0.mk (Kd.R_after (ok:=(fun k_ => (P0_ k_ ∨ w.heap.size≤k_))) (by (with_reducible repeat (first|apply Kd.R_alloc|apply Kd.R_drewN|apply Kd.R_drew));exact Kd.R_mono HO112.out (fun _ hk => ⟨hk.1.1,hk.2⟩)) hg hat);have n1_:=Aside0.mk (hb);have n2_:=Aside0.mk (Kept.of_grown (S:=(fun k_ => P0_ k_)) hg (by repeat (first|(with_reducible first|exact HK.out|apply Kept.alloc|apply Kept.drewN|apply Kept.drew)|exact HK.out)) (fun k_ e_ => (HO_0.out.1 k_ e_).1));have n3_:=Aside0.mk (ho);clear HO112;clear HB;clear HK;clear HO_0;have HO112:=n0_;have HB:=n1_;have HK:=n2_;have HO115:=n3_;clear n0_ n1_ n2_ n3_;clear ho hb hg hat))
      go_ret
      exact ⟨_,by first|rfl|(simp [errW_none,errW_some] <;> rfl)|(simp [*,errW_none,errW_some] <;> rfl),by (with_reducible repeat (first|apply Kd.R_alloc|apply Kd.R_drewN|apply Kd.R_drew));exact Kd.R_mono HO115.out (fun _ hk => hk.1),by repeat (first|(with_reducible first|exact HB.out|apply below_alloc|apply pw_below_drewN|apply below_drew1)|exact HB.out),by repeat (first|(with_reducible first|exact HK.out|apply Kept.alloc|apply Kept.drewN|apply Kept.drew)|exact HK.out)⟩
     ·rw [if_neg c14] at H
      exact absurd H (by simp)
end Go.Proofs.YtbgniepcoaiinaaDoor.Px
namespace Go.Proofs.YtbgniepcoaiinaaDoor.Px
open Go.RowKit Go.Proofs.YtbgniepcoaiinaaDoorW.PrintWords Go.Proofs.YtbgniepcoaiinaaDoorW.PrintLast Go.Proofs.YtbgniepcoaiinaaDoorW.PrintMore
set_option linter.unusedVariables false
set_option linter.unusedSimpArgs false
def text_Encode.one (k:Nat) (b:List Int) (c:Int):Option (List Int) :=
 (text_split.f c).bind fun t => if t.1=0 then text_unit.f k b t.2 else (text_unit.f k b t.1).bind fun b1 => text_unit.f k b1 t.2
def text_Encode.l0:Nat→ByteArray→Nat→List Int→Option (List Int × Int)
 | 0,_,_,_ => none
 | k + 1,s,p,b => if p < s.size then (text_Encode.one k b ((Utf8.decode s p).1:Int)).bind fun b1 => text_Encode.l0 k s (p + (Utf8.decode s p).2) b1 else some (b,0)
def text_Encode.f (k:Nat) (a0:ByteArray):Option (List Int × Int) :=
 if a0.size≤9223372036854775807 then (if Lib.validD a0.data.toList=true then text_Encode.l0 k a0 0 [] else some ([],20)) else none
theorem text_Encode.mono_one (k:Nat) (b:List Int) (c:Int):LeO (text_Encode.one k b c) (text_Encode.one (k + 1) b c):=by
 unfold text_Encode.one
 refine LeO.bind (LeO.refl _) (fun _ => LeO.ite (text_unit.mono _ _ _) (LeO.bind (text_unit.mono _ _ _) (fun _ => text_unit.mono _ _ _)))
theorem text_Encode.mono_l:∀ k s p b,LeO (text_Encode.l0 k s p b) (text_Encode.l0 (k + 1) s p b)
 | 0 => fun _ _ _ r h => by simp [text_Encode.l0] at h
 | k + 1 => fun s p b => by
  unfold text_Encode.l0
  exact LeO.ite (LeO.bind (text_Encode.mono_one _ _ _) (fun _ => text_Encode.mono_l k _ _ _)) (LeO.refl _)
theorem text_Encode.mono:∀ a0 k,LeO (text_Encode.f k a0) (text_Encode.f (k + 1) a0):=by
 intro a0 k
 unfold text_Encode.f
 exact LeO.ite (LeO.ite (text_Encode.mono_l _ _ _ _) (LeO.refl _)) (LeO.refl _)
theorem text_Encode.width (s:ByteArray) (pos:Nat) (h:pos < s.size):1≤(Utf8.decode s pos).2:=by
 by_cases ha:(s[pos]'h).toNat < 128
 ·rw [decode_ascii s pos h ha];exact Nat.le_refl _
 ·exact (decode_high s pos h (by omega)).2
theorem R_iterAt {w:World} {base:Nat} {v:Value} {xs:List Int} {k:Nat} {s:ByteArray} {p:Nat} (h:Kd.R (Kd.int .u8) 5 w base (fun _ => True) v xs) (hk:w.heap[k]?=some (.stringIter s p)) (p':Nat) :
  Kd.R (Kd.int .u8) 5 (w.iterAt k s p') base (fun _ => True) v xs:=by
 refine Kd.R_step (Kd.R_mono (Kd.R_bound h) (fun _ hk => hk.2)) (fun j hj _ => ?_) |> fun z => Kd.R_mono z (fun _ _ => trivial)
 obtain ⟨_,_,q,_,cells,hc⟩:=hj
 refine Lib.iterAt_other w k j s p' ?_
 rintro rfl
 rw [hk] at hc
 cases hc
theorem R_noIter {w:World} {base:Nat} {ok:Nat→Prop} {v:Value} {xs:List Int} {it:Nat} {s:ByteArray} {p:Nat} (h:Kd.R (Kd.int .u8) 5 w base ok v xs) (hk:w.heap[it]?=some (.stringIter s p)) :
  Kd.R (Kd.int .u8) 5 w base (fun k => k ≠ it) v xs:=by
 refine Kd.R_mono (Kd.R_bound h) (fun j hj => ?_)
 obtain ⟨_,_,_,q,_,cells,hc⟩:=hj
 rintro rfl
 rw [hk] at hc
 cases hc
theorem valid_calls (s:ByteArray) (w:World) (hs:s.size≤9223372036854775807) (hG:GG w) :
  Calls Tryd.prog 62 #[.string s] w fun e w' => e=.returned (.bool (Lib.validD s.data.toList))∧Below w.heap.size w w' :=
 Any.utf8_ValidString Tryd.laysValid s w hs hG.tabs
theorem R_mk (w w1:World) (h:w.heap.size≤w1.heap.size) (s:ByteArray):Kd.R (Kd.int .u8) 5 ((w1.alloc (.cells #[] 5)).iter s 0) w.heap.size (fun _ => True) (.slice (some ⟨w1.heap.size,0,none⟩) 0 0) []:=by
 have h1:=World.ownsRow_lit (base:=w.heap.size) (e:=5) (size:=1) w1 #[] 0 h (by simp [maxLen]) (by simp)
 have h2:Kd.R (Kd.int .u8) 5 (w1.alloc (.cells #[] 5)) w.heap.size (fun _ => True) (.slice (some ⟨w1.heap.size,0,none⟩) 0 0) [] :=
  ⟨fun _ _ => trivial,[],by simp only [List.length_nil];exact (by simpa using h1:World.ownsRow _ _ _ 1 _ 0 []),Reps.none _ _⟩
 exact Kd.R_below h2 (((Below.refl _ _).alloc (Nat.le_refl _) _))
set_option maxHeartbeats 4000000 in
set_option maxRecDepth 100000 in
theorem text_Encode.calls (k:Nat) (a0:ByteArray) (r1:List Int) (r2:Int) (w:World) (hG:Aside0 (GG w)) (h:text_Encode.f k a0=some (r1,r2)) :
  Calls Tryd.prog 39 #[.string a0] w fun e w' => ∃ v0_:Value,e=.returned (.tuple #[v0_,.int .i64 r2])∧Kd.R (Kd.int .u8) 5 w' w.heap.size (fun _ => True) v0_ r1∧Below w.heap.size w w':=by
 unfold text_Encode.f at h
 by_cases hs:a0.size≤9223372036854775807
 ·rw [if_pos hs] at h
  have cV:=valid_calls a0 w hs hG.out
  by_cases hv:Lib.validD a0.data.toList=true
  ·rw [if_pos hv] at h
   rw [hv] at cV
   have H0:=Aside0.mk h
   clear h hv hs
   go_enter Tryd.func39,Tryd.ntmps39
   go_wp2_with (go_at_call 62;refine cV.mono ?_;rintro e w1 ⟨rfl,hb1⟩)
   have hz1:w.heap.size≤w1.heap.size:=hb1.size
   go_loopg [4] k (fun kq v wr => ∃ (pos:Nat) (b:List Int),Aside0 (text_Encode.l0 kq a0 pos b=some (r1,r2))∧Aside0 (kq≤k)∧Aside0 (Kd.R (Kd.int .u8) 5 wr w.heap.size (fun _ => True) v b)∧Aside0 (wr.heap[w1.heap.size + 1]?=some (.stringIter a0 pos))∧Aside0 (Below w.heap.size w wr))
   case atStart =>
    refine ⟨0,[],H0,⟨Nat.le_refl _⟩,⟨R_mk w w1 hz1 a0⟩,⟨?_⟩,⟨below_then hb1 hz1 (((Below.refl _ w1).alloc (Nat.le_refl _) _).alloc (by simp) _)⟩⟩
    have:=World.iter_heap (w1.alloc (.cells #[] 5)) a0 0
    simpa using this
   case round =>
    obtain ⟨pos,b,HA,HK,HR,HI,HB⟩:=hrel
    cases gk with
    | zero => exact absurd HA.out (by simp [text_Encode.l0])
    | succ k1 =>
    have hlt:w1.heap.size + 1 < wr.heap.size:=(Array.getElem?_eq_some_iff.1 HI.out).1
    have H:=HA.out
    clear HA
    simp only [text_Encode.l0] at H
    by_cases hp:pos < a0.size
    ·rw [if_pos hp] at H
     replace H:=Option.bind_eq_some_iff.mp H
     obtain ⟨b1,h1,H⟩:=H
     have H':=Aside0.mk H
     clear H
     unfold text_Encode.one at h1
     replace h1:=Option.bind_eq_some_iff.mp h1
     obtain ⟨⟨t1,t2⟩,hsp,h1⟩:=h1
     have HS:=Aside0.mk hsp
     clear hsp
     have hnx:∀ ty,(Instr.next (.pointer (some ⟨w1.heap.size + 1,0,none⟩)) true ty).run Tryd.prog wr=_:=fun ty => Lib.run_next_any_at wr (w1.heap.size + 1) a0 pos ty HI.out hp
     have hz:w.heap.size≤wr.heap.size:=HB.out.size
     by_cases hc:t1=0
     ·rw [if_pos hc] at h1
      have hc0:(t1 != 0)=false:=bne_eq_false_iff_eq.mpr hc
      clear hc
      have H1:=Aside0.mk h1
      clear h1
      go_wp2_with fail
      refine (text_split.calls _ t1 t2 _ HS.out).mono ?_
      rintro e w' ⟨rfl,⟨⟨nd,rfl⟩⟩⟩
      go_wp2_with fail
      refine (text_unit.calls k1 (fun j => j ≠ w1.heap.size + 1) _ b t2 b1 w _ ?side1 ?side2 H1.out).mono ?_
      case side1 => exact pw_below_drewN (Lib.below_iterAt HB.out (by omega) _ _) _
      case side2 => exact R_noIter (Kd.R_drewN (R_iterAt HR.out HI.out _) _) (Lib.iterAt_heap _ _ _ _ _ HI.out)
      rintro e w2 ⟨v1,rfl,ho,hb2,hk2⟩
      have hi2:w2.heap[w1.heap.size + 1]?=some (.stringIter a0 (pos + (Utf8.decode a0 pos).2)):=(hk2.2 _ (by simpa [Lib.iterAt_size] using hlt) (by simp)).trans (Lib.iterAt_heap _ _ _ _ _ HI.out)
      go_wp2
      go_roundg k1
      case measure => have:=HK.out;omega
      case rel => exact ⟨_,b1,H',⟨by have:=HK.out;omega⟩,⟨Kd.R_mono ho (fun _ _ => trivial)⟩,⟨hi2⟩,⟨hb2⟩⟩
     ·rw [if_neg hc] at h1
      replace h1:=Option.bind_eq_some_iff.mp h1
      obtain ⟨b2,h2,h1⟩:=h1
      have hc0:(t1 != 0)=true:=bne_iff_ne.mpr hc
      clear hc
      have H1:=Aside0.mk h1
      have H2:=Aside0.mk h2
      clear h1 h2
      go_wp2_with fail
      refine (text_split.calls _ t1 t2 _ HS.out).mono ?_
      rintro e w' ⟨rfl,⟨⟨nd,rfl⟩⟩⟩
      go_wp2_with fail
      refine (text_unit.calls k1 (fun j => j ≠ w1.heap.size + 1) _ b t1 b2 w _ ?side1 ?side2 H2.out).mono ?_
      case side1 => exact pw_below_drewN (Lib.below_iterAt HB.out (by omega) _ _) _
      case side2 => exact R_noIter (Kd.R_drewN (R_iterAt HR.out HI.out _) _) (Lib.iterAt_heap _ _ _ _ _ HI.out)
      rintro e w2 ⟨v1,rfl,ho,hb2,hk2⟩
      have hi2:=Aside0.mk (show w2.heap[w1.heap.size + 1]?=some (.stringIter a0 (pos + (Utf8.decode a0 pos).2)) from (hk2.2 _ (by simpa [Lib.iterAt_size] using hlt) (by simp)).trans (Lib.iterAt_heap _ _ _ _ _ HI.out))
      have ho2:=Aside0.mk ho
      clear hk2 ho
      go_wp2_with fail
      refine (text_unit.calls k1 (fun j => j ≠ w1.heap.size + 1) _ b2 t2 b1 w _ ?side1 ?side2 H1.out).mono ?_
      case side1 => exact hb2
      case side2 => exact R_noIter ho2.out hi2.out
      rintro e w3 ⟨v2,rfl,ho,hb3,hk3⟩
      have hi3:=(hk3.2 _ (Array.getElem?_eq_some_iff.1 hi2.out).1 (by simp)).trans hi2.out
      go_wp2
      go_roundg k1
      case measure => have:=HK.out;omega
      case rel => exact ⟨_,b1,H',⟨by have:=HK.out;omega⟩,⟨Kd.R_mono ho (fun _ _ => trivial)⟩,⟨hi3⟩,⟨hb3⟩⟩
    ·rw [if_neg hp] at H
     simp only [Option.some.injEq,Prod.mk.injEq] at H
     obtain ⟨rfl,rfl⟩:=H
     have hnx:∀ ty,(Instr.next (.pointer (some ⟨w1.heap.size + 1,0,none⟩)) true ty).run Tryd.prog wr=_:=fun ty => Lib.run_next_end_at wr (w1.heap.size + 1) a0 pos ty HI.out hp
     go_wp2
     go_ret2
     exact ⟨_,rfl,HR.out,HB.out⟩
  ·rw [if_neg hv] at h
   have hv':Lib.validD a0.data.toList=false:=by simpa using hv
   rw [hv'] at cV
   simp only [Option.some.injEq,Prod.mk.injEq] at h
   obtain ⟨rfl,rfl⟩:=h
   clear hv hv' hs
   go_enter Tryd.func39,Tryd.ntmps39
   go_wp2_with (go_at_call 62;refine cV.mono ?_;rintro e w1 ⟨rfl,hb1⟩)
   go_ret2
   exact ⟨_,rfl,Kd.R_nil _ _ _ _ _,hb1⟩
 ·rw [if_neg hs] at h
  exact absurd h (by simp)
end Go.Proofs.YtbgniepcoaiinaaDoor.Px
namespace Go.Proofs.YtbgniepcoaiinaaDoor.Px
open Go.RowKit Go.Proofs.YtbgniepcoaiinaaDoorW.PrintWords Go.Proofs.YtbgniepcoaiinaaDoorW.PrintLast Go.Proofs.YtbgniepcoaiinaaDoorW.PrintMore
attribute [local go_sem] max2_int min2_int max_two min_two max_three min_three max_four min_four
set_option linter.unusedVariables false
set_option linter.unusedSimpArgs false
mutual
def pool_fields.j0:Nat→Int→Bool→Int→ByteArray→Int→Int→Int→Int→ByteArray→Int→Int→Int→Option (Int × ByteArray × Int × Int × Int)
 | 0,_,_,_,_,_,_,_,_,_,_,_,_ => none
 | k + 1,x8,x11,x117000,x117001,x117002,x117003,x117004,x119000,x119001,x119002,x119003,x119004 => if x11=true then (some (x119000,x119001,x117002,x119003,x119004)) else (if x8=9 then (pool_fields.j1 k x8 (x8==9) x117000 x117001 x117002 x117003 x117004 x119000 x119001 x119002 x119003 x119004) else (if x8=10 then (pool_fields.j1 k x8 (x8==10) x117000 x117001 x117002 x117003 x117004 x119000 x119001 x119002 x119003 x119004) else (pool_fields.j1 k x8 (x8==12) x117000 x117001 x117002 x117003 x117004 x119000 x119001 x119002 x119003 x119004)))
def pool_fields.j1:Nat→Int→Bool→Int→ByteArray→Int→Int→Int→Int→ByteArray→Int→Int→Int→Option (Int × ByteArray × Int × Int × Int)
 | 0,_,_,_,_,_,_,_,_,_,_,_,_ => none
 | k + 1,x8,x14,x117000,x117001,x117002,x117003,x117004,x119000,x119001,x119002,x119003,x119004 => if x14=true then (some (x119000,x119001,x119002,x117003,x117004)) else (if x8=7 then (some (x119000,x119001,x119002,x117003,x119004)) else (some (x119000,x119001,x119002,x119003,x119004)))
end
def pool_fields.f (k:Nat) (a0_0:Int) (a0_1:ByteArray) (a0_2:Int) (a0_3:Int) (a0_4:Int):Option (Int × ByteArray × Int × Int × Int):=if a0_0=1 then (some (a0_0,a0_1,0,0,0)) else (if a0_0=3 then (pool_fields.j0 k a0_0 (a0_0==3) a0_0 a0_1 a0_2 a0_3 a0_4 a0_0 (⟨#[]⟩:ByteArray) 0 0 0) else (pool_fields.j0 k a0_0 (a0_0==5) a0_0 a0_1 a0_2 a0_3 a0_4 a0_0 (⟨#[]⟩:ByteArray) 0 0 0))
theorem pool_fields.mono_l:∀ k,(∀ y0 y1 y2 y3 y4 y5 y6 y7 y8 y9 y10 y11,LeO (pool_fields.j0 k y0 y1 y2 y3 y4 y5 y6 y7 y8 y9 y10 y11) (pool_fields.j0 (k + 1) y0 y1 y2 y3 y4 y5 y6 y7 y8 y9 y10 y11))∧(∀ y0 y1 y2 y3 y4 y5 y6 y7 y8 y9 y10 y11,LeO (pool_fields.j1 k y0 y1 y2 y3 y4 y5 y6 y7 y8 y9 y10 y11) (pool_fields.j1 (k + 1) y0 y1 y2 y3 y4 y5 y6 y7 y8 y9 y10 y11))
 | 0 => ⟨fun _ _ _ _ _ _ _ _ _ _ _ _ r h => by simp [pool_fields.j0] at h,fun _ _ _ _ _ _ _ _ _ _ _ _ r h => by simp [pool_fields.j1] at h⟩
 | k + 1 => by
  obtain ⟨ih0,ih1⟩:=pool_fields.mono_l k
  refine ⟨?_,?_⟩
  ·intro y0 y1 y2 y3 y4 y5 y6 y7 y8 y9 y10 y11
   unfold pool_fields.j0
   repeat' first
   | (with_reducible exact ih0 _ _ _ _ _ _ _ _ _ _ _ _)
   | (with_reducible exact ih1 _ _ _ _ _ _ _ _ _ _ _ _)
   | (with_reducible exact LeO.refl _)
   | (with_reducible exact LeO.none _)
   | (with_reducible refine LeO.ite ?_ ?_)
   | (with_reducible refine LeO.bind ?_ (fun _ => ?_))
   | exact ih0 _ _ _ _ _ _ _ _ _ _ _ _
   | exact ih1 _ _ _ _ _ _ _ _ _ _ _ _
   | exact LeO.none _
   | refine LeO.ite ?_ ?_
   | refine LeO.bind ?_ (fun _ => ?_)
  ·intro y0 y1 y2 y3 y4 y5 y6 y7 y8 y9 y10 y11
   unfold pool_fields.j1
   repeat' first
   | (with_reducible exact ih0 _ _ _ _ _ _ _ _ _ _ _ _)
   | (with_reducible exact ih1 _ _ _ _ _ _ _ _ _ _ _ _)
   | (with_reducible exact LeO.refl _)
   | (with_reducible exact LeO.none _)
   | (with_reducible refine LeO.ite ?_ ?_)
   | (with_reducible refine LeO.bind ?_ (fun _ => ?_))
   | exact ih0 _ _ _ _ _ _ _ _ _ _ _ _
   | exact ih1 _ _ _ _ _ _ _ _ _ _ _ _
   | exact LeO.none _
   | refine LeO.ite ?_ ?_
   | refine LeO.bind ?_ (fun _ => ?_)
theorem pool_fields.mono:∀ a0 a1 a2 a3 a4 k,LeO (pool_fields.f k a0 a1 a2 a3 a4) (pool_fields.f (k + 1) a0 a1 a2 a3 a4):=by
 intro a0 a1 a2 a3 a4 k
 obtain ⟨ih0,ih1⟩:=pool_fields.mono_l k
 unfold pool_fields.f
 repeat' first
   | (with_reducible exact ih0 _ _ _ _ _ _ _ _ _ _ _ _)
   | (with_reducible exact ih1 _ _ _ _ _ _ _ _ _ _ _ _)
   | (with_reducible exact LeO.refl _)
   | (with_reducible exact LeO.none _)
   | (with_reducible refine LeO.ite ?_ ?_)
   | (with_reducible refine LeO.bind ?_ (fun _ => ?_))
   | exact ih0 _ _ _ _ _ _ _ _ _ _ _ _
   | exact ih1 _ _ _ _ _ _ _ _ _ _ _ _
   | exact LeO.none _
   | refine LeO.ite ?_ ?_
   | refine LeO.bind ?_ (fun _ => ?_)
set_option maxHeartbeats 80000000 in
set_option maxRecDepth 100000 in
theorem pool_fields.calls (k:Nat) (a0_0:Int) (a0_1:ByteArray) (a0_2:Int) (a0_3:Int) (a0_4:Int) (r1:Int) (r2:ByteArray) (r3:Int) (r4:Int) (r5:Int) (w:World) (h:pool_fields.f k a0_0 a0_1 a0_2 a0_3 a0_4=some (r1,r2,r3,r4,r5)) :
  Calls Tryd.prog 76 #[.agg #[.int .i64 a0_0,.string a0_1,.int .i64 a0_2,.int .i64 a0_3,.int .i64 a0_4]] w fun e w' => e=.returned (.agg #[.int .i64 r1,.string r2,.int .i64 r3,.int .i64 r4,.int .i64 r5])∧Below w.heap.size w w':=by
 have hu67:=Tryd.underlying67
 have HB:=Aside0.mk (Below.refl w.heap.size w)
 have H:(if a0_0=1 then (some (a0_0,a0_1,0,0,0)) else (if a0_0=3 then (pool_fields.j0 k a0_0 (a0_0==3) a0_0 a0_1 a0_2 a0_3 a0_4 a0_0 (⟨#[]⟩:ByteArray) 0 0 0) else (pool_fields.j0 k a0_0 (a0_0==5) a0_0 a0_1 a0_2 a0_3 a0_4 a0_0 (⟨#[]⟩:ByteArray) 0 0 0)))=some (r1,r2,r3,r4,r5):=h
 clear h
 by_cases c2:a0_0=1
 ·rw [if_pos c2] at H
  have c2b0:(a0_0==1)=true:=beq_iff_eq.mpr c2
  have c2b1:(a0_0 != 1)=false:=bne_eq_false_iff_eq.mpr c2
  clear c2
  simp only [Option.some.injEq,Prod.mk.injEq] at H
  obtain ⟨rfl,rfl,rfl,rfl,rfl⟩:=H
  go_enter Tryd.func76,Tryd.ntmps76
  go_wp2_with (first|((with_reducible refine gate_dst (N:=1) rfl ?_);refine box_event ?hg (N:=1) ?hd (cs:=#[.int .i64 a0_0,.string a0_1,.int .i64 a0_2,.int .i64 a0_3,.int .i64 a0_4]) (t:=67) ?hr ?_;(case hd => rfl);(case hg => rfl);(case hr => first|(go_simp;done)|(go_simp;rfl));intro gb116 hg w3 hbox hb;have n0_:=Aside0.mk (below_step (by repeat (first|(with_reducible first|exact HB.out|apply below_alloc|apply pw_below_drewN|apply below_drew1)|exact HB.out)) hb);have n1_:=Aside0.mk (hbox);have n2_:=Aside0.mk ((by rw [hg];exact (below_size (by repeat (first|(with_reducible first|exact HB.out|apply below_alloc|apply pw_below_drewN|apply below_drew1)|exact HB.out))):w.heap.size≤gb116));have n3_:=Aside0.mk ((by rw [hg];exact (below_size (by repeat (first|(with_reducible first|exact HB.out|apply below_alloc|apply pw_below_drewN|apply below_drew1)|exact HB.out))):w.heap.size≤gb116));clear HB;have HB:=n0_;have BK116:=n1_;have GW116:=n2_;have GE116:=n3_;clear n0_ n1_ n2_ n3_;clear hb hbox hg)|((with_reducible refine gate_dst (N:=2) rfl ?_);refine box_event ?hg (N:=2) ?hd (cs:=#[.int .i64 0,.string (⟨#[]⟩:ByteArray),.int .i64 0,.int .i64 0,.int .i64 0]) (t:=67) ?hr ?_;(case hd => rfl);(case hg => rfl);(case hr => first|(go_simp;done)|(go_simp;rfl));intro gb117 hg w4 hbox hb;have n0_:=Aside0.mk (blk_below (g:=gb116) (o:=.cells #[.int .i64 a0_0,.string a0_1,.int .i64 a0_2,.int .i64 a0_3,.int .i64 a0_4] 67 (0,0)) (by (with_reducible repeat (first|refine blk_drewN ?_ _|refine blk_drew ?_|refine blk_alloc ?_ _));exact BK116.out) hb);have n1_:=Aside0.mk (below_step (by repeat (first|(with_reducible first|exact HB.out|apply below_alloc|apply pw_below_drewN|apply below_drew1|refine below_set ?_ GE116.out)|exact HB.out)) hb);have n2_:=Aside0.mk (hbox);have n3_:=Aside0.mk ((by rw [hg];exact (below_size (by repeat (first|(with_reducible first|exact HB.out|apply below_alloc|apply pw_below_drewN|apply below_drew1|refine below_set ?_ GE116.out)|exact HB.out))):w.heap.size≤gb117));have n4_:=Aside0.mk ((by rw [hg];exact (below_size (by repeat (first|(with_reducible first|exact HB.out|apply below_alloc|apply pw_below_drewN|apply below_drew1|refine below_set ?_ GE116.out)|exact HB.out))):w.heap.size≤gb117));have n5_:=Aside0.mk ((by rw [hg];exact Nat.ne_of_lt (blk_lt (g:=gb116) (o:=.cells #[.int .i64 a0_0,.string a0_1,.int .i64 a0_2,.int .i64 a0_3,.int .i64 a0_4] 67 (0,0)) (by (with_reducible repeat (first|refine blk_drewN ?_ _|refine blk_drew ?_|refine blk_alloc ?_ _));exact BK116.out)):gb116 ≠ gb117));have n6_:=Aside0.mk ((by rw [hg];exact Nat.ne_of_gt (blk_lt (g:=gb116) (o:=.cells #[.int .i64 a0_0,.string a0_1,.int .i64 a0_2,.int .i64 a0_3,.int .i64 a0_4] 67 (0,0)) (by (with_reducible repeat (first|refine blk_drewN ?_ _|refine blk_drew ?_|refine blk_alloc ?_ _));exact BK116.out)):gb117 ≠ gb116));clear BK116;clear HB;have BK116:=n0_;have HB:=n1_;have BK117:=n2_;have GW117:=n3_;have GE117:=n4_;have NB116_117:=n5_;have NB117_116:=n6_;clear n0_ n1_ n2_ n3_ n4_ n5_ n6_;clear hb hbox hg;have hnb5:=NB116_117.out;have hnc5:=NB117_116.out;have hcz6_0:w4.cell? ⟨gb116,0,none⟩=some (.int .i64 a0_0):=(blk_cell BK116.out 0).trans rfl;have hcz6_1:w4.cell? ⟨gb116,1,none⟩=some (.string a0_1):=(blk_cell BK116.out 1).trans rfl;have hcz6_2:w4.cell? ⟨gb116,2,none⟩=some (.int .i64 a0_2):=(blk_cell BK116.out 2).trans rfl;have hcz6_3:w4.cell? ⟨gb116,3,none⟩=some (.int .i64 a0_3):=(blk_cell BK116.out 3).trans rfl;have hcz6_4:w4.cell? ⟨gb116,4,none⟩=some (.int .i64 a0_4):=(blk_cell BK116.out 4).trans rfl;have hfz6_0:=blk_frozen BK116.out 0;have hfz6_1:=blk_frozen BK116.out 1;have hfz6_2:=blk_frozen BK116.out 2;have hfz6_3:=blk_frozen BK116.out 3;have hfz6_4:=blk_frozen BK116.out 4)|((with_reducible refine gate_dst (N:=3) rfl ?_);refine box_event ?hg (N:=3) ?hd (cs:=#[.int .i64 0,.string (⟨#[]⟩:ByteArray),.int .i64 0,.int .i64 0,.int .i64 0]) (t:=67) ?hr ?_;(case hd => rfl);(case hg => rfl);(case hr => first|(go_simp;done)|(go_simp;rfl));intro gb118 hg w7 hbox hb;have n0_:=Aside0.mk (blk_below (g:=gb116) (o:=.cells #[.int .i64 a0_0,.string a0_1,.int .i64 a0_2,.int .i64 a0_3,.int .i64 a0_4] 67 (0,0)) (by (with_reducible repeat (first|refine blk_drewN ?_ _|refine blk_drew ?_|refine blk_alloc ?_ _));exact BK116.out) hb);have n1_:=Aside0.mk (blk_below (g:=gb117) (o:=.cells #[.int .i64 0,.string (⟨#[]⟩:ByteArray),.int .i64 0,.int .i64 0,.int .i64 0] 67 (0,0)) (by (with_reducible repeat (first|refine blk_drewN ?_ _|refine blk_drew ?_|refine blk_alloc ?_ _));exact BK117.out) hb);have n2_:=Aside0.mk (below_step (by repeat (first|(with_reducible first|exact HB.out|apply below_alloc|apply pw_below_drewN|apply below_drew1|refine below_set ?_ GE116.out|refine below_set ?_ GE117.out)|exact HB.out)) hb);have n3_:=Aside0.mk (hbox);have n4_:=Aside0.mk ((by rw [hg];exact (below_size (by repeat (first|(with_reducible first|exact HB.out|apply below_alloc|apply pw_below_drewN|apply below_drew1|refine below_set ?_ GE116.out|refine below_set ?_ GE117.out)|exact HB.out))):w.heap.size≤gb118));have n5_:=Aside0.mk ((by rw [hg];exact (below_size (by repeat (first|(with_reducible first|exact HB.out|apply below_alloc|apply pw_below_drewN|apply below_drew1|refine below_set ?_ GE116.out|refine below_set ?_ GE117.out)|exact HB.out))):w.heap.size≤gb118));have n6_:=Aside0.mk ((by rw [hg];exact Nat.ne_of_lt (blk_lt (g:=gb116) (o:=.cells #[.int .i64 a0_0,.string a0_1,.int .i64 a0_2,.int .i64 a0_3,.int .i64 a0_4] 67 (0,0)) (by (with_reducible repeat (first|refine blk_drewN ?_ _|refine blk_drew ?_|refine blk_alloc ?_ _));exact BK116.out)):gb116 ≠ gb118));have n7_:=Aside0.mk ((by rw [hg];exact Nat.ne_of_gt (blk_lt (g:=gb116) (o:=.cells #[.int .i64 a0_0,.string a0_1,.int .i64 a0_2,.int .i64 a0_3,.int .i64 a0_4] 67 (0,0)) (by (with_reducible repeat (first|refine blk_drewN ?_ _|refine blk_drew ?_|refine blk_alloc ?_ _));exact BK116.out)):gb118 ≠ gb116));have n8_:=Aside0.mk ((by rw [hg];exact Nat.ne_of_lt (blk_lt (g:=gb117) (o:=.cells #[.int .i64 0,.string (⟨#[]⟩:ByteArray),.int .i64 0,.int .i64 0,.int .i64 0] 67 (0,0)) (by (with_reducible repeat (first|refine blk_drewN ?_ _|refine blk_drew ?_|refine blk_alloc ?_ _));exact BK117.out)):gb117 ≠ gb118));have n9_:=Aside0.mk ((by rw [hg];exact Nat.ne_of_gt (blk_lt (g:=gb117) (o:=.cells #[.int .i64 0,.string (⟨#[]⟩:ByteArray),.int .i64 0,.int .i64 0,.int .i64 0] 67 (0,0)) (by (with_reducible repeat (first|refine blk_drewN ?_ _|refine blk_drew ?_|refine blk_alloc ?_ _));exact BK117.out)):gb118 ≠ gb117));clear BK116;clear BK117;clear HB;have BK116:=n0_;have BK117:=n1_;have HB:=n2_;have BK118:=n3_;have GW118:=n4_;have GE118:=n5_;have NB116_118:=n6_;have NB118_116:=n7_;have NB117_118:=n8_;have NB118_117:=n9_;clear n0_ n1_ n2_ n3_ n4_ n5_ n6_ n7_ n8_ n9_;clear hb hbox hg;have hnb8:=NB118_116.out;have hnc8:=NB116_118.out;have hnb9:=NB118_117.out;have hnc9:=NB117_118.out;have hcz10_0:w7.cell? ⟨gb118,0,none⟩=some (.int .i64 0):=(blk_cell BK118.out 0).trans rfl;have hcz10_1:w7.cell? ⟨gb118,1,none⟩=some (.string (⟨#[]⟩:ByteArray)):=(blk_cell BK118.out 1).trans rfl;have hcz10_2:w7.cell? ⟨gb118,2,none⟩=some (.int .i64 0):=(blk_cell BK118.out 2).trans rfl;have hcz10_3:w7.cell? ⟨gb118,3,none⟩=some (.int .i64 0):=(blk_cell BK118.out 3).trans rfl;have hcz10_4:w7.cell? ⟨gb118,4,none⟩=some (.int .i64 0):=(blk_cell BK118.out 4).trans rfl;have hfz10_0:=blk_frozen BK118.out 0;have hfz10_1:=blk_frozen BK118.out 1;have hfz10_2:=blk_frozen BK118.out 2;have hfz10_3:=blk_frozen BK118.out 3;have hfz10_4:=blk_frozen BK118.out 4)|((with_reducible refine gate_store (t:=67) (p:=3) rfl ?_);refine store_event (t:=67) (p:=3) (v:=?vo_w11) (w1:=(((((w7.setCell ⟨gb118,0,none⟩ (.int .i64 a0_0)).setCell ⟨gb118,1,none⟩ (.string (⟨#[]⟩:ByteArray))).setCell ⟨gb118,2,none⟩ (.int .i64 0)).setCell ⟨gb118,3,none⟩ (.int .i64 0)).setCell ⟨gb118,4,none⟩ (.int .i64 0))) ?hg ?ho ?hn ?hr ?_;(case ho => rfl);(case hg => rfl);(case hn => rfl);(case hr => first|(go_simp;done)|(go_simp;rfl));intro w11 hw;have n0_:Aside0 (w11.heap[gb116]?=some (.cells #[.int .i64 a0_0,.string a0_1,.int .i64 a0_2,.int .i64 a0_3,.int .i64 a0_4] 67 (0,0))):=⟨(by rw [hw];exact (by (with_reducible repeat (first|refine blk_drewN ?_ _|refine blk_drew ?_|refine blk_alloc ?_ _));refine blk_far ?_ NB116_118.out _;(with_reducible repeat (first|refine blk_drewN ?_ _|refine blk_drew ?_|refine blk_alloc ?_ _));refine blk_far ?_ NB116_118.out _;(with_reducible repeat (first|refine blk_drewN ?_ _|refine blk_drew ?_|refine blk_alloc ?_ _));refine blk_far ?_ NB116_118.out _;(with_reducible repeat (first|refine blk_drewN ?_ _|refine blk_drew ?_|refine blk_alloc ?_ _));refine blk_far ?_ NB116_118.out _;(with_reducible repeat (first|refine blk_drewN ?_ _|refine blk_drew ?_|refine blk_alloc ?_ _));refine blk_far ?_ NB116_118.out _;(with_reducible repeat (first|refine blk_drewN ?_ _|refine blk_drew ?_|refine blk_alloc ?_ _));exact BK116.out))⟩;have n1_:Aside0 (w11.heap[gb117]?=some (.cells #[.int .i64 0,.string (⟨#[]⟩:ByteArray),.int .i64 0,.int .i64 0,.int .i64 0] 67 (0,0))):=⟨(by rw [hw];exact (by (with_reducible repeat (first|refine blk_drewN ?_ _|refine blk_drew ?_|refine blk_alloc ?_ _));refine blk_far ?_ NB117_118.out _;(with_reducible repeat (first|refine blk_drewN ?_ _|refine blk_drew ?_|refine blk_alloc ?_ _));refine blk_far ?_ NB117_118.out _;(with_reducible repeat (first|refine blk_drewN ?_ _|refine blk_drew ?_|refine blk_alloc ?_ _));refine blk_far ?_ NB117_118.out _;(with_reducible repeat (first|refine blk_drewN ?_ _|refine blk_drew ?_|refine blk_alloc ?_ _));refine blk_far ?_ NB117_118.out _;(with_reducible repeat (first|refine blk_drewN ?_ _|refine blk_drew ?_|refine blk_alloc ?_ _));refine blk_far ?_ NB117_118.out _;(with_reducible repeat (first|refine blk_drewN ?_ _|refine blk_drew ?_|refine blk_alloc ?_ _));exact BK117.out))⟩;have n2_:Aside0 (w11.heap[gb118]?=some (.cells #[.int .i64 a0_0,.string (⟨#[]⟩:ByteArray),.int .i64 0,.int .i64 0,.int .i64 0] 67 (0,0))):=⟨(by rw [hw];exact (by (with_reducible repeat (first|refine blk_drewN ?_ _|refine blk_drew ?_|refine blk_alloc ?_ _));refine blk_put (cs:=#[.int .i64 a0_0,.string (⟨#[]⟩:ByteArray),.int .i64 0,.int .i64 0,.int .i64 0]) ?_ 4 _ rfl;(with_reducible repeat (first|refine blk_drewN ?_ _|refine blk_drew ?_|refine blk_alloc ?_ _));refine blk_put (cs:=#[.int .i64 a0_0,.string (⟨#[]⟩:ByteArray),.int .i64 0,.int .i64 0,.int .i64 0]) ?_ 3 _ rfl;(with_reducible repeat (first|refine blk_drewN ?_ _|refine blk_drew ?_|refine blk_alloc ?_ _));refine blk_put (cs:=#[.int .i64 a0_0,.string (⟨#[]⟩:ByteArray),.int .i64 0,.int .i64 0,.int .i64 0]) ?_ 2 _ rfl;(with_reducible repeat (first|refine blk_drewN ?_ _|refine blk_drew ?_|refine blk_alloc ?_ _));refine blk_put (cs:=#[.int .i64 a0_0,.string (⟨#[]⟩:ByteArray),.int .i64 0,.int .i64 0,.int .i64 0]) ?_ 1 _ rfl;(with_reducible repeat (first|refine blk_drewN ?_ _|refine blk_drew ?_|refine blk_alloc ?_ _));refine blk_put (cs:=#[.int .i64 0,.string (⟨#[]⟩:ByteArray),.int .i64 0,.int .i64 0,.int .i64 0]) ?_ 0 _ rfl;(with_reducible repeat (first|refine blk_drewN ?_ _|refine blk_drew ?_|refine blk_alloc ?_ _));exact BK118.out))⟩;have n3_:Aside0 (Below w.heap.size w w11):=⟨(by rw [hw];exact (by repeat (first|(with_reducible first|exact HB.out|apply below_alloc|apply pw_below_drewN|apply below_drew1|refine below_set ?_ GE116.out|refine below_set ?_ GE117.out|refine below_set ?_ GE118.out)|exact HB.out)))⟩;clear hw;clear BK116;clear BK117;clear BK118;clear HB;have BK116:=n0_;have BK117:=n1_;have BK118:=n2_;have HB:=n3_;clear n0_ n1_ n2_ n3_;have hcz12_0:w11.cell? ⟨gb116,0,none⟩=some (.int .i64 a0_0):=(blk_cell BK116.out 0).trans rfl;have hcz12_1:w11.cell? ⟨gb116,1,none⟩=some (.string a0_1):=(blk_cell BK116.out 1).trans rfl;have hcz12_2:w11.cell? ⟨gb116,2,none⟩=some (.int .i64 a0_2):=(blk_cell BK116.out 2).trans rfl;have hcz12_3:w11.cell? ⟨gb116,3,none⟩=some (.int .i64 a0_3):=(blk_cell BK116.out 3).trans rfl;have hcz12_4:w11.cell? ⟨gb116,4,none⟩=some (.int .i64 a0_4):=(blk_cell BK116.out 4).trans rfl;have hfz12_0:=blk_frozen BK116.out 0;have hfz12_1:=blk_frozen BK116.out 1;have hfz12_2:=blk_frozen BK116.out 2;have hfz12_3:=blk_frozen BK116.out 3;have hfz12_4:=blk_frozen BK116.out 4;have hcz13_0:w11.cell? ⟨gb118,0,none⟩=some (.int .i64 a0_0):=(blk_cell BK118.out 0).trans rfl;have hcz13_1:w11.cell? ⟨gb118,1,none⟩=some (.string (⟨#[]⟩:ByteArray)):=(blk_cell BK118.out 1).trans rfl;have hcz13_2:w11.cell? ⟨gb118,2,none⟩=some (.int .i64 0):=(blk_cell BK118.out 2).trans rfl;have hcz13_3:w11.cell? ⟨gb118,3,none⟩=some (.int .i64 0):=(blk_cell BK118.out 3).trans rfl;have hcz13_4:w11.cell? ⟨gb118,4,none⟩=some (.int .i64 0):=(blk_cell BK118.out 4).trans rfl;have hfz13_0:=blk_frozen BK118.out 0;have hfz13_1:=blk_frozen BK118.out 1;have hfz13_2:=blk_frozen BK118.out 2;have hfz13_3:=blk_frozen BK118.out 3;have hfz13_4:=blk_frozen BK118.out 4;have hcz14_0:w11.cell? ⟨gb117,0,none⟩=some (.int .i64 0):=(blk_cell BK117.out 0).trans rfl;have hcz14_1:w11.cell? ⟨gb117,1,none⟩=some (.string (⟨#[]⟩:ByteArray)):=(blk_cell BK117.out 1).trans rfl;have hcz14_2:w11.cell? ⟨gb117,2,none⟩=some (.int .i64 0):=(blk_cell BK117.out 2).trans rfl;have hcz14_3:w11.cell? ⟨gb117,3,none⟩=some (.int .i64 0):=(blk_cell BK117.out 3).trans rfl;have hcz14_4:w11.cell? ⟨gb117,4,none⟩=some (.int .i64 0):=(blk_cell BK117.out 4).trans rfl;have hfz14_0:=blk_frozen BK117.out 0;have hfz14_1:=blk_frozen BK117.out 1;have hfz14_2:=blk_frozen BK117.out 2;have hfz14_3:=blk_frozen BK117.out 3;have hfz14_4:=blk_frozen BK117.out 4)|((with_reducible refine gate_store (t:=67) (p:=2) rfl ?_);refine store_event (t:=67) (p:=2) (v:=?vo_w15) (w1:=((((((w11.setCell ⟨gb118,1,none⟩ (.string a0_1)).setCell ⟨gb117,0,none⟩ (.int .i64 a0_0)).setCell ⟨gb117,1,none⟩ (.string a0_1)).setCell ⟨gb117,2,none⟩ (.int .i64 0)).setCell ⟨gb117,3,none⟩ (.int .i64 0)).setCell ⟨gb117,4,none⟩ (.int .i64 0))) ?hg ?ho ?hn ?hr ?_;(case ho => rfl);(case hg => rfl);(case hn => rfl);(case hr => first|(go_simp;done)|(go_simp;rfl));intro w15 hw;have n0_:Aside0 (w15.heap[gb116]?=some (.cells #[.int .i64 a0_0,.string a0_1,.int .i64 a0_2,.int .i64 a0_3,.int .i64 a0_4] 67 (0,0))):=⟨(by rw [hw];exact (by (with_reducible repeat (first|refine blk_drewN ?_ _|refine blk_drew ?_|refine blk_alloc ?_ _));refine blk_far ?_ NB116_117.out _;(with_reducible repeat (first|refine blk_drewN ?_ _|refine blk_drew ?_|refine blk_alloc ?_ _));refine blk_far ?_ NB116_117.out _;(with_reducible repeat (first|refine blk_drewN ?_ _|refine blk_drew ?_|refine blk_alloc ?_ _));refine blk_far ?_ NB116_117.out _;(with_reducible repeat (first|refine blk_drewN ?_ _|refine blk_drew ?_|refine blk_alloc ?_ _));refine blk_far ?_ NB116_117.out _;(with_reducible repeat (first|refine blk_drewN ?_ _|refine blk_drew ?_|refine blk_alloc ?_ _));refine blk_far ?_ NB116_117.out _;(with_reducible repeat (first|refine blk_drewN ?_ _|refine blk_drew ?_|refine blk_alloc ?_ _));refine blk_far ?_ NB116_118.out _;(with_reducible repeat (first|refine blk_drewN ?_ _|refine blk_drew ?_|refine blk_alloc ?_ _));exact BK116.out))⟩;have n1_:Aside0 (w15.heap[gb117]?=some (.cells #[.int .i64 a0_0,.string a0_1,.int .i64 0,.int .i64 0,.int .i64 0] 67 (0,0))):=⟨(by rw [hw];exact (by (with_reducible repeat (first|refine blk_drewN ?_ _|refine blk_drew ?_|refine blk_alloc ?_ _));refine blk_put (cs:=#[.int .i64 a0_0,.string a0_1,.int .i64 0,.int .i64 0,.int .i64 0]) ?_ 4 _ rfl;(with_reducible repeat (first|refine blk_drewN ?_ _|refine blk_drew ?_|refine blk_alloc ?_ _));refine blk_put (cs:=#[.int .i64 a0_0,.string a0_1,.int .i64 0,.int .i64 0,.int .i64 0]) ?_ 3 _ rfl;(with_reducible repeat (first|refine blk_drewN ?_ _|refine blk_drew ?_|refine blk_alloc ?_ _));refine blk_put (cs:=#[.int .i64 a0_0,.string a0_1,.int .i64 0,.int .i64 0,.int .i64 0]) ?_ 2 _ rfl;(with_reducible repeat (first|refine blk_drewN ?_ _|refine blk_drew ?_|refine blk_alloc ?_ _));refine blk_put (cs:=#[.int .i64 a0_0,.string (⟨#[]⟩:ByteArray),.int .i64 0,.int .i64 0,.int .i64 0]) ?_ 1 _ rfl;(with_reducible repeat (first|refine blk_drewN ?_ _|refine blk_drew ?_|refine blk_alloc ?_ _));refine blk_put (cs:=#[.int .i64 0,.string (⟨#[]⟩:ByteArray),.int .i64 0,.int .i64 0,.int .i64 0]) ?_ 0 _ rfl;(with_reducible repeat (first|refine blk_drewN ?_ _|refine blk_drew ?_|refine blk_alloc ?_ _));refine blk_far ?_ NB117_118.out _;(with_reducible repeat (first|refine blk_drewN ?_ _|refine blk_drew ?_|refine blk_alloc ?_ _));exact BK117.out))⟩;have n2_:Aside0 (w15.heap[gb118]?=some (.cells #[.int .i64 a0_0,.string a0_1,.int .i64 0,.int .i64 0,.int .i64 0] 67 (0,0))):=⟨(by rw [hw];exact (by (with_reducible repeat (first|refine blk_drewN ?_ _|refine blk_drew ?_|refine blk_alloc ?_ _));refine blk_far ?_ NB118_117.out _;(with_reducible repeat (first|refine blk_drewN ?_ _|refine blk_drew ?_|refine blk_alloc ?_ _));refine blk_far ?_ NB118_117.out _;(with_reducible repeat (first|refine blk_drewN ?_ _|refine blk_drew ?_|refine blk_alloc ?_ _));refine blk_far ?_ NB118_117.out _;(with_reducible repeat (first|refine blk_drewN ?_ _|refine blk_drew ?_|refine blk_alloc ?_ _));refine blk_far ?_ NB118_117.out _;(with_reducible repeat (first|refine blk_drewN ?_ _|refine blk_drew ?_|refine blk_alloc ?_ _));refine blk_far ?_ NB118_117.out _;(with_reducible repeat (first|refine blk_drewN ?_ _|refine blk_drew ?_|refine blk_alloc ?_ _));refine blk_put (cs:=#[.int .i64 a0_0,.string (⟨#[]⟩:ByteArray),.int .i64 0,.int .i64 0,.int .i64 0]) ?_ 1 _ rfl;(with_reducible repeat (first|refine blk_drewN ?_ _|refine blk_drew ?_|refine blk_alloc ?_ _));exact BK118.out))⟩;have n3_:Aside0 (Below w.heap.size w w15):=⟨(by rw [hw];exact (by repeat (first|(with_reducible first|exact HB.out|apply below_alloc|apply pw_below_drewN|apply below_drew1|refine below_set ?_ GE116.out|refine below_set ?_ GE117.out|refine below_set ?_ GE118.out)|exact HB.out)))⟩;clear hw;clear BK116;clear BK117;clear BK118;clear HB;have BK116:=n0_;have BK117:=n1_;have BK118:=n2_;have HB:=n3_;clear n0_ n1_ n2_ n3_))
  refine bodyPost_ret (results_cell_row rfl _ _ gb117 67 #[.int .i64 a0_0,.string a0_1,.int .i64 0,.int .i64 0,.int .i64 0] (0,0) _ rfl (by (with_reducible repeat (first|refine blk_drewN ?_ _|refine blk_drew ?_|refine blk_alloc ?_ _));exact BK117.out) Tryd.underlying67 rfl (by kernel_rfl)) rfl ?_
  exact ⟨by first|rfl|(simp [errW_none,errW_some] <;> rfl)|(simp [*,errW_none,errW_some] <;> rfl),by repeat (first|(with_reducible first|exact HB.out|apply below_alloc|apply pw_below_drewN|apply below_drew1|refine below_set ?_ GE116.out|refine below_set ?_ GE117.out|refine below_set ?_ GE118.out)|exact HB.out)⟩
 ·rw [if_neg c2] at H
  have c2b0:(a0_0==1)=false:=beq_eq_false_iff_ne.mpr c2
  have c2b1:(a0_0 != 1)=true:=bne_iff_ne.mpr c2
  have HC16:=Aside0.mk H
  clear H
  go_enter Tryd.func76,Tryd.ntmps76
  go_upto_if 11 with (first|((with_reducible refine gate_dst (N:=1) rfl ?_);refine box_event ?hg (N:=1) ?hd (cs:=#[.int .i64 a0_0,.string a0_1,.int .i64 a0_2,.int .i64 a0_3,.int .i64 a0_4]) (t:=67) ?hr ?_;(case hd => rfl);(case hg => rfl);(case hr => first|(go_simp;done)|(go_simp;rfl));intro gb116 hg w17 hbox hb;have n0_:=Aside0.mk (below_step (by repeat (first|(with_reducible first|exact HB.out|apply below_alloc|apply pw_below_drewN|apply below_drew1)|exact HB.out)) hb);have n1_:=Aside0.mk (hbox);have n2_:=Aside0.mk ((by rw [hg];exact (below_size (by repeat (first|(with_reducible first|exact HB.out|apply below_alloc|apply pw_below_drewN|apply below_drew1)|exact HB.out))):w.heap.size≤gb116));have n3_:=Aside0.mk ((by rw [hg];exact (below_size (by repeat (first|(with_reducible first|exact HB.out|apply below_alloc|apply pw_below_drewN|apply below_drew1)|exact HB.out))):w.heap.size≤gb116));clear HB;have HB:=n0_;have BK116:=n1_;have GW116:=n2_;have GE116:=n3_;clear n0_ n1_ n2_ n3_;clear hb hbox hg)|((with_reducible refine gate_dst (N:=2) rfl ?_);refine box_event ?hg (N:=2) ?hd (cs:=#[.int .i64 0,.string (⟨#[]⟩:ByteArray),.int .i64 0,.int .i64 0,.int .i64 0]) (t:=67) ?hr ?_;(case hd => rfl);(case hg => rfl);(case hr => first|(go_simp;done)|(go_simp;rfl));intro gb117 hg w18 hbox hb;have n0_:=Aside0.mk (blk_below (g:=gb116) (o:=.cells #[.int .i64 a0_0,.string a0_1,.int .i64 a0_2,.int .i64 a0_3,.int .i64 a0_4] 67 (0,0)) (by (with_reducible repeat (first|refine blk_drewN ?_ _|refine blk_drew ?_|refine blk_alloc ?_ _));exact BK116.out) hb);have n1_:=Aside0.mk (below_step (by repeat (first|(with_reducible first|exact HB.out|apply below_alloc|apply pw_below_drewN|apply below_drew1|refine below_set ?_ GE116.out)|exact HB.out)) hb);have n2_:=Aside0.mk (hbox);have n3_:=Aside0.mk ((by rw [hg];exact (below_size (by repeat (first|(with_reducible first|exact HB.out|apply below_alloc|apply pw_below_drewN|apply below_drew1|refine below_set ?_ GE116.out)|exact HB.out))):w.heap.size≤gb117));have n4_:=Aside0.mk ((by rw [hg];exact (below_size (by repeat (first|(with_reducible first|exact HB.out|apply below_alloc|apply pw_below_drewN|apply below_drew1|refine below_set ?_ GE116.out)|exact HB.out))):w.heap.size≤gb117));have n5_:=Aside0.mk ((by rw [hg];exact Nat.ne_of_lt (blk_lt (g:=gb116) (o:=.cells #[.int .i64 a0_0,.string a0_1,.int .i64 a0_2,.int .i64 a0_3,.int .i64 a0_4] 67 (0,0)) (by (with_reducible repeat (first|refine blk_drewN ?_ _|refine blk_drew ?_|refine blk_alloc ?_ _));exact BK116.out)):gb116 ≠ gb117));have n6_:=Aside0.mk ((by rw [hg];exact Nat.ne_of_gt (blk_lt (g:=gb116) (o:=.cells #[.int .i64 a0_0,.string a0_1,.int .i64 a0_2,.int .i64 a0_3,.int .i64 a0_4] 67 (0,0)) (by (with_reducible repeat (first|refine blk_drewN ?_ _|refine blk_drew ?_|refine blk_alloc ?_ _));exact BK116.out)):gb117 ≠ gb116));clear BK116;clear HB;have BK116:=n0_;have HB:=n1_;have BK117:=n2_;have GW117:=n3_;have GE117:=n4_;have NB116_117:=n5_;have NB117_116:=n6_;clear n0_ n1_ n2_ n3_ n4_ n5_ n6_;clear hb hbox hg;have hnb19:=NB116_117.out;have hnc19:=NB117_116.out;have hcz20_0:w18.cell? ⟨gb116,0,none⟩=some (.int .i64 a0_0):=(blk_cell BK116.out 0).trans rfl;have hcz20_1:w18.cell? ⟨gb116,1,none⟩=some (.string a0_1):=(blk_cell BK116.out 1).trans rfl;have hcz20_2:w18.cell? ⟨gb116,2,none⟩=some (.int .i64 a0_2):=(blk_cell BK116.out 2).trans rfl;have hcz20_3:w18.cell? ⟨gb116,3,none⟩=some (.int .i64 a0_3):=(blk_cell BK116.out 3).trans rfl;have hcz20_4:w18.cell? ⟨gb116,4,none⟩=some (.int .i64 a0_4):=(blk_cell BK116.out 4).trans rfl;have hfz20_0:=blk_frozen BK116.out 0;have hfz20_1:=blk_frozen BK116.out 1;have hfz20_2:=blk_frozen BK116.out 2;have hfz20_3:=blk_frozen BK116.out 3;have hfz20_4:=blk_frozen BK116.out 4)|((with_reducible refine gate_dst (N:=3) rfl ?_);refine box_event ?hg (N:=3) ?hd (cs:=#[.int .i64 0,.string (⟨#[]⟩:ByteArray),.int .i64 0,.int .i64 0,.int .i64 0]) (t:=67) ?hr ?_;(case hd => rfl);(case hg => rfl);(case hr => first|(go_simp;done)|(go_simp;rfl));intro gb118 hg w21 hbox hb;have n0_:=Aside0.mk (blk_below (g:=gb116) (o:=.cells #[.int .i64 a0_0,.string a0_1,.int .i64 a0_2,.int .i64 a0_3,.int .i64 a0_4] 67 (0,0)) (by (with_reducible repeat (first|refine blk_drewN ?_ _|refine blk_drew ?_|refine blk_alloc ?_ _));exact BK116.out) hb);have n1_:=Aside0.mk (blk_below (g:=gb117) (o:=.cells #[.int .i64 0,.string (⟨#[]⟩:ByteArray),.int .i64 0,.int .i64 0,.int .i64 0] 67 (0,0)) (by (with_reducible repeat (first|refine blk_drewN ?_ _|refine blk_drew ?_|refine blk_alloc ?_ _));exact BK117.out) hb);have n2_:=Aside0.mk (below_step (by repeat (first|(with_reducible first|exact HB.out|apply below_alloc|apply pw_below_drewN|apply below_drew1|refine below_set ?_ GE116.out|refine below_set ?_ GE117.out)|exact HB.out)) hb);have n3_:=Aside0.mk (hbox);have n4_:=Aside0.mk ((by rw [hg];exact (below_size (by repeat (first|(with_reducible first|exact HB.out|apply below_alloc|apply pw_below_drewN|apply below_drew1|refine below_set ?_ GE116.out|refine below_set ?_ GE117.out)|exact HB.out))):w.heap.size≤gb118));have n5_:=Aside0.mk ((by rw [hg];exact (below_size (by repeat (first|(with_reducible first|exact HB.out|apply below_alloc|apply pw_below_drewN|apply below_drew1|refine below_set ?_ GE116.out|refine below_set ?_ GE117.out)|exact HB.out))):w.heap.size≤gb118));have n6_:=Aside0.mk ((by rw [hg];exact Nat.ne_of_lt (blk_lt (g:=gb116) (o:=.cells #[.int .i64 a0_0,.string a0_1,.int .i64 a0_2,.int .i64 a0_3,.int .i64 a0_4] 67 (0,0)) (by (with_reducible repeat (first|refine blk_drewN ?_ _|refine blk_drew ?_|refine blk_alloc ?_ _));exact BK116.out)):gb116 ≠ gb118));have n7_:=Aside0.mk ((by rw [hg];exact Nat.ne_of_gt (blk_lt (g:=gb116) (o:=.cells #[.int .i64 a0_0,.string a0_1,.int .i64 a0_2,.int .i64 a0_3,.int .i64 a0_4] 67 (0,0)) (by (with_reducible repeat (first|refine blk_drewN ?_ _|refine blk_drew ?_|refine blk_alloc ?_ _));exact BK116.out)):gb118 ≠ gb116));have n8_:=Aside0.mk ((by rw [hg];exact Nat.ne_of_lt (blk_lt (g:=gb117) (o:=.cells #[.int .i64 0,.string (⟨#[]⟩:ByteArray),.int .i64 0,.int .i64 0,.int .i64 0] 67 (0,0)) (by (with_reducible repeat (first|refine blk_drewN ?_ _|refine blk_drew ?_|refine blk_alloc ?_ _));exact BK117.out)):gb117 ≠ gb118));have n9_:=Aside0.mk ((by rw [hg];exact Nat.ne_of_gt (blk_lt (g:=gb117) (o:=.cells #[.int .i64 0,.string (⟨#[]⟩:ByteArray),.int .i64 0,.int .i64 0,.int .i64 0] 67 (0,0)) (by (with_reducible repeat (first|refine blk_drewN ?_ _|refine blk_drew ?_|refine blk_alloc ?_ _));exact BK117.out)):gb118 ≠ gb117));clear BK116;clear BK117;clear HB;have BK116:=n0_;have BK117:=n1_;have HB:=n2_;have BK118:=n3_;have GW118:=n4_;have GE118:=n5_;have NB116_118:=n6_;have NB118_116:=n7_;have NB117_118:=n8_;have NB118_117:=n9_;clear n0_ n1_ n2_ n3_ n4_ n5_ n6_ n7_ n8_ n9_;clear hb hbox hg;have hnb22:=NB118_116.out;have hnc22:=NB116_118.out;have hnb23:=NB118_117.out;have hnc23:=NB117_118.out;have hcz24_0:w21.cell? ⟨gb118,0,none⟩=some (.int .i64 0):=(blk_cell BK118.out 0).trans rfl;have hcz24_1:w21.cell? ⟨gb118,1,none⟩=some (.string (⟨#[]⟩:ByteArray)):=(blk_cell BK118.out 1).trans rfl;have hcz24_2:w21.cell? ⟨gb118,2,none⟩=some (.int .i64 0):=(blk_cell BK118.out 2).trans rfl;have hcz24_3:w21.cell? ⟨gb118,3,none⟩=some (.int .i64 0):=(blk_cell BK118.out 3).trans rfl;have hcz24_4:w21.cell? ⟨gb118,4,none⟩=some (.int .i64 0):=(blk_cell BK118.out 4).trans rfl;have hfz24_0:=blk_frozen BK118.out 0;have hfz24_1:=blk_frozen BK118.out 1;have hfz24_2:=blk_frozen BK118.out 2;have hfz24_3:=blk_frozen BK118.out 3;have hfz24_4:=blk_frozen BK118.out 4)|((with_reducible refine gate_store (t:=67) (p:=3) rfl ?_);refine store_event (t:=67) (p:=3) (v:=?vo_w25) (w1:=(((((w21.setCell ⟨gb118,0,none⟩ (.int .i64 a0_0)).setCell ⟨gb118,1,none⟩ (.string (⟨#[]⟩:ByteArray))).setCell ⟨gb118,2,none⟩ (.int .i64 0)).setCell ⟨gb118,3,none⟩ (.int .i64 0)).setCell ⟨gb118,4,none⟩ (.int .i64 0))) ?hg ?ho ?hn ?hr ?_;(case ho => rfl);(case hg => rfl);(case hn => rfl);(case hr => first|(go_simp;done)|(go_simp;rfl));intro w25 hw;have n0_:Aside0 (w25.heap[gb116]?=some (.cells #[.int .i64 a0_0,.string a0_1,.int .i64 a0_2,.int .i64 a0_3,.int .i64 a0_4] 67 (0,0))):=⟨(by rw [hw];exact (by (with_reducible repeat (first|refine blk_drewN ?_ _|refine blk_drew ?_|refine blk_alloc ?_ _));refine blk_far ?_ NB116_118.out _;(with_reducible repeat (first|refine blk_drewN ?_ _|refine blk_drew ?_|refine blk_alloc ?_ _));refine blk_far ?_ NB116_118.out _;(with_reducible repeat (first|refine blk_drewN ?_ _|refine blk_drew ?_|refine blk_alloc ?_ _));refine blk_far ?_ NB116_118.out _;(with_reducible repeat (first|refine blk_drewN ?_ _|refine blk_drew ?_|refine blk_alloc ?_ _));refine blk_far ?_ NB116_118.out _;(with_reducible repeat (first|refine blk_drewN ?_ _|refine blk_drew ?_|refine blk_alloc ?_ _));refine blk_far ?_ NB116_118.out _;(with_reducible repeat (first|refine blk_drewN ?_ _|refine blk_drew ?_|refine blk_alloc ?_ _));exact BK116.out))⟩;have n1_:Aside0 (w25.heap[gb117]?=some (.cells #[.int .i64 0,.string (⟨#[]⟩:ByteArray),.int .i64 0,.int .i64 0,.int .i64 0] 67 (0,0))):=⟨(by rw [hw];exact (by (with_reducible repeat (first|refine blk_drewN ?_ _|refine blk_drew ?_|refine blk_alloc ?_ _));refine blk_far ?_ NB117_118.out _;(with_reducible repeat (first|refine blk_drewN ?_ _|refine blk_drew ?_|refine blk_alloc ?_ _));refine blk_far ?_ NB117_118.out _;(with_reducible repeat (first|refine blk_drewN ?_ _|refine blk_drew ?_|refine blk_alloc ?_ _));refine blk_far ?_ NB117_118.out _;(with_reducible repeat (first|refine blk_drewN ?_ _|refine blk_drew ?_|refine blk_alloc ?_ _));refine blk_far ?_ NB117_118.out _;(with_reducible repeat (first|refine blk_drewN ?_ _|refine blk_drew ?_|refine blk_alloc ?_ _));refine blk_far ?_ NB117_118.out _;(with_reducible repeat (first|refine blk_drewN ?_ _|refine blk_drew ?_|refine blk_alloc ?_ _));exact BK117.out))⟩;have n2_:Aside0 (w25.heap[gb118]?=some (.cells #[.int .i64 a0_0,.string (⟨#[]⟩:ByteArray),.int .i64 0,.int .i64 0,.int .i64 0] 67 (0,0))):=⟨(by rw [hw];exact (by (with_reducible repeat (first|refine blk_drewN ?_ _|refine blk_drew ?_|refine blk_alloc ?_ _));refine blk_put (cs:=#[.int .i64 a0_0,.string (⟨#[]⟩:ByteArray),.int .i64 0,.int .i64 0,.int .i64 0]) ?_ 4 _ rfl;(with_reducible repeat (first|refine blk_drewN ?_ _|refine blk_drew ?_|refine blk_alloc ?_ _));refine blk_put (cs:=#[.int .i64 a0_0,.string (⟨#[]⟩:ByteArray),.int .i64 0,.int .i64 0,.int .i64 0]) ?_ 3 _ rfl;(with_reducible repeat (first|refine blk_drewN ?_ _|refine blk_drew ?_|refine blk_alloc ?_ _));refine blk_put (cs:=#[.int .i64 a0_0,.string (⟨#[]⟩:ByteArray),.int .i64 0,.int .i64 0,.int .i64 0]) ?_ 2 _ rfl;(with_reducible repeat (first|refine blk_drewN ?_ _|refine blk_drew ?_|refine blk_alloc ?_ _));refine blk_put (cs:=#[.int .i64 a0_0,.string (⟨#[]⟩:ByteArray),.int .i64 0,.int .i64 0,.int .i64 0]) ?_ 1 _ rfl;(with_reducible repeat (first|refine blk_drewN ?_ _|refine blk_drew ?_|refine blk_alloc ?_ _));refine blk_put (cs:=#[.int .i64 0,.string (⟨#[]⟩:ByteArray),.int .i64 0,.int .i64 0,.int .i64 0]) ?_ 0 _ rfl;(with_reducible repeat (first|refine blk_drewN ?_ _|refine blk_drew ?_|refine blk_alloc ?_ _));exact BK118.out))⟩;have n3_:Aside0 (Below w.heap.size w w25):=⟨(by rw [hw];exact (by repeat (first|(with_reducible first|exact HB.out|apply below_alloc|apply pw_below_drewN|apply below_drew1|refine below_set ?_ GE116.out|refine below_set ?_ GE117.out|refine below_set ?_ GE118.out)|exact HB.out)))⟩;clear hw;clear BK116;clear BK117;clear BK118;clear HB;have BK116:=n0_;have BK117:=n1_;have BK118:=n2_;have HB:=n3_;clear n0_ n1_ n2_ n3_;have hcz26_0:w25.cell? ⟨gb116,0,none⟩=some (.int .i64 a0_0):=(blk_cell BK116.out 0).trans rfl;have hcz26_1:w25.cell? ⟨gb116,1,none⟩=some (.string a0_1):=(blk_cell BK116.out 1).trans rfl;have hcz26_2:w25.cell? ⟨gb116,2,none⟩=some (.int .i64 a0_2):=(blk_cell BK116.out 2).trans rfl;have hcz26_3:w25.cell? ⟨gb116,3,none⟩=some (.int .i64 a0_3):=(blk_cell BK116.out 3).trans rfl;have hcz26_4:w25.cell? ⟨gb116,4,none⟩=some (.int .i64 a0_4):=(blk_cell BK116.out 4).trans rfl;have hfz26_0:=blk_frozen BK116.out 0;have hfz26_1:=blk_frozen BK116.out 1;have hfz26_2:=blk_frozen BK116.out 2;have hfz26_3:=blk_frozen BK116.out 3;have hfz26_4:=blk_frozen BK116.out 4))
  (try simp only [Act.put,List.setIfInBounds_toArray,List.set_cons_zero,List.set_cons_succ])
  go_cut [11] (fun v11 wc => ∃ (kq:Nat) (x11_15:Bool),v11=.bool x11_15∧Aside0 (pool_fields.j0 kq a0_0 x11_15 a0_0 a0_1 a0_2 a0_3 a0_4 a0_0 (⟨#[]⟩:ByteArray) 0 0 0=some (r1,r2,r3,r4,r5))∧Aside0 (kq≤k)∧Aside0 (wc.heap[gb116]?=some (.cells #[.int .i64 a0_0,.string a0_1,.int .i64 a0_2,.int .i64 a0_3,.int .i64 a0_4] 67 (0,0)))∧Aside0 (wc.heap[gb117]?=some (.cells #[.int .i64 0,.string (⟨#[]⟩:ByteArray),.int .i64 0,.int .i64 0,.int .i64 0] 67 (0,0)))∧Aside0 (wc.heap[gb118]?=some (.cells #[.int .i64 a0_0,.string (⟨#[]⟩:ByteArray),.int .i64 0,.int .i64 0,.int .i64 0] 67 (0,0)))∧Aside0 (Below w.heap.size w wc))
  case first =>
   have H:=HC16.out
   clear HC16
   by_cases c27:a0_0=3
   ·rw [if_pos c27] at H
    have c27b0:(a0_0==3)=true:=beq_iff_eq.mpr c27
    have c27b1:(a0_0 != 3)=false:=bne_eq_false_iff_eq.mpr c27
    clear c27
    (first|rw [c27b0]|(simp only [i64_w,i32_w];rw [c27b0])|skip)
    have H':=Aside0.mk H
    clear H
    go_wp2
    go_meet
    case rel => exact ⟨_,((a0_0==3)),(by first|rfl|(simp;done)|(simp [*];done)),H',⟨by first|omega|exact Nat.le_refl _⟩,⟨by (with_reducible repeat (first|refine blk_drewN ?_ _|refine blk_drew ?_|refine blk_alloc ?_ _));exact BK116.out⟩,⟨by (with_reducible repeat (first|refine blk_drewN ?_ _|refine blk_drew ?_|refine blk_alloc ?_ _));exact BK117.out⟩,⟨by (with_reducible repeat (first|refine blk_drewN ?_ _|refine blk_drew ?_|refine blk_alloc ?_ _));exact BK118.out⟩,⟨by repeat (first|(with_reducible first|exact HB.out|apply below_alloc|apply pw_below_drewN|apply below_drew1|refine below_set ?_ GE116.out|refine below_set ?_ GE117.out|refine below_set ?_ GE118.out)|exact HB.out)⟩⟩
   ·rw [if_neg c27] at H
    have c27b0:(a0_0==3)=false:=beq_eq_false_iff_ne.mpr c27
    have c27b1:(a0_0 != 3)=true:=bne_iff_ne.mpr c27
    (first|rw [c27b0]|(simp only [i64_w,i32_w];rw [c27b0])|skip)
    have H':=Aside0.mk H
    clear H
    go_wp2
    go_meet
    case rel => exact ⟨_,((a0_0==5)),(by first|rfl|(simp;done)|(simp [*];done)),H',⟨by first|omega|exact Nat.le_refl _⟩,⟨by (with_reducible repeat (first|refine blk_drewN ?_ _|refine blk_drew ?_|refine blk_alloc ?_ _));exact BK116.out⟩,⟨by (with_reducible repeat (first|refine blk_drewN ?_ _|refine blk_drew ?_|refine blk_alloc ?_ _));exact BK117.out⟩,⟨by (with_reducible repeat (first|refine blk_drewN ?_ _|refine blk_drew ?_|refine blk_alloc ?_ _));exact BK118.out⟩,⟨by repeat (first|(with_reducible first|exact HB.out|apply below_alloc|apply pw_below_drewN|apply below_drew1|refine below_set ?_ GE116.out|refine below_set ?_ GE117.out|refine below_set ?_ GE118.out)|exact HB.out)⟩⟩
  case rest =>
   clear HC16
   try clear c1;try clear c2;try clear c2b0;try clear c2b1;try clear p2;try clear c5;try clear c7;try clear c8;try clear c9;try clear c19;try clear c22;try clear c23;try clear c27;try clear c27b0;try clear c27b1;try clear hcz10_0;try clear hcz10_1;try clear hcz10_2;try clear hcz10_3;try clear hcz10_4;try clear hcz12_0;try clear hcz12_1;try clear hcz12_2;try clear hcz12_3;try clear hcz12_4;try clear hcz13_0;try clear hcz13_1;try clear hcz13_2;try clear hcz13_3;try clear hcz13_4;try clear hcz14_0;try clear hcz14_1;try clear hcz14_2;try clear hcz14_3;try clear hcz14_4;try clear hcz20_0;try clear hcz20_1;try clear hcz20_2;try clear hcz20_3;try clear hcz20_4;try clear hcz24_0;try clear hcz24_1;try clear hcz24_2;try clear hcz24_3;try clear hcz24_4;try clear hcz26_0;try clear hcz26_1;try clear hcz26_2;try clear hcz26_3;try clear hcz26_4;try clear hcz6_0;try clear hcz6_1;try clear hcz6_2;try clear hcz6_3;try clear hcz6_4;try clear hfz10_0;try clear hfz10_1;try clear hfz10_2;try clear hfz10_3;try clear hfz10_4;try clear hfz12_0;try clear hfz12_1;try clear hfz12_2;try clear hfz12_3;try clear hfz12_4;try clear hfz13_0;try clear hfz13_1;try clear hfz13_2;try clear hfz13_3;try clear hfz13_4;try clear hfz14_0;try clear hfz14_1;try clear hfz14_2;try clear hfz14_3;try clear hfz14_4;try clear hfz20_0;try clear hfz20_1;try clear hfz20_2;try clear hfz20_3;try clear hfz20_4;try clear hfz24_0;try clear hfz24_1;try clear hfz24_2;try clear hfz24_3;try clear hfz24_4;try clear hfz26_0;try clear hfz26_1;try clear hfz26_2;try clear hfz26_3;try clear hfz26_4;try clear hfz6_0;try clear hfz6_1;try clear hfz6_2;try clear hfz6_3;try clear hfz6_4
   obtain ⟨kq,x11_15,rfl,HA,HJ15,BK116,BK117,BK118,HB⟩:=hcut
   cases kq with
   | zero => exact absurd HA.out (by simp [pool_fields.j0])
   | succ kj15 =>
    have H:=HA.out
    clear HA
    simp only [pool_fields.j0] at H
    by_cases c28:x11_15=true
    ·subst c28
     have H1:(some (a0_0,(⟨#[]⟩:ByteArray),a0_2,0,0))=some (r1,r2,r3,r4,r5):=by rw [if_pos rfl] at H;exact H
     clear H
     have H:=H1
     clear H1
     simp only [Option.some.injEq,Prod.mk.injEq] at H
     obtain ⟨rfl,rfl,rfl,rfl,rfl⟩:=H
     have hnb29:=NB116_117.out
     have hnc29:=NB117_116.out
     have hnb30:=NB116_118.out
     have hnc30:=NB118_116.out
     have hcz31_0:wc.cell? ⟨gb116,0,none⟩=some (.int .i64 a0_0):=(blk_cell BK116.out 0).trans rfl
     have hcz31_1:wc.cell? ⟨gb116,1,none⟩=some (.string a0_1):=(blk_cell BK116.out 1).trans rfl
     have hcz31_2:wc.cell? ⟨gb116,2,none⟩=some (.int .i64 a0_2):=(blk_cell BK116.out 2).trans rfl
     have hcz31_3:wc.cell? ⟨gb116,3,none⟩=some (.int .i64 a0_3):=(blk_cell BK116.out 3).trans rfl
     have hcz31_4:wc.cell? ⟨gb116,4,none⟩=some (.int .i64 a0_4):=(blk_cell BK116.out 4).trans rfl
     have hfz31_0:=blk_frozen BK116.out 0
     have hfz31_1:=blk_frozen BK116.out 1
     have hfz31_2:=blk_frozen BK116.out 2
     have hfz31_3:=blk_frozen BK116.out 3
     have hfz31_4:=blk_frozen BK116.out 4
     have hnb32:=NB118_117.out
     have hnc32:=NB117_118.out
     have hcz33_0:wc.cell? ⟨gb118,0,none⟩=some (.int .i64 a0_0):=(blk_cell BK118.out 0).trans rfl
     have hcz33_1:wc.cell? ⟨gb118,1,none⟩=some (.string (⟨#[]⟩:ByteArray)):=(blk_cell BK118.out 1).trans rfl
     have hcz33_2:wc.cell? ⟨gb118,2,none⟩=some (.int .i64 0):=(blk_cell BK118.out 2).trans rfl
     have hcz33_3:wc.cell? ⟨gb118,3,none⟩=some (.int .i64 0):=(blk_cell BK118.out 3).trans rfl
     have hcz33_4:wc.cell? ⟨gb118,4,none⟩=some (.int .i64 0):=(blk_cell BK118.out 4).trans rfl
     have hfz33_0:=blk_frozen BK118.out 0
     have hfz33_1:=blk_frozen BK118.out 1
     have hfz33_2:=blk_frozen BK118.out 2
     have hfz33_3:=blk_frozen BK118.out 3
     have hfz33_4:=blk_frozen BK118.out 4
     have hcz34_0:wc.cell? ⟨gb117,0,none⟩=some (.int .i64 0):=(blk_cell BK117.out 0).trans rfl
     have hcz34_1:wc.cell? ⟨gb117,1,none⟩=some (.string (⟨#[]⟩:ByteArray)):=(blk_cell BK117.out 1).trans rfl
     have hcz34_2:wc.cell? ⟨gb117,2,none⟩=some (.int .i64 0):=(blk_cell BK117.out 2).trans rfl
     have hcz34_3:wc.cell? ⟨gb117,3,none⟩=some (.int .i64 0):=(blk_cell BK117.out 3).trans rfl
     have hcz34_4:wc.cell? ⟨gb117,4,none⟩=some (.int .i64 0):=(blk_cell BK117.out 4).trans rfl
     have hfz34_0:=blk_frozen BK117.out 0
     have hfz34_1:=blk_frozen BK117.out 1
     have hfz34_2:=blk_frozen BK117.out 2
     have hfz34_3:=blk_frozen BK117.out 3
     have hfz34_4:=blk_frozen BK117.out 4
     go_wp2_with (first|((with_reducible refine gate_store (t:=67) (p:=2) rfl ?_);refine store_event (t:=67) (p:=2) (v:=?vo_w35) (w1:=((((((wc.setCell ⟨gb118,2,none⟩ (.int .i64 a0_2)).setCell ⟨gb117,0,none⟩ (.int .i64 a0_0)).setCell ⟨gb117,1,none⟩ (.string (⟨#[]⟩:ByteArray))).setCell ⟨gb117,2,none⟩ (.int .i64 a0_2)).setCell ⟨gb117,3,none⟩ (.int .i64 0)).setCell ⟨gb117,4,none⟩ (.int .i64 0))) ?hg ?ho ?hn ?hr ?_;(case ho => rfl);(case hg => rfl);(case hn => rfl);(case hr => first|(go_simp;done)|(go_simp;rfl));intro w35 hw;have n0_:Aside0 (w35.heap[gb116]?=some (.cells #[.int .i64 a0_0,.string a0_1,.int .i64 a0_2,.int .i64 a0_3,.int .i64 a0_4] 67 (0,0))):=⟨(by rw [hw];exact (by (with_reducible repeat (first|refine blk_drewN ?_ _|refine blk_drew ?_|refine blk_alloc ?_ _));refine blk_far ?_ NB116_117.out _;(with_reducible repeat (first|refine blk_drewN ?_ _|refine blk_drew ?_|refine blk_alloc ?_ _));refine blk_far ?_ NB116_117.out _;(with_reducible repeat (first|refine blk_drewN ?_ _|refine blk_drew ?_|refine blk_alloc ?_ _));refine blk_far ?_ NB116_117.out _;(with_reducible repeat (first|refine blk_drewN ?_ _|refine blk_drew ?_|refine blk_alloc ?_ _));refine blk_far ?_ NB116_117.out _;(with_reducible repeat (first|refine blk_drewN ?_ _|refine blk_drew ?_|refine blk_alloc ?_ _));refine blk_far ?_ NB116_117.out _;(with_reducible repeat (first|refine blk_drewN ?_ _|refine blk_drew ?_|refine blk_alloc ?_ _));refine blk_far ?_ NB116_118.out _;(with_reducible repeat (first|refine blk_drewN ?_ _|refine blk_drew ?_|refine blk_alloc ?_ _));exact BK116.out))⟩;have n1_:Aside0 (w35.heap[gb117]?=some (.cells #[.int .i64 a0_0,.string (⟨#[]⟩:ByteArray),.int .i64 a0_2,.int .i64 0,.int .i64 0] 67 (0,0))):=⟨(by rw [hw];exact (by (with_reducible repeat (first|refine blk_drewN ?_ _|refine blk_drew ?_|refine blk_alloc ?_ _));refine blk_put (cs:=#[.int .i64 a0_0,.string (⟨#[]⟩:ByteArray),.int .i64 a0_2,.int .i64 0,.int .i64 0]) ?_ 4 _ rfl;(with_reducible repeat (first|refine blk_drewN ?_ _|refine blk_drew ?_|refine blk_alloc ?_ _));refine blk_put (cs:=#[.int .i64 a0_0,.string (⟨#[]⟩:ByteArray),.int .i64 a0_2,.int .i64 0,.int .i64 0]) ?_ 3 _ rfl;(with_reducible repeat (first|refine blk_drewN ?_ _|refine blk_drew ?_|refine blk_alloc ?_ _));refine blk_put (cs:=#[.int .i64 a0_0,.string (⟨#[]⟩:ByteArray),.int .i64 0,.int .i64 0,.int .i64 0]) ?_ 2 _ rfl;(with_reducible repeat (first|refine blk_drewN ?_ _|refine blk_drew ?_|refine blk_alloc ?_ _));refine blk_put (cs:=#[.int .i64 a0_0,.string (⟨#[]⟩:ByteArray),.int .i64 0,.int .i64 0,.int .i64 0]) ?_ 1 _ rfl;(with_reducible repeat (first|refine blk_drewN ?_ _|refine blk_drew ?_|refine blk_alloc ?_ _));refine blk_put (cs:=#[.int .i64 0,.string (⟨#[]⟩:ByteArray),.int .i64 0,.int .i64 0,.int .i64 0]) ?_ 0 _ rfl;(with_reducible repeat (first|refine blk_drewN ?_ _|refine blk_drew ?_|refine blk_alloc ?_ _));refine blk_far ?_ NB117_118.out _;(with_reducible repeat (first|refine blk_drewN ?_ _|refine blk_drew ?_|refine blk_alloc ?_ _));exact BK117.out))⟩;have n2_:Aside0 (w35.heap[gb118]?=some (.cells #[.int .i64 a0_0,.string (⟨#[]⟩:ByteArray),.int .i64 a0_2,.int .i64 0,.int .i64 0] 67 (0,0))):=⟨(by rw [hw];exact (by (with_reducible repeat (first|refine blk_drewN ?_ _|refine blk_drew ?_|refine blk_alloc ?_ _));refine blk_far ?_ NB118_117.out _;(with_reducible repeat (first|refine blk_drewN ?_ _|refine blk_drew ?_|refine blk_alloc ?_ _));refine blk_far ?_ NB118_117.out _;(with_reducible repeat (first|refine blk_drewN ?_ _|refine blk_drew ?_|refine blk_alloc ?_ _));refine blk_far ?_ NB118_117.out _;(with_reducible repeat (first|refine blk_drewN ?_ _|refine blk_drew ?_|refine blk_alloc ?_ _));refine blk_far ?_ NB118_117.out _;(with_reducible repeat (first|refine blk_drewN ?_ _|refine blk_drew ?_|refine blk_alloc ?_ _));refine blk_far ?_ NB118_117.out _;(with_reducible repeat (first|refine blk_drewN ?_ _|refine blk_drew ?_|refine blk_alloc ?_ _));refine blk_put (cs:=#[.int .i64 a0_0,.string (⟨#[]⟩:ByteArray),.int .i64 0,.int .i64 0,.int .i64 0]) ?_ 2 _ rfl;(with_reducible repeat (first|refine blk_drewN ?_ _|refine blk_drew ?_|refine blk_alloc ?_ _));exact BK118.out))⟩;have n3_:Aside0 (Below w.heap.size w w35):=⟨(by rw [hw];exact (by repeat (first|(with_reducible first|exact HB.out|apply below_alloc|apply pw_below_drewN|apply below_drew1|refine below_set ?_ GE116.out|refine below_set ?_ GE117.out|refine below_set ?_ GE118.out)|exact HB.out)))⟩;clear hw;clear BK116;clear BK117;clear BK118;clear HB;have BK116:=n0_;have BK117:=n1_;have BK118:=n2_;have HB:=n3_;clear n0_ n1_ n2_ n3_))
     refine bodyPost_ret (results_cell_row rfl _ _ gb117 67 #[.int .i64 a0_0,.string (⟨#[]⟩:ByteArray),.int .i64 a0_2,.int .i64 0,.int .i64 0] (0,0) _ rfl (by (with_reducible repeat (first|refine blk_drewN ?_ _|refine blk_drew ?_|refine blk_alloc ?_ _));exact BK117.out) Tryd.underlying67 rfl (by kernel_rfl)) rfl ?_
     exact ⟨by first|rfl|(simp [errW_none,errW_some] <;> rfl)|(simp [*,errW_none,errW_some] <;> rfl),by repeat (first|(with_reducible first|exact HB.out|apply below_alloc|apply pw_below_drewN|apply below_drew1|refine below_set ?_ GE116.out|refine below_set ?_ GE117.out|refine below_set ?_ GE118.out)|exact HB.out)⟩
    ·replace c28:=Bool.eq_false_iff.mpr c28
     subst c28
     have H1:(if a0_0=9 then (pool_fields.j1 kj15 a0_0 (a0_0==9) a0_0 a0_1 a0_2 a0_3 a0_4 a0_0 (⟨#[]⟩:ByteArray) 0 0 0) else (if a0_0=10 then (pool_fields.j1 kj15 a0_0 (a0_0==10) a0_0 a0_1 a0_2 a0_3 a0_4 a0_0 (⟨#[]⟩:ByteArray) 0 0 0) else (pool_fields.j1 kj15 a0_0 (a0_0==12) a0_0 a0_1 a0_2 a0_3 a0_4 a0_0 (⟨#[]⟩:ByteArray) 0 0 0)))=some (r1,r2,r3,r4,r5):=by rw [if_neg (show ¬ (false=true) by decide)] at H;exact H
     clear H
     have H:=H1
     clear H1
     have HC36:=Aside0.mk H
     clear H
     go_upto_if 14 with (fail)
     go_cut [14] (fun v14 wc => ∃ (kq:Nat) (x14_35:Bool),v14=.bool x14_35∧Aside0 (pool_fields.j1 kq a0_0 x14_35 a0_0 a0_1 a0_2 a0_3 a0_4 a0_0 (⟨#[]⟩:ByteArray) 0 0 0=some (r1,r2,r3,r4,r5))∧Aside0 (kq≤kj15)∧Aside0 (wc.heap[gb116]?=some (.cells #[.int .i64 a0_0,.string a0_1,.int .i64 a0_2,.int .i64 a0_3,.int .i64 a0_4] 67 (0,0)))∧Aside0 (wc.heap[gb117]?=some (.cells #[.int .i64 0,.string (⟨#[]⟩:ByteArray),.int .i64 0,.int .i64 0,.int .i64 0] 67 (0,0)))∧Aside0 (wc.heap[gb118]?=some (.cells #[.int .i64 a0_0,.string (⟨#[]⟩:ByteArray),.int .i64 0,.int .i64 0,.int .i64 0] 67 (0,0)))∧Aside0 (Below w.heap.size w wc))
     case first =>
      have H:=HC36.out
      clear HC36
      by_cases c37:a0_0=9
      ·rw [if_pos c37] at H
       have c37b0:(a0_0==9)=true:=beq_iff_eq.mpr c37
       have c37b1:(a0_0 != 9)=false:=bne_eq_false_iff_eq.mpr c37
       clear c37
       (first|rw [c37b0]|(simp only [i64_w,i32_w];rw [c37b0])|skip)
       have H':=Aside0.mk H
       clear H
       go_wp2
       go_meet
       case rel => exact ⟨_,((a0_0==9)),(by first|rfl|(simp;done)|(simp [*];done)),H',⟨by have:=HJ15.out;first|omega|exact Nat.le_refl _⟩,⟨by (with_reducible repeat (first|refine blk_drewN ?_ _|refine blk_drew ?_|refine blk_alloc ?_ _));exact BK116.out⟩,⟨by (with_reducible repeat (first|refine blk_drewN ?_ _|refine blk_drew ?_|refine blk_alloc ?_ _));exact BK117.out⟩,⟨by (with_reducible repeat (first|refine blk_drewN ?_ _|refine blk_drew ?_|refine blk_alloc ?_ _));exact BK118.out⟩,⟨by repeat (first|(with_reducible first|exact HB.out|apply below_alloc|apply pw_below_drewN|apply below_drew1|refine below_set ?_ GE116.out|refine below_set ?_ GE117.out|refine below_set ?_ GE118.out)|exact HB.out)⟩⟩
      ·rw [if_neg c37] at H
       have c37b0:(a0_0==9)=false:=beq_eq_false_iff_ne.mpr c37
       have c37b1:(a0_0 != 9)=true:=bne_iff_ne.mpr c37
       (first|rw [c37b0]|(simp only [i64_w,i32_w];rw [c37b0])|skip)
       by_cases c38:a0_0=10
       ·rw [if_pos c38] at H
        have c38b0:(a0_0==10)=true:=beq_iff_eq.mpr c38
        have c38b1:(a0_0 != 10)=false:=bne_eq_false_iff_eq.mpr c38
        clear c38
        have H':=Aside0.mk H
        clear H
        go_wp2
        go_meet
        case rel => exact ⟨_,((a0_0==10)),(by first|rfl|(simp;done)|(simp [*];done)),H',⟨by have:=HJ15.out;first|omega|exact Nat.le_refl _⟩,⟨by (with_reducible repeat (first|refine blk_drewN ?_ _|refine blk_drew ?_|refine blk_alloc ?_ _));exact BK116.out⟩,⟨by (with_reducible repeat (first|refine blk_drewN ?_ _|refine blk_drew ?_|refine blk_alloc ?_ _));exact BK117.out⟩,⟨by (with_reducible repeat (first|refine blk_drewN ?_ _|refine blk_drew ?_|refine blk_alloc ?_ _));exact BK118.out⟩,⟨by repeat (first|(with_reducible first|exact HB.out|apply below_alloc|apply pw_below_drewN|apply below_drew1|refine below_set ?_ GE116.out|refine below_set ?_ GE117.out|refine below_set ?_ GE118.out)|exact HB.out)⟩⟩
       ·rw [if_neg c38] at H
        have c38b0:(a0_0==10)=false:=beq_eq_false_iff_ne.mpr c38
        have c38b1:(a0_0 != 10)=true:=bne_iff_ne.mpr c38
        have H':=Aside0.mk H
        clear H
        go_wp2
        go_meet
        case rel => exact ⟨_,((a0_0==12)),(by first|rfl|(simp;done)|(simp [*];done)),H',⟨by have:=HJ15.out;first|omega|exact Nat.le_refl _⟩,⟨by (with_reducible repeat (first|refine blk_drewN ?_ _|refine blk_drew ?_|refine blk_alloc ?_ _));exact BK116.out⟩,⟨by (with_reducible repeat (first|refine blk_drewN ?_ _|refine blk_drew ?_|refine blk_alloc ?_ _));exact BK117.out⟩,⟨by (with_reducible repeat (first|refine blk_drewN ?_ _|refine blk_drew ?_|refine blk_alloc ?_ _));exact BK118.out⟩,⟨by repeat (first|(with_reducible first|exact HB.out|apply below_alloc|apply pw_below_drewN|apply below_drew1|refine below_set ?_ GE116.out|refine below_set ?_ GE117.out|refine below_set ?_ GE118.out)|exact HB.out)⟩⟩
     case rest =>
      clear HC36
      try clear c1;try clear c2;try clear c2b0;try clear c2b1;try clear p2;try clear c3;try clear c5;try clear c7;try clear c8;try clear c9;try clear c19;try clear c22;try clear c23;try clear c27;try clear c27b0;try clear c27b1;try clear c28;try clear c29;try clear c30;try clear c32;try clear c37;try clear c37b0;try clear c37b1;try clear c38;try clear c38b0;try clear c38b1;try clear hcz10_0;try clear hcz10_1;try clear hcz10_2;try clear hcz10_3;try clear hcz10_4;try clear hcz12_0;try clear hcz12_1;try clear hcz12_2;try clear hcz12_3;try clear hcz12_4;try clear hcz13_0;try clear hcz13_1;try clear hcz13_2;try clear hcz13_3;try clear hcz13_4;try clear hcz14_0;try clear hcz14_1;try clear hcz14_2;try clear hcz14_3;try clear hcz14_4;try clear hcz20_0;try clear hcz20_1;try clear hcz20_2;try clear hcz20_3;try clear hcz20_4;try clear hcz24_0;try clear hcz24_1;try clear hcz24_2;try clear hcz24_3;try clear hcz24_4;try clear hcz26_0;try clear hcz26_1;try clear hcz26_2;try clear hcz26_3;try clear hcz26_4;try clear hcz31_0;try clear hcz31_1;try clear hcz31_2;try clear hcz31_3;try clear hcz31_4;try clear hcz33_0;try clear hcz33_1;try clear hcz33_2;try clear hcz33_3;try clear hcz33_4;try clear hcz34_0;try clear hcz34_1;try clear hcz34_2;try clear hcz34_3;try clear hcz34_4;try clear hcz6_0;try clear hcz6_1;try clear hcz6_2;try clear hcz6_3;try clear hcz6_4;try clear hfz10_0;try clear hfz10_1;try clear hfz10_2;try clear hfz10_3;try clear hfz10_4;try clear hfz12_0;try clear hfz12_1;try clear hfz12_2;try clear hfz12_3;try clear hfz12_4;try clear hfz13_0;try clear hfz13_1;try clear hfz13_2;try clear hfz13_3;try clear hfz13_4;try clear hfz14_0;try clear hfz14_1;try clear hfz14_2;try clear hfz14_3;try clear hfz14_4;try clear hfz20_0;try clear hfz20_1;try clear hfz20_2;try clear hfz20_3;try clear hfz20_4;try clear hfz24_0;try clear hfz24_1;try clear hfz24_2;try clear hfz24_3;try clear hfz24_4;try clear hfz26_0;try clear hfz26_1;try clear hfz26_2;try clear hfz26_3;try clear hfz26_4;try clear hfz31_0;try clear hfz31_1;try clear hfz31_2;try clear hfz31_3;try clear hfz31_4;try clear hfz33_0;try clear hfz33_1;try clear hfz33_2;try clear hfz33_3;try clear hfz33_4;try clear hfz34_0;try clear hfz34_1;try clear hfz34_2;try clear hfz34_3;try clear hfz34_4;try clear hfz6_0;try clear hfz6_1;try clear hfz6_2;try clear hfz6_3;try clear hfz6_4;try clear p2
      obtain ⟨kq,x14_35,rfl,HA,HJ35,BK116,BK117,BK118,HB⟩:=hcut
      cases kq with
      | zero => exact absurd HA.out (by simp [pool_fields.j1])
      | succ kj35 =>
       have H:=HA.out
       clear HA
       simp only [pool_fields.j1] at H
       by_cases c39:x14_35=true
       ·subst c39
        have H1:(some (a0_0,(⟨#[]⟩:ByteArray),0,a0_3,a0_4))=some (r1,r2,r3,r4,r5):=by rw [if_pos rfl] at H;exact H
        clear H
        have H:=H1
        clear H1
        simp only [Option.some.injEq,Prod.mk.injEq] at H
        obtain ⟨rfl,rfl,rfl,rfl,rfl⟩:=H
        have hnb40:=NB116_117.out
        have hnc40:=NB117_116.out
        have hnb41:=NB116_118.out
        have hnc41:=NB118_116.out
        have hcz42_0:wc.cell? ⟨gb116,0,none⟩=some (.int .i64 a0_0):=(blk_cell BK116.out 0).trans rfl
        have hcz42_1:wc.cell? ⟨gb116,1,none⟩=some (.string a0_1):=(blk_cell BK116.out 1).trans rfl
        have hcz42_2:wc.cell? ⟨gb116,2,none⟩=some (.int .i64 a0_2):=(blk_cell BK116.out 2).trans rfl
        have hcz42_3:wc.cell? ⟨gb116,3,none⟩=some (.int .i64 a0_3):=(blk_cell BK116.out 3).trans rfl
        have hcz42_4:wc.cell? ⟨gb116,4,none⟩=some (.int .i64 a0_4):=(blk_cell BK116.out 4).trans rfl
        have hfz42_0:=blk_frozen BK116.out 0
        have hfz42_1:=blk_frozen BK116.out 1
        have hfz42_2:=blk_frozen BK116.out 2
        have hfz42_3:=blk_frozen BK116.out 3
        have hfz42_4:=blk_frozen BK116.out 4
        have hnb43:=NB118_117.out
        have hnc43:=NB117_118.out
        have hcz44_0:wc.cell? ⟨gb118,0,none⟩=some (.int .i64 a0_0):=(blk_cell BK118.out 0).trans rfl
        have hcz44_1:wc.cell? ⟨gb118,1,none⟩=some (.string (⟨#[]⟩:ByteArray)):=(blk_cell BK118.out 1).trans rfl
        have hcz44_2:wc.cell? ⟨gb118,2,none⟩=some (.int .i64 0):=(blk_cell BK118.out 2).trans rfl
        have hcz44_3:wc.cell? ⟨gb118,3,none⟩=some (.int .i64 0):=(blk_cell BK118.out 3).trans rfl
        have hcz44_4:wc.cell? ⟨gb118,4,none⟩=some (.int .i64 0):=(blk_cell BK118.out 4).trans rfl
        have hfz44_0:=blk_frozen BK118.out 0
        have hfz44_1:=blk_frozen BK118.out 1
        have hfz44_2:=blk_frozen BK118.out 2
        have hfz44_3:=blk_frozen BK118.out 3
        have hfz44_4:=blk_frozen BK118.out 4
        have hcz45_0:wc.cell? ⟨gb117,0,none⟩=some (.int .i64 0):=(blk_cell BK117.out 0).trans rfl
        have hcz45_1:wc.cell? ⟨gb117,1,none⟩=some (.string (⟨#[]⟩:ByteArray)):=(blk_cell BK117.out 1).trans rfl
        have hcz45_2:wc.cell? ⟨gb117,2,none⟩=some (.int .i64 0):=(blk_cell BK117.out 2).trans rfl
        have hcz45_3:wc.cell? ⟨gb117,3,none⟩=some (.int .i64 0):=(blk_cell BK117.out 3).trans rfl
        have hcz45_4:wc.cell? ⟨gb117,4,none⟩=some (.int .i64 0):=(blk_cell BK117.out 4).trans rfl
        have hfz45_0:=blk_frozen BK117.out 0
        have hfz45_1:=blk_frozen BK117.out 1
        have hfz45_2:=blk_frozen BK117.out 2
        have hfz45_3:=blk_frozen BK117.out 3
        have hfz45_4:=blk_frozen BK117.out 4
        go_wp2_with (first|((with_reducible refine gate_store (t:=67) (p:=2) rfl ?_);refine store_event (t:=67) (p:=2) (v:=?vo_w46) (w1:=(((((((wc.setCell ⟨gb118,4,none⟩ (.int .i64 a0_4)).setCell ⟨gb118,3,none⟩ (.int .i64 a0_3)).setCell ⟨gb117,0,none⟩ (.int .i64 a0_0)).setCell ⟨gb117,1,none⟩ (.string (⟨#[]⟩:ByteArray))).setCell ⟨gb117,2,none⟩ (.int .i64 0)).setCell ⟨gb117,3,none⟩ (.int .i64 a0_3)).setCell ⟨gb117,4,none⟩ (.int .i64 a0_4))) ?hg ?ho ?hn ?hr ?_;(case ho => rfl);(case hg => rfl);(case hn => rfl);(case hr => first|(go_simp;done)|(go_simp;rfl));intro w46 hw;have n0_:Aside0 (w46.heap[gb116]?=some (.cells #[.int .i64 a0_0,.string a0_1,.int .i64 a0_2,.int .i64 a0_3,.int .i64 a0_4] 67 (0,0))):=⟨(by rw [hw];exact (by (with_reducible repeat (first|refine blk_drewN ?_ _|refine blk_drew ?_|refine blk_alloc ?_ _));refine blk_far ?_ NB116_117.out _;(with_reducible repeat (first|refine blk_drewN ?_ _|refine blk_drew ?_|refine blk_alloc ?_ _));refine blk_far ?_ NB116_117.out _;(with_reducible repeat (first|refine blk_drewN ?_ _|refine blk_drew ?_|refine blk_alloc ?_ _));refine blk_far ?_ NB116_117.out _;(with_reducible repeat (first|refine blk_drewN ?_ _|refine blk_drew ?_|refine blk_alloc ?_ _));refine blk_far ?_ NB116_117.out _;(with_reducible repeat (first|refine blk_drewN ?_ _|refine blk_drew ?_|refine blk_alloc ?_ _));refine blk_far ?_ NB116_117.out _;(with_reducible repeat (first|refine blk_drewN ?_ _|refine blk_drew ?_|refine blk_alloc ?_ _));refine blk_far ?_ NB116_118.out _;(with_reducible repeat (first|refine blk_drewN ?_ _|refine blk_drew ?_|refine blk_alloc ?_ _));refine blk_far ?_ NB116_118.out _;(with_reducible repeat (first|refine blk_drewN ?_ _|refine blk_drew ?_|refine blk_alloc ?_ _));exact BK116.out))⟩;have n1_:Aside0 (w46.heap[gb117]?=some (.cells #[.int .i64 a0_0,.string (⟨#[]⟩:ByteArray),.int .i64 0,.int .i64 a0_3,.int .i64 a0_4] 67 (0,0))):=⟨(by rw [hw];exact (by (with_reducible repeat (first|refine blk_drewN ?_ _|refine blk_drew ?_|refine blk_alloc ?_ _));refine blk_put (cs:=#[.int .i64 a0_0,.string (⟨#[]⟩:ByteArray),.int .i64 0,.int .i64 a0_3,.int .i64 0]) ?_ 4 _ rfl;(with_reducible repeat (first|refine blk_drewN ?_ _|refine blk_drew ?_|refine blk_alloc ?_ _));refine blk_put (cs:=#[.int .i64 a0_0,.string (⟨#[]⟩:ByteArray),.int .i64 0,.int .i64 0,.int .i64 0]) ?_ 3 _ rfl;(with_reducible repeat (first|refine blk_drewN ?_ _|refine blk_drew ?_|refine blk_alloc ?_ _));refine blk_put (cs:=#[.int .i64 a0_0,.string (⟨#[]⟩:ByteArray),.int .i64 0,.int .i64 0,.int .i64 0]) ?_ 2 _ rfl;(with_reducible repeat (first|refine blk_drewN ?_ _|refine blk_drew ?_|refine blk_alloc ?_ _));refine blk_put (cs:=#[.int .i64 a0_0,.string (⟨#[]⟩:ByteArray),.int .i64 0,.int .i64 0,.int .i64 0]) ?_ 1 _ rfl;(with_reducible repeat (first|refine blk_drewN ?_ _|refine blk_drew ?_|refine blk_alloc ?_ _));refine blk_put (cs:=#[.int .i64 0,.string (⟨#[]⟩:ByteArray),.int .i64 0,.int .i64 0,.int .i64 0]) ?_ 0 _ rfl;(with_reducible repeat (first|refine blk_drewN ?_ _|refine blk_drew ?_|refine blk_alloc ?_ _));refine blk_far ?_ NB117_118.out _;(with_reducible repeat (first|refine blk_drewN ?_ _|refine blk_drew ?_|refine blk_alloc ?_ _));refine blk_far ?_ NB117_118.out _;(with_reducible repeat (first|refine blk_drewN ?_ _|refine blk_drew ?_|refine blk_alloc ?_ _));exact BK117.out))⟩;have n2_:Aside0 (w46.heap[gb118]?=some (.cells #[.int .i64 a0_0,.string (⟨#[]⟩:ByteArray),.int .i64 0,.int .i64 a0_3,.int .i64 a0_4] 67 (0,0))):=⟨(by rw [hw];exact (by (with_reducible repeat (first|refine blk_drewN ?_ _|refine blk_drew ?_|refine blk_alloc ?_ _));refine blk_far ?_ NB118_117.out _;(with_reducible repeat (first|refine blk_drewN ?_ _|refine blk_drew ?_|refine blk_alloc ?_ _));refine blk_far ?_ NB118_117.out _;(with_reducible repeat (first|refine blk_drewN ?_ _|refine blk_drew ?_|refine blk_alloc ?_ _));refine blk_far ?_ NB118_117.out _;(with_reducible repeat (first|refine blk_drewN ?_ _|refine blk_drew ?_|refine blk_alloc ?_ _));refine blk_far ?_ NB118_117.out _;(with_reducible repeat (first|refine blk_drewN ?_ _|refine blk_drew ?_|refine blk_alloc ?_ _));refine blk_far ?_ NB118_117.out _;(with_reducible repeat (first|refine blk_drewN ?_ _|refine blk_drew ?_|refine blk_alloc ?_ _));refine blk_put (cs:=#[.int .i64 a0_0,.string (⟨#[]⟩:ByteArray),.int .i64 0,.int .i64 0,.int .i64 a0_4]) ?_ 3 _ rfl;(with_reducible repeat (first|refine blk_drewN ?_ _|refine blk_drew ?_|refine blk_alloc ?_ _));refine blk_put (cs:=#[.int .i64 a0_0,.string (⟨#[]⟩:ByteArray),.int .i64 0,.int .i64 0,.int .i64 0]) ?_ 4 _ rfl;(with_reducible repeat (first|refine blk_drewN ?_ _|refine blk_drew ?_|refine blk_alloc ?_ _));exact BK118.out))⟩;have n3_:Aside0 (Below w.heap.size w w46):=⟨(by rw [hw];exact (by repeat (first|(with_reducible first|exact HB.out|apply below_alloc|apply pw_below_drewN|apply below_drew1|refine below_set ?_ GE116.out|refine below_set ?_ GE117.out|refine below_set ?_ GE118.out)|exact HB.out)))⟩;clear hw;clear BK116;clear BK117;clear BK118;clear HB;have BK116:=n0_;have BK117:=n1_;have BK118:=n2_;have HB:=n3_;clear n0_ n1_ n2_ n3_))
        refine bodyPost_ret (results_cell_row rfl _ _ gb117 67 #[.int .i64 a0_0,.string (⟨#[]⟩:ByteArray),.int .i64 0,.int .i64 a0_3,.int .i64 a0_4] (0,0) _ rfl (by (with_reducible repeat (first|refine blk_drewN ?_ _|refine blk_drew ?_|refine blk_alloc ?_ _));exact BK117.out) Tryd.underlying67 rfl (by kernel_rfl)) rfl ?_
        exact ⟨by first|rfl|(simp [errW_none,errW_some] <;> rfl)|(simp [*,errW_none,errW_some] <;> rfl),by repeat (first|(with_reducible first|exact HB.out|apply below_alloc|apply pw_below_drewN|apply below_drew1|refine below_set ?_ GE116.out|refine below_set ?_ GE117.out|refine below_set ?_ GE118.out)|exact HB.out)⟩
       ·replace c39:=Bool.eq_false_iff.mpr c39
        subst c39
        have H1:(if a0_0=7 then (some (a0_0,(⟨#[]⟩:ByteArray),0,a0_3,0)) else (some (a0_0,(⟨#[]⟩:ByteArray),0,0,0)))=some (r1,r2,r3,r4,r5):=by rw [if_neg (show ¬ (false=true) by decide)] at H;exact H
        clear H
        have H:=H1
        clear H1
        by_cases c47:a0_0=7
        ·rw [if_pos c47] at H
         have c47b0:(a0_0==7)=true:=beq_iff_eq.mpr c47
         have c47b1:(a0_0 != 7)=false:=bne_eq_false_iff_eq.mpr c47
         clear c47
         simp only [Option.some.injEq,Prod.mk.injEq] at H
         obtain ⟨rfl,rfl,rfl,rfl,rfl⟩:=H
         have hnb48:=NB116_117.out
         have hnc48:=NB117_116.out
         have hnb49:=NB116_118.out
         have hnc49:=NB118_116.out
         have hcz50_0:wc.cell? ⟨gb116,0,none⟩=some (.int .i64 a0_0):=(blk_cell BK116.out 0).trans rfl
         have hcz50_1:wc.cell? ⟨gb116,1,none⟩=some (.string a0_1):=(blk_cell BK116.out 1).trans rfl
         have hcz50_2:wc.cell? ⟨gb116,2,none⟩=some (.int .i64 a0_2):=(blk_cell BK116.out 2).trans rfl
         have hcz50_3:wc.cell? ⟨gb116,3,none⟩=some (.int .i64 a0_3):=(blk_cell BK116.out 3).trans rfl
         have hcz50_4:wc.cell? ⟨gb116,4,none⟩=some (.int .i64 a0_4):=(blk_cell BK116.out 4).trans rfl
         have hfz50_0:=blk_frozen BK116.out 0
         have hfz50_1:=blk_frozen BK116.out 1
         have hfz50_2:=blk_frozen BK116.out 2
         have hfz50_3:=blk_frozen BK116.out 3
         have hfz50_4:=blk_frozen BK116.out 4
         have hnb51:=NB118_117.out
         have hnc51:=NB117_118.out
         have hcz52_0:wc.cell? ⟨gb118,0,none⟩=some (.int .i64 a0_0):=(blk_cell BK118.out 0).trans rfl
         have hcz52_1:wc.cell? ⟨gb118,1,none⟩=some (.string (⟨#[]⟩:ByteArray)):=(blk_cell BK118.out 1).trans rfl
         have hcz52_2:wc.cell? ⟨gb118,2,none⟩=some (.int .i64 0):=(blk_cell BK118.out 2).trans rfl
         have hcz52_3:wc.cell? ⟨gb118,3,none⟩=some (.int .i64 0):=(blk_cell BK118.out 3).trans rfl
         have hcz52_4:wc.cell? ⟨gb118,4,none⟩=some (.int .i64 0):=(blk_cell BK118.out 4).trans rfl
         have hfz52_0:=blk_frozen BK118.out 0
         have hfz52_1:=blk_frozen BK118.out 1
         have hfz52_2:=blk_frozen BK118.out 2
         have hfz52_3:=blk_frozen BK118.out 3
         have hfz52_4:=blk_frozen BK118.out 4
         have hcz53_0:wc.cell? ⟨gb117,0,none⟩=some (.int .i64 0):=(blk_cell BK117.out 0).trans rfl
         have hcz53_1:wc.cell? ⟨gb117,1,none⟩=some (.string (⟨#[]⟩:ByteArray)):=(blk_cell BK117.out 1).trans rfl
         have hcz53_2:wc.cell? ⟨gb117,2,none⟩=some (.int .i64 0):=(blk_cell BK117.out 2).trans rfl
         have hcz53_3:wc.cell? ⟨gb117,3,none⟩=some (.int .i64 0):=(blk_cell BK117.out 3).trans rfl
         have hcz53_4:wc.cell? ⟨gb117,4,none⟩=some (.int .i64 0):=(blk_cell BK117.out 4).trans rfl
         have hfz53_0:=blk_frozen BK117.out 0
         have hfz53_1:=blk_frozen BK117.out 1
         have hfz53_2:=blk_frozen BK117.out 2
         have hfz53_3:=blk_frozen BK117.out 3
         have hfz53_4:=blk_frozen BK117.out 4
         go_wp2_with (first|((with_reducible refine gate_store (t:=67) (p:=2) rfl ?_);refine store_event (t:=67) (p:=2) (v:=?vo_w54) (w1:=((((((wc.setCell ⟨gb118,3,none⟩ (.int .i64 a0_3)).setCell ⟨gb117,0,none⟩ (.int .i64 a0_0)).setCell ⟨gb117,1,none⟩ (.string (⟨#[]⟩:ByteArray))).setCell ⟨gb117,2,none⟩ (.int .i64 0)).setCell ⟨gb117,3,none⟩ (.int .i64 a0_3)).setCell ⟨gb117,4,none⟩ (.int .i64 0))) ?hg ?ho ?hn ?hr ?_;(case ho => rfl);(case hg => rfl);(case hn => rfl);(case hr => first|(go_simp;done)|(go_simp;rfl));intro w54 hw;have n0_:Aside0 (w54.heap[gb116]?=some (.cells #[.int .i64 a0_0,.string a0_1,.int .i64 a0_2,.int .i64 a0_3,.int .i64 a0_4] 67 (0,0))):=⟨(by rw [hw];exact (by (with_reducible repeat (first|refine blk_drewN ?_ _|refine blk_drew ?_|refine blk_alloc ?_ _));refine blk_far ?_ NB116_117.out _;(with_reducible repeat (first|refine blk_drewN ?_ _|refine blk_drew ?_|refine blk_alloc ?_ _));refine blk_far ?_ NB116_117.out _;(with_reducible repeat (first|refine blk_drewN ?_ _|refine blk_drew ?_|refine blk_alloc ?_ _));refine blk_far ?_ NB116_117.out _;(with_reducible repeat (first|refine blk_drewN ?_ _|refine blk_drew ?_|refine blk_alloc ?_ _));refine blk_far ?_ NB116_117.out _;(with_reducible repeat (first|refine blk_drewN ?_ _|refine blk_drew ?_|refine blk_alloc ?_ _));refine blk_far ?_ NB116_117.out _;(with_reducible repeat (first|refine blk_drewN ?_ _|refine blk_drew ?_|refine blk_alloc ?_ _));refine blk_far ?_ NB116_118.out _;(with_reducible repeat (first|refine blk_drewN ?_ _|refine blk_drew ?_|refine blk_alloc ?_ _));exact BK116.out))⟩;have n1_:Aside0 (w54.heap[gb117]?=some (.cells #[.int .i64 a0_0,.string (⟨#[]⟩:ByteArray),.int .i64 0,.int .i64 a0_3,.int .i64 0] 67 (0,0))):=⟨(by rw [hw];exact (by (with_reducible repeat (first|refine blk_drewN ?_ _|refine blk_drew ?_|refine blk_alloc ?_ _));refine blk_put (cs:=#[.int .i64 a0_0,.string (⟨#[]⟩:ByteArray),.int .i64 0,.int .i64 a0_3,.int .i64 0]) ?_ 4 _ rfl;(with_reducible repeat (first|refine blk_drewN ?_ _|refine blk_drew ?_|refine blk_alloc ?_ _));refine blk_put (cs:=#[.int .i64 a0_0,.string (⟨#[]⟩:ByteArray),.int .i64 0,.int .i64 0,.int .i64 0]) ?_ 3 _ rfl;(with_reducible repeat (first|refine blk_drewN ?_ _|refine blk_drew ?_|refine blk_alloc ?_ _));refine blk_put (cs:=#[.int .i64 a0_0,.string (⟨#[]⟩:ByteArray),.int .i64 0,.int .i64 0,.int .i64 0]) ?_ 2 _ rfl;(with_reducible repeat (first|refine blk_drewN ?_ _|refine blk_drew ?_|refine blk_alloc ?_ _));refine blk_put (cs:=#[.int .i64 a0_0,.string (⟨#[]⟩:ByteArray),.int .i64 0,.int .i64 0,.int .i64 0]) ?_ 1 _ rfl;(with_reducible repeat (first|refine blk_drewN ?_ _|refine blk_drew ?_|refine blk_alloc ?_ _));refine blk_put (cs:=#[.int .i64 0,.string (⟨#[]⟩:ByteArray),.int .i64 0,.int .i64 0,.int .i64 0]) ?_ 0 _ rfl;(with_reducible repeat (first|refine blk_drewN ?_ _|refine blk_drew ?_|refine blk_alloc ?_ _));refine blk_far ?_ NB117_118.out _;(with_reducible repeat (first|refine blk_drewN ?_ _|refine blk_drew ?_|refine blk_alloc ?_ _));exact BK117.out))⟩;have n2_:Aside0 (w54.heap[gb118]?=some (.cells #[.int .i64 a0_0,.string (⟨#[]⟩:ByteArray),.int .i64 0,.int .i64 a0_3,.int .i64 0] 67 (0,0))):=⟨(by rw [hw];exact (by (with_reducible repeat (first|refine blk_drewN ?_ _|refine blk_drew ?_|refine blk_alloc ?_ _));refine blk_far ?_ NB118_117.out _;(with_reducible repeat (first|refine blk_drewN ?_ _|refine blk_drew ?_|refine blk_alloc ?_ _));refine blk_far ?_ NB118_117.out _;(with_reducible repeat (first|refine blk_drewN ?_ _|refine blk_drew ?_|refine blk_alloc ?_ _));refine blk_far ?_ NB118_117.out _;(with_reducible repeat (first|refine blk_drewN ?_ _|refine blk_drew ?_|refine blk_alloc ?_ _));refine blk_far ?_ NB118_117.out _;(with_reducible repeat (first|refine blk_drewN ?_ _|refine blk_drew ?_|refine blk_alloc ?_ _));refine blk_far ?_ NB118_117.out _;(with_reducible repeat (first|refine blk_drewN ?_ _|refine blk_drew ?_|refine blk_alloc ?_ _));refine blk_put (cs:=#[.int .i64 a0_0,.string (⟨#[]⟩:ByteArray),.int .i64 0,.int .i64 0,.int .i64 0]) ?_ 3 _ rfl;(with_reducible repeat (first|refine blk_drewN ?_ _|refine blk_drew ?_|refine blk_alloc ?_ _));exact BK118.out))⟩;have n3_:Aside0 (Below w.heap.size w w54):=⟨(by rw [hw];exact (by repeat (first|(with_reducible first|exact HB.out|apply below_alloc|apply pw_below_drewN|apply below_drew1|refine below_set ?_ GE116.out|refine below_set ?_ GE117.out|refine below_set ?_ GE118.out)|exact HB.out)))⟩;clear hw;clear BK116;clear BK117;clear BK118;clear HB;have BK116:=n0_;have BK117:=n1_;have BK118:=n2_;have HB:=n3_;clear n0_ n1_ n2_ n3_))
         refine bodyPost_ret (results_cell_row rfl _ _ gb117 67 #[.int .i64 a0_0,.string (⟨#[]⟩:ByteArray),.int .i64 0,.int .i64 a0_3,.int .i64 0] (0,0) _ rfl (by (with_reducible repeat (first|refine blk_drewN ?_ _|refine blk_drew ?_|refine blk_alloc ?_ _));exact BK117.out) Tryd.underlying67 rfl (by kernel_rfl)) rfl ?_
         exact ⟨by first|rfl|(simp [errW_none,errW_some] <;> rfl)|(simp [*,errW_none,errW_some] <;> rfl),by repeat (first|(with_reducible first|exact HB.out|apply below_alloc|apply pw_below_drewN|apply below_drew1|refine below_set ?_ GE116.out|refine below_set ?_ GE117.out|refine below_set ?_ GE118.out)|exact HB.out)⟩
        ·rw [if_neg c47] at H
         have c47b0:(a0_0==7)=false:=beq_eq_false_iff_ne.mpr c47
         have c47b1:(a0_0 != 7)=true:=bne_iff_ne.mpr c47
         simp only [Option.some.injEq,Prod.mk.injEq] at H
         obtain ⟨rfl,rfl,rfl,rfl,rfl⟩:=H
         have hnb55:=NB118_116.out
         have hnc55:=NB116_118.out
         have hnb56:=NB118_117.out
         have hnc56:=NB117_118.out
         have hcz57_0:wc.cell? ⟨gb118,0,none⟩=some (.int .i64 a0_0):=(blk_cell BK118.out 0).trans rfl
         have hcz57_1:wc.cell? ⟨gb118,1,none⟩=some (.string (⟨#[]⟩:ByteArray)):=(blk_cell BK118.out 1).trans rfl
         have hcz57_2:wc.cell? ⟨gb118,2,none⟩=some (.int .i64 0):=(blk_cell BK118.out 2).trans rfl
         have hcz57_3:wc.cell? ⟨gb118,3,none⟩=some (.int .i64 0):=(blk_cell BK118.out 3).trans rfl
         have hcz57_4:wc.cell? ⟨gb118,4,none⟩=some (.int .i64 0):=(blk_cell BK118.out 4).trans rfl
         have hfz57_0:=blk_frozen BK118.out 0
         have hfz57_1:=blk_frozen BK118.out 1
         have hfz57_2:=blk_frozen BK118.out 2
         have hfz57_3:=blk_frozen BK118.out 3
         have hfz57_4:=blk_frozen BK118.out 4
         have hnb58:=NB117_116.out
         have hnc58:=NB116_117.out
         have hcz59_0:wc.cell? ⟨gb117,0,none⟩=some (.int .i64 0):=(blk_cell BK117.out 0).trans rfl
         have hcz59_1:wc.cell? ⟨gb117,1,none⟩=some (.string (⟨#[]⟩:ByteArray)):=(blk_cell BK117.out 1).trans rfl
         have hcz59_2:wc.cell? ⟨gb117,2,none⟩=some (.int .i64 0):=(blk_cell BK117.out 2).trans rfl
         have hcz59_3:wc.cell? ⟨gb117,3,none⟩=some (.int .i64 0):=(blk_cell BK117.out 3).trans rfl
         have hcz59_4:wc.cell? ⟨gb117,4,none⟩=some (.int .i64 0):=(blk_cell BK117.out 4).trans rfl
         have hfz59_0:=blk_frozen BK117.out 0
         have hfz59_1:=blk_frozen BK117.out 1
         have hfz59_2:=blk_frozen BK117.out 2
         have hfz59_3:=blk_frozen BK117.out 3
         have hfz59_4:=blk_frozen BK117.out 4
         go_wp2_with (first|((with_reducible refine gate_store (t:=67) (p:=2) rfl ?_);refine store_event (t:=67) (p:=2) (v:=?vo_w60) (w1:=(((((wc.setCell ⟨gb117,0,none⟩ (.int .i64 a0_0)).setCell ⟨gb117,1,none⟩ (.string (⟨#[]⟩:ByteArray))).setCell ⟨gb117,2,none⟩ (.int .i64 0)).setCell ⟨gb117,3,none⟩ (.int .i64 0)).setCell ⟨gb117,4,none⟩ (.int .i64 0))) ?hg ?ho ?hn ?hr ?_;(case ho => rfl);(case hg => rfl);(case hn => rfl);(case hr => first|(go_simp;done)|(go_simp;rfl));intro w60 hw;have n0_:Aside0 (w60.heap[gb116]?=some (.cells #[.int .i64 a0_0,.string a0_1,.int .i64 a0_2,.int .i64 a0_3,.int .i64 a0_4] 67 (0,0))):=⟨(by rw [hw];exact (by (with_reducible repeat (first|refine blk_drewN ?_ _|refine blk_drew ?_|refine blk_alloc ?_ _));refine blk_far ?_ NB116_117.out _;(with_reducible repeat (first|refine blk_drewN ?_ _|refine blk_drew ?_|refine blk_alloc ?_ _));refine blk_far ?_ NB116_117.out _;(with_reducible repeat (first|refine blk_drewN ?_ _|refine blk_drew ?_|refine blk_alloc ?_ _));refine blk_far ?_ NB116_117.out _;(with_reducible repeat (first|refine blk_drewN ?_ _|refine blk_drew ?_|refine blk_alloc ?_ _));refine blk_far ?_ NB116_117.out _;(with_reducible repeat (first|refine blk_drewN ?_ _|refine blk_drew ?_|refine blk_alloc ?_ _));refine blk_far ?_ NB116_117.out _;(with_reducible repeat (first|refine blk_drewN ?_ _|refine blk_drew ?_|refine blk_alloc ?_ _));exact BK116.out))⟩;have n1_:Aside0 (w60.heap[gb117]?=some (.cells #[.int .i64 a0_0,.string (⟨#[]⟩:ByteArray),.int .i64 0,.int .i64 0,.int .i64 0] 67 (0,0))):=⟨(by rw [hw];exact (by (with_reducible repeat (first|refine blk_drewN ?_ _|refine blk_drew ?_|refine blk_alloc ?_ _));refine blk_put (cs:=#[.int .i64 a0_0,.string (⟨#[]⟩:ByteArray),.int .i64 0,.int .i64 0,.int .i64 0]) ?_ 4 _ rfl;(with_reducible repeat (first|refine blk_drewN ?_ _|refine blk_drew ?_|refine blk_alloc ?_ _));refine blk_put (cs:=#[.int .i64 a0_0,.string (⟨#[]⟩:ByteArray),.int .i64 0,.int .i64 0,.int .i64 0]) ?_ 3 _ rfl;(with_reducible repeat (first|refine blk_drewN ?_ _|refine blk_drew ?_|refine blk_alloc ?_ _));refine blk_put (cs:=#[.int .i64 a0_0,.string (⟨#[]⟩:ByteArray),.int .i64 0,.int .i64 0,.int .i64 0]) ?_ 2 _ rfl;(with_reducible repeat (first|refine blk_drewN ?_ _|refine blk_drew ?_|refine blk_alloc ?_ _));refine blk_put (cs:=#[.int .i64 a0_0,.string (⟨#[]⟩:ByteArray),.int .i64 0,.int .i64 0,.int .i64 0]) ?_ 1 _ rfl;(with_reducible repeat (first|refine blk_drewN ?_ _|refine blk_drew ?_|refine blk_alloc ?_ _));refine blk_put (cs:=#[.int .i64 0,.string (⟨#[]⟩:ByteArray),.int .i64 0,.int .i64 0,.int .i64 0]) ?_ 0 _ rfl;(with_reducible repeat (first|refine blk_drewN ?_ _|refine blk_drew ?_|refine blk_alloc ?_ _));exact BK117.out))⟩;have n2_:Aside0 (w60.heap[gb118]?=some (.cells #[.int .i64 a0_0,.string (⟨#[]⟩:ByteArray),.int .i64 0,.int .i64 0,.int .i64 0] 67 (0,0))):=⟨(by rw [hw];exact (by (with_reducible repeat (first|refine blk_drewN ?_ _|refine blk_drew ?_|refine blk_alloc ?_ _));refine blk_far ?_ NB118_117.out _;(with_reducible repeat (first|refine blk_drewN ?_ _|refine blk_drew ?_|refine blk_alloc ?_ _));refine blk_far ?_ NB118_117.out _;(with_reducible repeat (first|refine blk_drewN ?_ _|refine blk_drew ?_|refine blk_alloc ?_ _));refine blk_far ?_ NB118_117.out _;(with_reducible repeat (first|refine blk_drewN ?_ _|refine blk_drew ?_|refine blk_alloc ?_ _));refine blk_far ?_ NB118_117.out _;(with_reducible repeat (first|refine blk_drewN ?_ _|refine blk_drew ?_|refine blk_alloc ?_ _));refine blk_far ?_ NB118_117.out _;(with_reducible repeat (first|refine blk_drewN ?_ _|refine blk_drew ?_|refine blk_alloc ?_ _));exact BK118.out))⟩;have n3_:Aside0 (Below w.heap.size w w60):=⟨(by rw [hw];exact (by repeat (first|(with_reducible first|exact HB.out|apply below_alloc|apply pw_below_drewN|apply below_drew1|refine below_set ?_ GE116.out|refine below_set ?_ GE117.out|refine below_set ?_ GE118.out)|exact HB.out)))⟩;clear hw;clear BK116;clear BK117;clear BK118;clear HB;have BK116:=n0_;have BK117:=n1_;have BK118:=n2_;have HB:=n3_;clear n0_ n1_ n2_ n3_))
         refine bodyPost_ret (results_cell_row rfl _ _ gb117 67 #[.int .i64 a0_0,.string (⟨#[]⟩:ByteArray),.int .i64 0,.int .i64 0,.int .i64 0] (0,0) _ rfl (by (with_reducible repeat (first|refine blk_drewN ?_ _|refine blk_drew ?_|refine blk_alloc ?_ _));exact BK117.out) Tryd.underlying67 rfl (by kernel_rfl)) rfl ?_
         exact ⟨by first|rfl|(simp [errW_none,errW_some] <;> rfl)|(simp [*,errW_none,errW_some] <;> rfl),by repeat (first|(with_reducible first|exact HB.out|apply below_alloc|apply pw_below_drewN|apply below_drew1|refine below_set ?_ GE116.out|refine below_set ?_ GE117.out|refine below_set ?_ GE118.out)|exact HB.out)⟩
def pool_is.f (l0:List (S67)) (a1:Int) (a2:Int):Option (Bool):=if a1 > 0 then (if a1 < (l0.length:Int) then (if 0≤a1 then (some (((rd_T67 l0 a1).f0)==a2)) else (none)) else (some false)) else (some false)
set_option maxHeartbeats 80000000 in
set_option maxRecDepth 100000 in
theorem pool_is.calls (A0:Option Addr) (c0:Nat) (l0:List (S67)) (a1:Int) (a2:Int) (r:Bool) (w:World) (hr0:Kd.C k67 w A0 l0.length l0) (hc0:l0.length≤c0) (h:pool_is.f l0 a1 a2=some r) :
  Calls Tryd.prog 66 #[.slice A0 l0.length c0,.int .i64 a1,.int .i64 a2] w fun e w' => e=.returned (.bool r)∧Drawn0 w w':=by
 have HR0:=Aside0.mk hr0
 have HC0:=Aside0.mk hc0
 clear hr0 hc0
 have H:(if a1 > 0 then (if a1 < (l0.length:Int) then (if 0≤a1 then (some (((rd_T67 l0 a1).f0)==a2)) else (none)) else (some false)) else (some false))=some r:=h
 clear h
 by_cases c4:a1 > 0
 ·rw [if_pos c4] at H
  have c4b0:decide (0 < a1)=true:=decide_eq_true c4
  clear c4
  by_cases c5:a1 < (l0.length:Int)
  ·rw [if_pos c5] at H
   have c5b0:decide (a1 < (l0.length:Int))=true:=decide_eq_true c5
   clear c5
   by_cases c6:0≤a1
   ·rw [if_pos c6] at H
    have c6b0:decide (0≤a1)=true:=decide_eq_true c6
    clear c6
    obtain rfl:=Option.some.inj H
    have p119:0≤(a1:Int):=of_decide_eq_true (by first|(with_reducible assumption)|assumption)
    have q119:a1 < (l0.length:Int):=of_decide_eq_true (by first|(with_reducible assumption)|assumption)
    obtain ⟨ad119,e119,hx119_0,hx119_1,hx119_2,hx119_3,hx119_4⟩:=at_T67 HR0.out a1 p119 q119
    cases e119
    replace p119:=eq_true p119
    replace q119:=eq_true q119
    go_enter Tryd.func66,Tryd.ntmps66
    go_wp2
    go_ret
    exact ⟨by first|rfl|(simp;done)|(simp [*];done),by repeat (first|exact Drawn0.refl _|apply Drawn0.step)⟩
   ·rw [if_neg c6] at H
    exact absurd H (by simp)
  ·rw [if_neg c5] at H
   have c5b0:decide (a1 < (l0.length:Int))=false:=decide_eq_false c5
   clear c5
   obtain rfl:=Option.some.inj H
   go_enter Tryd.func66,Tryd.ntmps66
   go_wp2
   go_ret
   exact ⟨by first|rfl|(simp;done)|(simp [*];done),by repeat (first|exact Drawn0.refl _|apply Drawn0.step)⟩
 ·rw [if_neg c4] at H
  have c4b0:decide (0 < a1)=false:=decide_eq_false c4
  clear c4
  obtain rfl:=Option.some.inj H
  go_enter Tryd.func66,Tryd.ntmps66
  go_wp2
  go_ret
  exact ⟨by first|rfl|(simp;done)|(simp [*];done),by repeat (first|exact Drawn0.refl _|apply Drawn0.step)⟩
end Go.Proofs.YtbgniepcoaiinaaDoor.Px
namespace Go.Proofs.YtbgniepcoaiinaaDoor.Px
open Go.RowKit Go.Proofs.YtbgniepcoaiinaaDoorW.PrintWords Go.Proofs.YtbgniepcoaiinaaDoorW.PrintLast Go.Proofs.YtbgniepcoaiinaaDoorW.PrintMore
attribute [local go_sem] max2_int min2_int max_two min_two max_three min_three max_four min_four
set_option linter.unusedVariables false
set_option linter.unusedSimpArgs false
mutual
def pool_leads.j0:Nat→List (S67)→Int→Bool→Int→ByteArray→Int→Int→Int→Option (Bool)
 | 0,_,_,_,_,_,_,_,_ => none
 | k + 1,x0,x6,x7,x121000,x121001,x121002,x121003,x121004 => if x7=true then (some true) else (if x6=3 then (some ((wrap64 (wrap32 (x121002)))==x121002)) else (if x6=7 then ((pool_is.f x0 x121003 1).bind fun t121 => (some t121)) else (if x6=12 then ((pool_is.f x0 x121003 1).bind fun t122 => (if t122=true then ((pool_is.f x0 x121004 1).bind fun t123 => (some t123)) else (some false))) else (if x6=9 then (pool_leads.j1 k x0 (x6==9) x121000 x121001 x121002 x121003 x121004) else (pool_leads.j1 k x0 (x6==10) x121000 x121001 x121002 x121003 x121004)))))
def pool_leads.j1:Nat→List (S67)→Bool→Int→ByteArray→Int→Int→Int→Option (Bool)
 | 0,_,_,_,_,_,_,_ => none
 | k + 1,x0,x37,x121000,x121001,x121002,x121003,x121004 => if x37=true then ((pool_is.f x0 x121003 7).bind fun t124 => (if t124=true then ((pool_is.f x0 x121004 12).bind fun t125 => (some t125)) else (some false))) else (some false)
end
def pool_leads.f (k:Nat) (l0:List (S67)) (a1_0:Int) (a1_1:ByteArray) (a1_2:Int) (a1_3:Int) (a1_4:Int):Option (Bool):=if a1_0=1 then (pool_leads.j0 k l0 a1_0 (a1_0==1) a1_0 a1_1 a1_2 a1_3 a1_4) else (pool_leads.j0 k l0 a1_0 (a1_0==5) a1_0 a1_1 a1_2 a1_3 a1_4)
theorem pool_leads.mono_l:∀ k,(∀ y0 y1 y2 y3 y4 y5 y6 y7,LeO (pool_leads.j0 k y0 y1 y2 y3 y4 y5 y6 y7) (pool_leads.j0 (k + 1) y0 y1 y2 y3 y4 y5 y6 y7))∧(∀ y0 y1 y2 y3 y4 y5 y6,LeO (pool_leads.j1 k y0 y1 y2 y3 y4 y5 y6) (pool_leads.j1 (k + 1) y0 y1 y2 y3 y4 y5 y6))
 | 0 => ⟨fun _ _ _ _ _ _ _ _ r h => by simp [pool_leads.j0] at h,fun _ _ _ _ _ _ _ r h => by simp [pool_leads.j1] at h⟩
 | k + 1 => by
  obtain ⟨ih0,ih1⟩:=pool_leads.mono_l k
  refine ⟨?_,?_⟩
  ·intro y0 y1 y2 y3 y4 y5 y6 y7
   unfold pool_leads.j0
   repeat' first
   | (with_reducible exact ih0 _ _ _ _ _ _ _ _)
   | (with_reducible exact ih1 _ _ _ _ _ _ _)
   | (with_reducible exact LeO.refl _)
   | (with_reducible exact LeO.none _)
   | (with_reducible refine LeO.ite ?_ ?_)
   | (with_reducible refine LeO.bind ?_ (fun _ => ?_))
   | exact ih0 _ _ _ _ _ _ _ _
   | exact ih1 _ _ _ _ _ _ _
   | exact LeO.none _
   | refine LeO.ite ?_ ?_
   | refine LeO.bind ?_ (fun _ => ?_)
  ·intro y0 y1 y2 y3 y4 y5 y6
   unfold pool_leads.j1
   repeat' first
   | (with_reducible exact ih0 _ _ _ _ _ _ _ _)
   | (with_reducible exact ih1 _ _ _ _ _ _ _)
   | (with_reducible exact LeO.refl _)
   | (with_reducible exact LeO.none _)
   | (with_reducible refine LeO.ite ?_ ?_)
   | (with_reducible refine LeO.bind ?_ (fun _ => ?_))
   | exact ih0 _ _ _ _ _ _ _ _
   | exact ih1 _ _ _ _ _ _ _
   | exact LeO.none _
   | refine LeO.ite ?_ ?_
   | refine LeO.bind ?_ (fun _ => ?_)
theorem pool_leads.mono:∀ a0 a1 a2 a3 a4 a5 k,LeO (pool_leads.f k a0 a1 a2 a3 a4 a5) (pool_leads.f (k + 1) a0 a1 a2 a3 a4 a5):=by
 intro a0 a1 a2 a3 a4 a5 k
 obtain ⟨ih0,ih1⟩:=pool_leads.mono_l k
 unfold pool_leads.f
 repeat' first
   | (with_reducible exact ih0 _ _ _ _ _ _ _ _)
   | (with_reducible exact ih1 _ _ _ _ _ _ _)
   | (with_reducible exact LeO.refl _)
   | (with_reducible exact LeO.none _)
   | (with_reducible refine LeO.ite ?_ ?_)
   | (with_reducible refine LeO.bind ?_ (fun _ => ?_))
   | exact ih0 _ _ _ _ _ _ _ _
   | exact ih1 _ _ _ _ _ _ _
   | exact LeO.none _
   | refine LeO.ite ?_ ?_
   | refine LeO.bind ?_ (fun _ => ?_)
set_option maxHeartbeats 80000000 in
set_option maxRecDepth 100000 in
theorem pool_leads.calls (k:Nat) (A0:Option Addr) (c0:Nat) (l0:List (S67)) (a1_0:Int) (a1_1:ByteArray) (a1_2:Int) (a1_3:Int) (a1_4:Int) (r:Bool) (w:World) (hr0:Kd.C k67 w A0 l0.length l0) (hc0:l0.length≤c0) (h:pool_leads.f k l0 a1_0 a1_1 a1_2 a1_3 a1_4=some r) :
  Calls Tryd.prog 77 #[.slice A0 l0.length c0,.agg #[.int .i64 a1_0,.string a1_1,.int .i64 a1_2,.int .i64 a1_3,.int .i64 a1_4]] w fun e w' => e=.returned (.bool r)∧Below w.heap.size w w':=by
 have hu67:=Tryd.underlying67
 have HR0:=Aside0.mk hr0
 have HC0:=Aside0.mk hc0
 clear hr0 hc0
 have HB:=Aside0.mk (Below.refl w.heap.size w)
 have H:(if a1_0=1 then (pool_leads.j0 k l0 a1_0 (a1_0==1) a1_0 a1_1 a1_2 a1_3 a1_4) else (pool_leads.j0 k l0 a1_0 (a1_0==5) a1_0 a1_1 a1_2 a1_3 a1_4))=some r:=h
 clear h
 have HC3:=Aside0.mk H
 clear H
 go_enter Tryd.func77,Tryd.ntmps77
 go_upto_if 7 with (first|((with_reducible refine gate_dst (N:=3) rfl ?_);refine box_event ?hg (N:=3) ?hd (cs:=#[.int .i64 a1_0,.string a1_1,.int .i64 a1_2,.int .i64 a1_3,.int .i64 a1_4]) (t:=67) ?hr ?_;(case hd => rfl);(case hg => rfl);(case hr => first|(go_simp;done)|(go_simp;rfl));intro gb120 hg w4 hbox hb;have n0_:=Aside0.mk (below_step (by repeat (first|(with_reducible first|exact HB.out|apply below_alloc|apply pw_below_drewN|apply below_drew1)|exact HB.out)) hb);have n1_:=Aside0.mk (hbox);have n2_:=Aside0.mk ((by rw [hg];exact (below_size (by repeat (first|(with_reducible first|exact HB.out|apply below_alloc|apply pw_below_drewN|apply below_drew1)|exact HB.out))):w.heap.size≤gb120));have n3_:=Aside0.mk ((by rw [hg];exact (below_size (by repeat (first|(with_reducible first|exact HB.out|apply below_alloc|apply pw_below_drewN|apply below_drew1)|exact HB.out))):w.heap.size≤gb120));clear HB;have HB:=n0_;have BK120:=n1_;have GW120:=n2_;have GE120:=n3_;clear n0_ n1_ n2_ n3_;clear hb hbox hg;have hcz5_0:w4.cell? ⟨gb120,0,none⟩=some (.int .i64 a1_0):=(blk_cell BK120.out 0).trans rfl;have hcz5_1:w4.cell? ⟨gb120,1,none⟩=some (.string a1_1):=(blk_cell BK120.out 1).trans rfl;have hcz5_2:w4.cell? ⟨gb120,2,none⟩=some (.int .i64 a1_2):=(blk_cell BK120.out 2).trans rfl;have hcz5_3:w4.cell? ⟨gb120,3,none⟩=some (.int .i64 a1_3):=(blk_cell BK120.out 3).trans rfl;have hcz5_4:w4.cell? ⟨gb120,4,none⟩=some (.int .i64 a1_4):=(blk_cell BK120.out 4).trans rfl;have hfz5_0:=blk_frozen BK120.out 0;have hfz5_1:=blk_frozen BK120.out 1;have hfz5_2:=blk_frozen BK120.out 2;have hfz5_3:=blk_frozen BK120.out 3;have hfz5_4:=blk_frozen BK120.out 4))
 (try simp only [Act.put,List.setIfInBounds_toArray,List.set_cons_zero,List.set_cons_succ])
 go_cut [7] (fun v7 wc => ∃ (kq:Nat) (x7_2:Bool),v7=.bool x7_2∧Aside0 (pool_leads.j0 kq l0 a1_0 x7_2 a1_0 a1_1 a1_2 a1_3 a1_4=some r)∧Aside0 (kq≤k)∧Aside0 (wc.heap[gb120]?=some (.cells #[.int .i64 a1_0,.string a1_1,.int .i64 a1_2,.int .i64 a1_3,.int .i64 a1_4] 67 (0,0)))∧Aside0 (Below w.heap.size w wc))
 case first =>
  have H:=HC3.out
  clear HC3
  by_cases c6:a1_0=1
  ·rw [if_pos c6] at H
   have c6b0:(a1_0==1)=true:=beq_iff_eq.mpr c6
   have c6b1:(a1_0 != 1)=false:=bne_eq_false_iff_eq.mpr c6
   clear c6
   (first|rw [c6b0]|(simp only [i64_w,i32_w];rw [c6b0])|skip)
   have H':=Aside0.mk H
   clear H
   go_wp2
   go_meet
   case rel => exact ⟨_,((a1_0==1)),(by first|rfl|(simp;done)|(simp [*];done)),H',⟨by first|omega|exact Nat.le_refl _⟩,⟨by (with_reducible repeat (first|refine blk_drewN ?_ _|refine blk_drew ?_|refine blk_alloc ?_ _));exact BK120.out⟩,⟨by repeat (first|(with_reducible first|exact HB.out|apply below_alloc|apply pw_below_drewN|apply below_drew1|refine below_set ?_ GE120.out)|exact HB.out)⟩⟩
  ·rw [if_neg c6] at H
   have c6b0:(a1_0==1)=false:=beq_eq_false_iff_ne.mpr c6
   have c6b1:(a1_0 != 1)=true:=bne_iff_ne.mpr c6
   (first|rw [c6b0]|(simp only [i64_w,i32_w];rw [c6b0])|skip)
   have H':=Aside0.mk H
   clear H
   go_wp2
   go_meet
   case rel => exact ⟨_,((a1_0==5)),(by first|rfl|(simp;done)|(simp [*];done)),H',⟨by first|omega|exact Nat.le_refl _⟩,⟨by (with_reducible repeat (first|refine blk_drewN ?_ _|refine blk_drew ?_|refine blk_alloc ?_ _));exact BK120.out⟩,⟨by repeat (first|(with_reducible first|exact HB.out|apply below_alloc|apply pw_below_drewN|apply below_drew1|refine below_set ?_ GE120.out)|exact HB.out)⟩⟩
 case rest =>
  clear HC3
  try clear p2;try clear c6;try clear c6b0;try clear c6b1;try clear hcz5_0;try clear hcz5_1;try clear hcz5_2;try clear hcz5_3;try clear hcz5_4;try clear hfz5_0;try clear hfz5_1;try clear hfz5_2;try clear hfz5_3;try clear hfz5_4
  obtain ⟨kq,x7_2,rfl,HA,HJ2,BK120,HB⟩:=hcut
  cases kq with
  | zero => exact absurd HA.out (by simp [pool_leads.j0])
  | succ kj2 =>
   have H:=HA.out
   clear HA
   simp only [pool_leads.j0] at H
   by_cases c7:x7_2=true
   ·subst c7
    have H1:(some true)=some r:=by rw [if_pos rfl] at H;exact H
    clear H
    have H:=H1
    clear H1
    obtain rfl:=Option.some.inj H
    go_wp2
    go_ret
    exact ⟨by first|rfl|(simp [errW_none,errW_some] <;> rfl)|(simp [*,errW_none,errW_some] <;> rfl),by repeat (first|(with_reducible first|exact HB.out|apply below_alloc|apply pw_below_drewN|apply below_drew1|refine below_set ?_ GE120.out)|exact HB.out)⟩
   ·replace c7:=Bool.eq_false_iff.mpr c7
    subst c7
    have H1:(if a1_0=3 then (some ((wrap64 (wrap32 (a1_2)))==a1_2)) else (if a1_0=7 then ((pool_is.f l0 a1_3 1).bind fun t121 => (some t121)) else (if a1_0=12 then ((pool_is.f l0 a1_3 1).bind fun t122 => (if t122=true then ((pool_is.f l0 a1_4 1).bind fun t123 => (some t123)) else (some false))) else (if a1_0=9 then (pool_leads.j1 kj2 l0 (a1_0==9) a1_0 a1_1 a1_2 a1_3 a1_4) else (pool_leads.j1 kj2 l0 (a1_0==10) a1_0 a1_1 a1_2 a1_3 a1_4)))))=some r:=by rw [if_neg (show ¬ (false=true) by decide)] at H;exact H
    clear H
    have H:=H1
    clear H1
    by_cases c8:a1_0=3
    ·rw [if_pos c8] at H
     have c8b0:(a1_0==3)=true:=beq_iff_eq.mpr c8
     have c8b1:(a1_0 != 3)=false:=bne_eq_false_iff_eq.mpr c8
     clear c8
     obtain rfl:=Option.some.inj H
     have hcz9_0:wc.cell? ⟨gb120,0,none⟩=some (.int .i64 a1_0):=(blk_cell BK120.out 0).trans rfl
     have hcz9_1:wc.cell? ⟨gb120,1,none⟩=some (.string a1_1):=(blk_cell BK120.out 1).trans rfl
     have hcz9_2:wc.cell? ⟨gb120,2,none⟩=some (.int .i64 a1_2):=(blk_cell BK120.out 2).trans rfl
     have hcz9_3:wc.cell? ⟨gb120,3,none⟩=some (.int .i64 a1_3):=(blk_cell BK120.out 3).trans rfl
     have hcz9_4:wc.cell? ⟨gb120,4,none⟩=some (.int .i64 a1_4):=(blk_cell BK120.out 4).trans rfl
     have hfz9_0:=blk_frozen BK120.out 0
     have hfz9_1:=blk_frozen BK120.out 1
     have hfz9_2:=blk_frozen BK120.out 2
     have hfz9_3:=blk_frozen BK120.out 3
     have hfz9_4:=blk_frozen BK120.out 4
     go_wp2
     go_ret
     exact ⟨by first|rfl|(simp [errW_none,errW_some] <;> rfl)|(simp [*,errW_none,errW_some] <;> rfl),by repeat (first|(with_reducible first|exact HB.out|apply below_alloc|apply pw_below_drewN|apply below_drew1|refine below_set ?_ GE120.out)|exact HB.out)⟩
    ·rw [if_neg c8] at H
     have c8b0:(a1_0==3)=false:=beq_eq_false_iff_ne.mpr c8
     have c8b1:(a1_0 != 3)=true:=bne_iff_ne.mpr c8
     by_cases c10:a1_0=7
     ·rw [if_pos c10] at H
      have c10b0:(a1_0==7)=true:=beq_iff_eq.mpr c10
      have c10b1:(a1_0 != 7)=false:=bne_eq_false_iff_eq.mpr c10
      clear c10
      replace H:=Option.bind_eq_some_iff.mp H
      obtain ⟨t121,A110,H⟩:=H
      replace H:(some t121)=some r:=H
      have A11:=Aside0.mk A110
      clear A110
      obtain rfl:=Option.some.inj H
      have hcz12_0:wc.cell? ⟨gb120,0,none⟩=some (.int .i64 a1_0):=(blk_cell BK120.out 0).trans rfl
      have hcz12_1:wc.cell? ⟨gb120,1,none⟩=some (.string a1_1):=(blk_cell BK120.out 1).trans rfl
      have hcz12_2:wc.cell? ⟨gb120,2,none⟩=some (.int .i64 a1_2):=(blk_cell BK120.out 2).trans rfl
      have hcz12_3:wc.cell? ⟨gb120,3,none⟩=some (.int .i64 a1_3):=(blk_cell BK120.out 3).trans rfl
      have hcz12_4:wc.cell? ⟨gb120,4,none⟩=some (.int .i64 a1_4):=(blk_cell BK120.out 4).trans rfl
      have hfz12_0:=blk_frozen BK120.out 0
      have hfz12_1:=blk_frozen BK120.out 1
      have hfz12_2:=blk_frozen BK120.out 2
      have hfz12_3:=blk_frozen BK120.out 3
      have hfz12_4:=blk_frozen BK120.out 4
      go_wp2_with (first|((with_reducible refine gate_callee (f:=66) rfl ?_);refine goesL_ (some 24) rfl rfl Tryd.func66 (by kernel_rfl) rfl #[.slice A0 l0.length c0,.int .i64 a1_3,.int .i64 1] rfl (by (try simp only [List.map_toArray,List.map_cons,List.map_nil]);first|done|rfl|(simp only [List.length_drop,List.length_take];rfl)) ?_;(with_reducible refine (pool_is.calls _ _ l0 a1_3 1 t121 _ ?side1 ?side2 A11.out).mono ?_);(case side1 => repeat (first|exact (Kd.C_below HR0.out HB.out)|(with_reducible refine Kd.C_alloc ?_ _)|(with_reducible refine Kd.C_drewN ?_ _)|(with_reducible refine Kd.C_drew ?_)));(case side2 => exact HC0.out);rintro e w' ⟨rfl,⟨nd,rfl⟩⟩;refine ⟨_,rfl,?_⟩))
      go_ret
      exact ⟨by first|rfl|(simp [errW_none,errW_some] <;> rfl)|(simp [*,errW_none,errW_some] <;> rfl),by repeat (first|(with_reducible first|exact HB.out|apply below_alloc|apply pw_below_drewN|apply below_drew1|refine below_set ?_ GE120.out)|exact HB.out)⟩
     ·rw [if_neg c10] at H
      have c10b0:(a1_0==7)=false:=beq_eq_false_iff_ne.mpr c10
      have c10b1:(a1_0 != 7)=true:=bne_iff_ne.mpr c10
      by_cases c13:a1_0=12
      ·rw [if_pos c13] at H
       have c13b0:(a1_0==12)=true:=beq_iff_eq.mpr c13
       have c13b1:(a1_0 != 12)=false:=bne_eq_false_iff_eq.mpr c13
       clear c13
       replace H:=Option.bind_eq_some_iff.mp H
       obtain ⟨t122,A140,H⟩:=H
       replace H:(if t122=true then ((pool_is.f l0 a1_4 1).bind fun t123 => (some t123)) else (some false))=some r:=H
       have A14:=Aside0.mk A140
       clear A140
       by_cases c15:t122=true
       ·subst c15
        have H1:((pool_is.f l0 a1_4 1).bind fun t123 => (some t123))=some r:=by rw [if_pos rfl] at H;exact H
        clear H
        have H:=H1
        clear H1
        replace H:=Option.bind_eq_some_iff.mp H
        obtain ⟨t123,A160,H⟩:=H
        replace H:(some t123)=some r:=H
        have A16:=Aside0.mk A160
        clear A160
        obtain rfl:=Option.some.inj H
        have hcz17_0:wc.cell? ⟨gb120,0,none⟩=some (.int .i64 a1_0):=(blk_cell BK120.out 0).trans rfl
        have hcz17_1:wc.cell? ⟨gb120,1,none⟩=some (.string a1_1):=(blk_cell BK120.out 1).trans rfl
        have hcz17_2:wc.cell? ⟨gb120,2,none⟩=some (.int .i64 a1_2):=(blk_cell BK120.out 2).trans rfl
        have hcz17_3:wc.cell? ⟨gb120,3,none⟩=some (.int .i64 a1_3):=(blk_cell BK120.out 3).trans rfl
        have hcz17_4:wc.cell? ⟨gb120,4,none⟩=some (.int .i64 a1_4):=(blk_cell BK120.out 4).trans rfl
        have hfz17_0:=blk_frozen BK120.out 0
        have hfz17_1:=blk_frozen BK120.out 1
        have hfz17_2:=blk_frozen BK120.out 2
        have hfz17_3:=blk_frozen BK120.out 3
        have hfz17_4:=blk_frozen BK120.out 4
        go_wp2_with (first|((with_reducible refine gate_callee (f:=66) rfl ?_);refine goesL_ (some 30) rfl rfl Tryd.func66 (by kernel_rfl) rfl #[.slice A0 l0.length c0,.int .i64 a1_3,.int .i64 1] rfl (by (try simp only [List.map_toArray,List.map_cons,List.map_nil]);first|done|rfl|(simp only [List.length_drop,List.length_take];rfl)) ?_;(with_reducible refine (pool_is.calls _ _ l0 a1_3 1 true _ ?side1 ?side2 A14.out).mono ?_);(case side1 => repeat (first|exact (Kd.C_below HR0.out HB.out)|(with_reducible refine Kd.C_alloc ?_ _)|(with_reducible refine Kd.C_drewN ?_ _)|(with_reducible refine Kd.C_drew ?_)));(case side2 => exact HC0.out);rintro e w' ⟨rfl,⟨nd,rfl⟩⟩;refine ⟨_,rfl,?_⟩)|(go_at_call 66;(with_reducible refine (pool_is.calls _ _ l0 a1_4 1 t123 _ ?side1 ?side2 A16.out).mono ?_);(case side1 => repeat (first|exact (Kd.C_below HR0.out (by repeat (first|(with_reducible first|exact HB.out|apply below_alloc|apply pw_below_drewN|apply below_drew1|refine below_set ?_ GE120.out)|exact HB.out)))|(with_reducible refine Kd.C_alloc ?_ _)|(with_reducible refine Kd.C_drewN ?_ _)|(with_reducible refine Kd.C_drew ?_)));(case side2 => exact HC0.out);rintro e w' ⟨rfl,⟨nd,rfl⟩⟩))
        go_ret
        exact ⟨by first|rfl|(simp [errW_none,errW_some] <;> rfl)|(simp [*,errW_none,errW_some] <;> rfl),by repeat (first|(with_reducible first|exact HB.out|apply below_alloc|apply pw_below_drewN|apply below_drew1|refine below_set ?_ GE120.out)|exact HB.out)⟩
       ·replace c15:=Bool.eq_false_iff.mpr c15
        subst c15
        have H1:(some false)=some r:=by rw [if_neg (show ¬ (false=true) by decide)] at H;exact H
        clear H
        have H:=H1
        clear H1
        obtain rfl:=Option.some.inj H
        have hcz18_0:wc.cell? ⟨gb120,0,none⟩=some (.int .i64 a1_0):=(blk_cell BK120.out 0).trans rfl
        have hcz18_1:wc.cell? ⟨gb120,1,none⟩=some (.string a1_1):=(blk_cell BK120.out 1).trans rfl
        have hcz18_2:wc.cell? ⟨gb120,2,none⟩=some (.int .i64 a1_2):=(blk_cell BK120.out 2).trans rfl
        have hcz18_3:wc.cell? ⟨gb120,3,none⟩=some (.int .i64 a1_3):=(blk_cell BK120.out 3).trans rfl
        have hcz18_4:wc.cell? ⟨gb120,4,none⟩=some (.int .i64 a1_4):=(blk_cell BK120.out 4).trans rfl
        have hfz18_0:=blk_frozen BK120.out 0
        have hfz18_1:=blk_frozen BK120.out 1
        have hfz18_2:=blk_frozen BK120.out 2
        have hfz18_3:=blk_frozen BK120.out 3
        have hfz18_4:=blk_frozen BK120.out 4
        go_wp2_with (first|((with_reducible refine gate_callee (f:=66) rfl ?_);refine goesL_ (some 30) rfl rfl Tryd.func66 (by kernel_rfl) rfl #[.slice A0 l0.length c0,.int .i64 a1_3,.int .i64 1] rfl (by (try simp only [List.map_toArray,List.map_cons,List.map_nil]);first|done|rfl|(simp only [List.length_drop,List.length_take];rfl)) ?_;(with_reducible refine (pool_is.calls _ _ l0 a1_3 1 false _ ?side1 ?side2 A14.out).mono ?_);(case side1 => repeat (first|exact (Kd.C_below HR0.out HB.out)|(with_reducible refine Kd.C_alloc ?_ _)|(with_reducible refine Kd.C_drewN ?_ _)|(with_reducible refine Kd.C_drew ?_)));(case side2 => exact HC0.out);rintro e w' ⟨rfl,⟨nd,rfl⟩⟩;refine ⟨_,rfl,?_⟩))
        go_ret
        exact ⟨by first|rfl|(simp [errW_none,errW_some] <;> rfl)|(simp [*,errW_none,errW_some] <;> rfl),by repeat (first|(with_reducible first|exact HB.out|apply below_alloc|apply pw_below_drewN|apply below_drew1|refine below_set ?_ GE120.out)|exact HB.out)⟩
      ·rw [if_neg c13] at H
       have c13b0:(a1_0==12)=false:=beq_eq_false_iff_ne.mpr c13
       have c13b1:(a1_0 != 12)=true:=bne_iff_ne.mpr c13
       have HC19:=Aside0.mk H
       clear H
       go_upto_if 37 with (fail)
       go_cut [37] (fun v37 wc => ∃ (kq:Nat) (x37_18:Bool),v37=.bool x37_18∧Aside0 (pool_leads.j1 kq l0 x37_18 a1_0 a1_1 a1_2 a1_3 a1_4=some r)∧Aside0 (kq≤kj2)∧Aside0 (wc.heap[gb120]?=some (.cells #[.int .i64 a1_0,.string a1_1,.int .i64 a1_2,.int .i64 a1_3,.int .i64 a1_4] 67 (0,0)))∧Aside0 (Below w.heap.size w wc))
       case first =>
        have H:=HC19.out
        clear HC19
        by_cases c20:a1_0=9
        ·rw [if_pos c20] at H
         have c20b0:(a1_0==9)=true:=beq_iff_eq.mpr c20
         have c20b1:(a1_0 != 9)=false:=bne_eq_false_iff_eq.mpr c20
         clear c20
         (first|rw [c20b0]|(simp only [i64_w,i32_w];rw [c20b0])|skip)
         have H':=Aside0.mk H
         clear H
         go_wp2
         go_meet
         case rel => exact ⟨_,((a1_0==9)),(by first|rfl|(simp;done)|(simp [*];done)),H',⟨by have:=HJ2.out;first|omega|exact Nat.le_refl _⟩,⟨by (with_reducible repeat (first|refine blk_drewN ?_ _|refine blk_drew ?_|refine blk_alloc ?_ _));exact BK120.out⟩,⟨by repeat (first|(with_reducible first|exact HB.out|apply below_alloc|apply pw_below_drewN|apply below_drew1|refine below_set ?_ GE120.out)|exact HB.out)⟩⟩
        ·rw [if_neg c20] at H
         have c20b0:(a1_0==9)=false:=beq_eq_false_iff_ne.mpr c20
         have c20b1:(a1_0 != 9)=true:=bne_iff_ne.mpr c20
         (first|rw [c20b0]|(simp only [i64_w,i32_w];rw [c20b0])|skip)
         have H':=Aside0.mk H
         clear H
         go_wp2
         go_meet
         case rel => exact ⟨_,((a1_0==10)),(by first|rfl|(simp;done)|(simp [*];done)),H',⟨by have:=HJ2.out;first|omega|exact Nat.le_refl _⟩,⟨by (with_reducible repeat (first|refine blk_drewN ?_ _|refine blk_drew ?_|refine blk_alloc ?_ _));exact BK120.out⟩,⟨by repeat (first|(with_reducible first|exact HB.out|apply below_alloc|apply pw_below_drewN|apply below_drew1|refine below_set ?_ GE120.out)|exact HB.out)⟩⟩
       case rest =>
        clear HC19
        try clear c1;try clear c2;try clear p2;try clear p3;try clear c6;try clear c6b0;try clear c6b1;try clear p6;try clear c7;try clear c8;try clear c8b0;try clear c8b1;try clear c10;try clear c10b0;try clear c10b1;try clear c13;try clear c13b0;try clear c13b1;try clear c15;try clear c20;try clear c20b0;try clear c20b1;try clear hcz12_0;try clear hcz12_1;try clear hcz12_2;try clear hcz12_3;try clear hcz12_4;try clear hcz17_0;try clear hcz17_1;try clear hcz17_2;try clear hcz17_3;try clear hcz17_4;try clear hcz18_0;try clear hcz18_1;try clear hcz18_2;try clear hcz18_3;try clear hcz18_4;try clear hcz5_0;try clear hcz5_1;try clear hcz5_2;try clear hcz5_3;try clear hcz5_4;try clear hcz9_0;try clear hcz9_1;try clear hcz9_2;try clear hcz9_3;try clear hcz9_4;try clear hfz12_0;try clear hfz12_1;try clear hfz12_2;try clear hfz12_3;try clear hfz12_4;try clear hfz17_0;try clear hfz17_1;try clear hfz17_2;try clear hfz17_3;try clear hfz17_4;try clear hfz18_0;try clear hfz18_1;try clear hfz18_2;try clear hfz18_3;try clear hfz18_4;try clear hfz5_0;try clear hfz5_1;try clear hfz5_2;try clear hfz5_3;try clear hfz5_4;try clear hfz9_0;try clear hfz9_1;try clear hfz9_2;try clear hfz9_3;try clear hfz9_4;try clear p2
        obtain ⟨kq,x37_18,rfl,HA,HJ18,BK120,HB⟩:=hcut
        cases kq with
        | zero => exact absurd HA.out (by simp [pool_leads.j1])
        | succ kj18 =>
         have H:=HA.out
         clear HA
         simp only [pool_leads.j1] at H
         by_cases c21:x37_18=true
         ·subst c21
          have H1:((pool_is.f l0 a1_3 7).bind fun t124 => (if t124=true then ((pool_is.f l0 a1_4 12).bind fun t125 => (some t125)) else (some false)))=some r:=by rw [if_pos rfl] at H;exact H
          clear H
          have H:=H1
          clear H1
          replace H:=Option.bind_eq_some_iff.mp H
          obtain ⟨t124,A220,H⟩:=H
          replace H:(if t124=true then ((pool_is.f l0 a1_4 12).bind fun t125 => (some t125)) else (some false))=some r:=H
          have A22:=Aside0.mk A220
          clear A220
          by_cases c23:t124=true
          ·subst c23
           have H1:((pool_is.f l0 a1_4 12).bind fun t125 => (some t125))=some r:=by rw [if_pos rfl] at H;exact H
           clear H
           have H:=H1
           clear H1
           replace H:=Option.bind_eq_some_iff.mp H
           obtain ⟨t125,A240,H⟩:=H
           replace H:(some t125)=some r:=H
           have A24:=Aside0.mk A240
           clear A240
           obtain rfl:=Option.some.inj H
           have hcz25_0:wc.cell? ⟨gb120,0,none⟩=some (.int .i64 a1_0):=(blk_cell BK120.out 0).trans rfl
           have hcz25_1:wc.cell? ⟨gb120,1,none⟩=some (.string a1_1):=(blk_cell BK120.out 1).trans rfl
           have hcz25_2:wc.cell? ⟨gb120,2,none⟩=some (.int .i64 a1_2):=(blk_cell BK120.out 2).trans rfl
           have hcz25_3:wc.cell? ⟨gb120,3,none⟩=some (.int .i64 a1_3):=(blk_cell BK120.out 3).trans rfl
           have hcz25_4:wc.cell? ⟨gb120,4,none⟩=some (.int .i64 a1_4):=(blk_cell BK120.out 4).trans rfl
           have hfz25_0:=blk_frozen BK120.out 0
           have hfz25_1:=blk_frozen BK120.out 1
           have hfz25_2:=blk_frozen BK120.out 2
           have hfz25_3:=blk_frozen BK120.out 3
           have hfz25_4:=blk_frozen BK120.out 4
           go_wp2_with (first|((with_reducible refine gate_callee (f:=66) rfl ?_);refine goesL_ (some 43) rfl rfl Tryd.func66 (by kernel_rfl) rfl #[.slice A0 l0.length c0,.int .i64 a1_3,.int .i64 7] rfl (by (try simp only [List.map_toArray,List.map_cons,List.map_nil]);first|done|rfl|(simp only [List.length_drop,List.length_take];rfl)) ?_;(with_reducible refine (pool_is.calls _ _ l0 a1_3 7 true _ ?side1 ?side2 A22.out).mono ?_);(case side1 => repeat (first|exact (Kd.C_below HR0.out HB.out)|(with_reducible refine Kd.C_alloc ?_ _)|(with_reducible refine Kd.C_drewN ?_ _)|(with_reducible refine Kd.C_drew ?_)));(case side2 => exact HC0.out);rintro e w' ⟨rfl,⟨nd,rfl⟩⟩;refine ⟨_,rfl,?_⟩)|(go_at_call 66;(with_reducible refine (pool_is.calls _ _ l0 a1_4 12 t125 _ ?side1 ?side2 A24.out).mono ?_);(case side1 => repeat (first|exact (Kd.C_below HR0.out (by repeat (first|(with_reducible first|exact HB.out|apply below_alloc|apply pw_below_drewN|apply below_drew1|refine below_set ?_ GE120.out)|exact HB.out)))|(with_reducible refine Kd.C_alloc ?_ _)|(with_reducible refine Kd.C_drewN ?_ _)|(with_reducible refine Kd.C_drew ?_)));(case side2 => exact HC0.out);rintro e w' ⟨rfl,⟨nd,rfl⟩⟩))
           go_ret
           exact ⟨by first|rfl|(simp [errW_none,errW_some] <;> rfl)|(simp [*,errW_none,errW_some] <;> rfl),by repeat (first|(with_reducible first|exact HB.out|apply below_alloc|apply pw_below_drewN|apply below_drew1|refine below_set ?_ GE120.out)|exact HB.out)⟩
          ·replace c23:=Bool.eq_false_iff.mpr c23
           subst c23
           have H1:(some false)=some r:=by rw [if_neg (show ¬ (false=true) by decide)] at H;exact H
           clear H
           have H:=H1
           clear H1
           obtain rfl:=Option.some.inj H
           have hcz26_0:wc.cell? ⟨gb120,0,none⟩=some (.int .i64 a1_0):=(blk_cell BK120.out 0).trans rfl
           have hcz26_1:wc.cell? ⟨gb120,1,none⟩=some (.string a1_1):=(blk_cell BK120.out 1).trans rfl
           have hcz26_2:wc.cell? ⟨gb120,2,none⟩=some (.int .i64 a1_2):=(blk_cell BK120.out 2).trans rfl
           have hcz26_3:wc.cell? ⟨gb120,3,none⟩=some (.int .i64 a1_3):=(blk_cell BK120.out 3).trans rfl
           have hcz26_4:wc.cell? ⟨gb120,4,none⟩=some (.int .i64 a1_4):=(blk_cell BK120.out 4).trans rfl
           have hfz26_0:=blk_frozen BK120.out 0
           have hfz26_1:=blk_frozen BK120.out 1
           have hfz26_2:=blk_frozen BK120.out 2
           have hfz26_3:=blk_frozen BK120.out 3
           have hfz26_4:=blk_frozen BK120.out 4
           go_wp2_with (first|((with_reducible refine gate_callee (f:=66) rfl ?_);refine goesL_ (some 43) rfl rfl Tryd.func66 (by kernel_rfl) rfl #[.slice A0 l0.length c0,.int .i64 a1_3,.int .i64 7] rfl (by (try simp only [List.map_toArray,List.map_cons,List.map_nil]);first|done|rfl|(simp only [List.length_drop,List.length_take];rfl)) ?_;(with_reducible refine (pool_is.calls _ _ l0 a1_3 7 false _ ?side1 ?side2 A22.out).mono ?_);(case side1 => repeat (first|exact (Kd.C_below HR0.out HB.out)|(with_reducible refine Kd.C_alloc ?_ _)|(with_reducible refine Kd.C_drewN ?_ _)|(with_reducible refine Kd.C_drew ?_)));(case side2 => exact HC0.out);rintro e w' ⟨rfl,⟨nd,rfl⟩⟩;refine ⟨_,rfl,?_⟩))
           go_ret
           exact ⟨by first|rfl|(simp [errW_none,errW_some] <;> rfl)|(simp [*,errW_none,errW_some] <;> rfl),by repeat (first|(with_reducible first|exact HB.out|apply below_alloc|apply pw_below_drewN|apply below_drew1|refine below_set ?_ GE120.out)|exact HB.out)⟩
         ·replace c21:=Bool.eq_false_iff.mpr c21
          subst c21
          have H1:(some false)=some r:=by rw [if_neg (show ¬ (false=true) by decide)] at H;exact H
          clear H
          have H:=H1
          clear H1
          obtain rfl:=Option.some.inj H
          go_wp2
          go_ret
          exact ⟨by first|rfl|(simp [errW_none,errW_some] <;> rfl)|(simp [*,errW_none,errW_some] <;> rfl),by repeat (first|(with_reducible first|exact HB.out|apply below_alloc|apply pw_below_drewN|apply below_drew1|refine below_set ?_ GE120.out)|exact HB.out)⟩
end Go.Proofs.YtbgniepcoaiinaaDoor.Px
namespace Go.Proofs.YtbgniepcoaiinaaDoor.Px
open Go.RowKit Go.Proofs.YtbgniepcoaiinaaDoorW.PrintWords Go.Proofs.YtbgniepcoaiinaaDoorW.PrintLast Go.Proofs.YtbgniepcoaiinaaDoorW.PrintMore
set_option linter.unusedVariables false
set_option linter.unusedSimpArgs false
abbrev Cst:=S67
def sameC (c:Cst) (x:Int × ByteArray × Int × Int × Int):Bool:=c.f0==x.1 && (c.f1.toList==x.2.1.toList && (c.f2==x.2.2.1 && (c.f3==x.2.2.2.1 && c.f4==x.2.2.2.2)))
def pool_check.l0:Nat→List Cst→Nat→Option (Option (Int × Int))
 | 0,_,_ => none
 | k + 1,p,i =>
  if i + 1 < p.length then
   (pool_fields.f k (rd_T67 p (i + 1)).f0 (rd_T67 p (i + 1)).f1 (rd_T67 p (i + 1)).f2 (rd_T67 p (i + 1)).f3 (rd_T67 p (i + 1)).f4).bind fun x =>
   if sameC (rd_T67 p (i + 1)) x=true then
    (pool_leads.f k p (rd_T67 p (i + 1)).f0 (rd_T67 p (i + 1)).f1 (rd_T67 p (i + 1)).f2 (rd_T67 p (i + 1)).f3 (rd_T67 p (i + 1)).f4).bind fun t =>
    if t=true then
     (text_Encode.f k (rd_T67 p (i + 1)).f1).bind fun b =>
     if b.2=0 then (if (b.1.length:Int) > 256 then some (some ((i:Int) + 1,20)) else pool_check.l0 k p (i + 1)) else some (some ((i:Int) + 1,20))
    else some (some ((i:Int) + 1,40))
   else some (some ((i:Int) + 1,40))
  else some none
def pool_check.f (k:Nat) (p:List Cst):Option (Option (Int × Int)) :=
 if p.length > 1024 then some (some (0,2)) else if p.length=0 then some (some (0,40)) else if sameC (rd_T67 p 0) (0,⟨#[]⟩,0,0,0)=true then pool_check.l0 k p 0 else some (some (0,40))
def pool_Check.f (k:Nat) (p:List Cst):Option Int:=(pool_check.f k p).bind fun r => some (match r with|none => 0|some (_,y) => y)
def IsWrong (w':World) (r:Option (Int × Int)) (e:Ending):Prop :=
 match r with
 | none => e=.returned .nilIface
 | some q => ∃ g,e=.returned (.iface 98 (.pointer (some ⟨g,0,none⟩)))∧w'.heap[g]?=some (.cells #[.int .i64 q.1,.int .i64 q.2] 105 (0,0))
theorem eqC0 (d:Nat) (w:World) (x0 y0:Int) (x1 y1:ByteArray) (x2 y2:Int) (x3 y3:Int) (x4 y4:Int) :
  (Op.equalIn (d + 2) 67 (.agg #[.int .i64 x0,.string x1,.int .i64 x2,.int .i64 x3,.int .i64 x4]) (.agg #[.int .i64 y0,.string y1,.int .i64 y2,.int .i64 y3,.int .i64 y4])).run Tryd.prog w=.ok (x0==y0 && (x1.toList==y1.toList && (x2==y2 && (x3==y3 && (x4==y4))))) w:=by
 refine eqA_of Tryd.underlying67 (by kernel_rfl) ?_
 refine eqf_cons (by rfl) (by go_simp;rfl) (by go_simp;rfl) (by go_simp) ?_
 refine eqf_cons (by rfl) (by go_simp;rfl) (by go_simp;rfl) (by go_simp) ?_
 refine eqf_cons (by rfl) (by go_simp;rfl) (by go_simp;rfl) (by go_simp) ?_
 refine eqf_cons (by rfl) (by go_simp;rfl) (by go_simp;rfl) (by go_simp) ?_
 exact eqf_last (by rfl) (by go_simp;rfl) (by go_simp;rfl) (by go_simp)
theorem eqC (d:Nat) (W:World) (c:Cst) (x1:Int) (x2:ByteArray) (x3 x4 x5:Int) :
  (Op.equalIn (d + 2) 67 (.agg #[.int .i64 c.f0,.string c.f1,.int .i64 c.f2,.int .i64 c.f3,.int .i64 c.f4]) (.agg #[.int .i64 x1,.string x2,.int .i64 x3,.int .i64 x4,.int .i64 x5])).run Tryd.prog W=.ok (sameC c (x1,x2,x3,x4,x5)) W :=
 eqC0 d W _ _ _ _ _ _ _ _ _ _
attribute [local go_sem high] eqC
set_option maxHeartbeats 80000000 in
set_option maxRecDepth 100000 in
theorem pool_check.calls (k:Nat) (A0:Option Addr) (c0:Nat) (p:List Cst) (r:Option (Int × Int)) (w:World) (hG:Aside0 (GG w)) (hr0:Kd.C k67 w A0 p.length p) (hc0:p.length≤c0) (h:pool_check.f k p=some r) :
  Calls Tryd.prog 51 #[.slice A0 p.length c0] w fun e w' => IsWrong w' r e∧Below w.heap.size w w':=by
 have hu1:=Tryd.underlying67
 have hu2:=Tryd.underlying105
 have HR:=Aside0.mk hr0
 have HC:=Aside0.mk hc0
 have HB0:=Aside0.mk (Below.refl w.heap.size w)
 clear hr0 hc0
 unfold pool_check.f at h
 by_cases c1:p.length > 1024
 ·rw [if_pos c1] at h
  obtain rfl:=Option.some.inj h
  have c1b:decide (1024 < p.length)=true:=decide_eq_true c1
  have c1i:decide ((1024:Int) < (p.length:Int))=true:=decide_eq_true (by omega)
  clear c1 h
  go_enter Tryd.func51,Tryd.ntmps51
  go_wp2_with ((with_reducible refine gate_dst (N:=12) rfl ?_);refine box_event ?hg (N:=12) ?hd (cs:=#[.int .i64 0,.int .i64 2]) (t:=105) ?hr ?_;(case hd => rfl);(case hg => rfl);(case hr => first|(go_simp;done)|(go_simp;rfl));intro gb hg w1 hbox hb;have BK:=Aside0.mk hbox;have HB:=Aside0.mk (below_step HB0.out hb);clear hbox hb hg)
  go_ret
  exact ⟨⟨gb,rfl,BK.out⟩,HB.out⟩
 rw [if_neg c1] at h
 have c1b:decide (1024 < p.length)=false:=decide_eq_false c1
 have c1i:decide ((1024:Int) < (p.length:Int))=false:=decide_eq_false (by omega)
 clear c1
 by_cases c2:p.length=0
 ·rw [if_pos c2] at h
  obtain rfl:=Option.some.inj h
  have c2i:((p.length:Int)==0)=true:=beq_iff_eq.mpr (by omega)
  have c2n:(p.length==0)=true:=beq_iff_eq.mpr c2
  clear c2 h
  go_enter Tryd.func51,Tryd.ntmps51
  go_wp2_with ((with_reducible refine gate_dst (N:=26) rfl ?_);refine box_event ?hg (N:=26) ?hd (cs:=#[.int .i64 0,.int .i64 40]) (t:=105) ?hr ?_;(case hd => rfl);(case hg => rfl);(case hr => first|(go_simp;done)|(go_simp;rfl));intro gb hg w1 hbox hb;have BK:=Aside0.mk hbox;have HB:=Aside0.mk (below_step HB0.out hb);clear hbox hb hg)
  go_ret
  exact ⟨⟨gb,rfl,BK.out⟩,HB.out⟩
 rw [if_neg c2] at h
 have c2i:((p.length:Int)==0)=false:=beq_eq_false_iff_ne.mpr (by omega)
 have HL:=Aside0.mk (show 0 < p.length by omega)
 clear c2
 obtain ⟨ad,ea,hx0,hx1,hx2,hx3,hx4⟩:=at_T67 HR.out 0 (by omega) (by have:=HL.out;omega)
 subst ea
 have qi:(0 < p.length)=True:=eq_true HL.out
 simp only [show ((0:Int)).toNat=0 from rfl,Nat.zero_mul,Addr.add_zero'] at hx0 hx1 hx2 hx3 hx4
 by_cases c3:sameC (rd_T67 p 0) (0,⟨#[]⟩,0,0,0)=true
 ·rw [if_pos c3] at h
  have hEq:sameC (rd_T67 p 0) (0,⟨#[]⟩,0,0,0)=true:=c3
  have HH:=Aside0.mk h
  clear c3 h
  obtain ⟨i0,hi0,_,hsz,_⟩:=info_parts info67
  have hs1:=cut_from (P:=Tryd.prog) 22 67 .i64 Tryd.underlying22 hi0 5 hsz (some ad) p.length c0 1 (by decide) (by have:=HL.out;omega)
  obtain ⟨A1,hA1⟩:∃ A1,A1=(if c0=(1:Int).toNat then some ad else (some ad).map (·.add ((1:Int).toNat * 5))):=⟨_,rfl⟩
  rw [← hA1] at hs1
  have HD:=Aside0.mk (show Kd.C k67 w A1 (p.drop 1).length (p.drop 1) from by rw [hA1];exact Kd.C_drop (m:=1) (c:=c0) HR.out HL.out HC.out)
  clear hA1
  go_enter Tryd.func51,Tryd.ntmps51
  go_wp2
  clear hx0 hx1 hx2 hx3 hx4
  go_loopg [31] k (fun kq v31 w' => ∃ i:Nat,v31=.int .i64 (i:Int)∧Aside0 (pool_check.l0 kq p i=some r)∧Aside0 (kq≤k)∧Aside0 (i + 1≤p.length)∧Aside0 (Below w.heap.size w w'))
  case atStart => exact ⟨0,rfl,HH,⟨Nat.le_refl _⟩,⟨HL.out⟩,HB0⟩
  case round =>
   obtain ⟨i,rfl,HA,HK,HI,HB⟩:=hrel
   cases gk with
   | zero => exact absurd HA.out (by simp [pool_check.l0])
   | succ k1 =>
   have H:=HA.out
   clear HA
   simp only [pool_check.l0] at H
   have hlen:(p.drop 1).length=p.length - 1:=List.length_drop
   by_cases hp:i + 1 < p.length
   ·rw [if_pos hp] at H
    have hpi:decide ((i:Int) < ((p.length - 1:Nat):Int))=true:=decide_eq_true (by omega)
    have hpn:decide (i < p.length - 1)=true:=decide_eq_true (by omega)
    have hpt:(i < p.length - 1)=True:=eq_true (by omega)
    have hge:(0≤(i:Int))=True:=eq_true (by omega)
    have hrd:rd_T67 p ((i:Int) + 1)=rd_T67 (p.drop 1) (i:Int):=by
     unfold rd_T67
     rw [Int.toNat_natCast,show ((i:Int) + 1).toNat=i + 1 by omega,List.getD_eq_getElem?_getD,List.getD_eq_getElem?_getD,List.getElem?_drop,Nat.add_comm]
    rw [hrd] at H
    obtain ⟨a1,ea,hx0,hx1,hx2,hx3,hx4⟩:=at_T67 (Kd.C_below HD.out HB.out) (i:Int) (by omega) (by omega)
    subst ea
    simp only [Int.toNat_natCast] at hx0 hx1 hx2 hx3 hx4
    obtain ⟨cc,hcc⟩:∃ cc,cc=rd_T67 (p.drop 1) (i:Int):=⟨_,rfl⟩
    rw [← hcc] at H hx0 hx1 hx2 hx3 hx4
    have hcap:p.length≤1024:=by simpa using c1b
    have HPI:=Aside0.mk (show i < 1024 from by omega)
    clear hp hcc hrd
    obtain ⟨⟨x1,x2,x3,x4,x5⟩,hf,H⟩:=Option.bind_eq_some_iff.mp H
    have HF:=Aside0.mk hf
    clear hf
    go_wp2_with (first|((with_reducible refine gate_dst (N:=4) rfl ?_);refine box_event ?hg (N:=4) ?hd (cs:=#[.int .i64 0,.string (⟨#[]⟩:ByteArray),.int .i64 0,.int .i64 0,.int .i64 0]) (t:=67) ?hr ?_;(case hd => rfl);(case hg => rfl);(case hr => first|(go_simp;done)|(go_simp;rfl));intro gb hg w1 hbox hb;have BK:=Aside0.mk hbox;have GE:=Aside0.mk (show w.heap.size≤gb from by rw [hg];exact HB.out.size);have HB1:=Aside0.mk (below_step HB.out hb);have hz0:w1.cell? ⟨gb,0,none⟩=some (.int .i64 0):=(blk_cell BK.out 0).trans rfl;have hz1:w1.cell? ⟨gb,1,none⟩=some (.string (⟨#[]⟩:ByteArray)):=(blk_cell BK.out 1).trans rfl;have hz2:w1.cell? ⟨gb,2,none⟩=some (.int .i64 0):=(blk_cell BK.out 2).trans rfl;have hz3:w1.cell? ⟨gb,3,none⟩=some (.int .i64 0):=(blk_cell BK.out 3).trans rfl;have hz4:w1.cell? ⟨gb,4,none⟩=some (.int .i64 0):=(blk_cell BK.out 4).trans rfl;have hf0:=blk_frozen BK.out 0;have hf1:=blk_frozen BK.out 1;have hf2:=blk_frozen BK.out 2;have hf3:=blk_frozen BK.out 3;have hf4:=blk_frozen BK.out 4;clear hbox hb hg)|((with_reducible refine gate_store (t:=67) (p:=4) rfl ?_);refine store_event (t:=67) (p:=4) (v:=?vo_) (w1:=(((((w1.setCell ⟨gb,0,none⟩ (.int .i64 cc.f0)).setCell ⟨gb,1,none⟩ (.string cc.f1)).setCell ⟨gb,2,none⟩ (.int .i64 cc.f2)).setCell ⟨gb,3,none⟩ (.int .i64 cc.f3)).setCell ⟨gb,4,none⟩ (.int .i64 cc.f4))) ?hg ?ho ?hn ?hr ?_;(case ho => rfl);(case hg => rfl);(case hn => rfl);(case hr => first|(go_simp;done)|(go_simp;rfl));intro w2 hw;have BK2:=Aside0.mk (show w2.heap[gb]?=some (.cells #[.int .i64 cc.f0,.string cc.f1,.int .i64 cc.f2,.int .i64 cc.f3,.int .i64 cc.f4] 67 (0,0)) from by rw [hw];refine blk_put (cs:=#[.int .i64 cc.f0,.string cc.f1,.int .i64 cc.f2,.int .i64 cc.f3,.int .i64 0]) ?_ 4 _ rfl;refine blk_put (cs:=#[.int .i64 cc.f0,.string cc.f1,.int .i64 cc.f2,.int .i64 0,.int .i64 0]) ?_ 3 _ rfl;refine blk_put (cs:=#[.int .i64 cc.f0,.string cc.f1,.int .i64 0,.int .i64 0,.int .i64 0]) ?_ 2 _ rfl;refine blk_put (cs:=#[.int .i64 cc.f0,.string (⟨#[]⟩:ByteArray),.int .i64 0,.int .i64 0,.int .i64 0]) ?_ 1 _ rfl;refine blk_put (cs:=#[.int .i64 0,.string (⟨#[]⟩:ByteArray),.int .i64 0,.int .i64 0,.int .i64 0]) ?_ 0 _ rfl;exact BK.out);have HB2:=Aside0.mk (show Below w.heap.size w w2 from by rw [hw];refine below_set ?_ GE.out;refine below_set ?_ GE.out;refine below_set ?_ GE.out;refine below_set ?_ GE.out;refine below_set ?_ GE.out;exact HB1.out);have hc0:w2.cell? ⟨gb,0,none⟩=some (.int .i64 cc.f0):=(blk_cell BK2.out 0).trans rfl;have hc1:w2.cell? ⟨gb,1,none⟩=some (.string cc.f1):=(blk_cell BK2.out 1).trans rfl;have hc2:w2.cell? ⟨gb,2,none⟩=some (.int .i64 cc.f2):=(blk_cell BK2.out 2).trans rfl;have hc3:w2.cell? ⟨gb,3,none⟩=some (.int .i64 cc.f3):=(blk_cell BK2.out 3).trans rfl;have hc4:w2.cell? ⟨gb,4,none⟩=some (.int .i64 cc.f4):=(blk_cell BK2.out 4).trans rfl;clear hw))
    by_cases hs:sameC cc (x1,x2,x3,x4,x5)=true
    ·rw [if_pos hs] at H
     have hEqc:sameC cc (x1,x2,x3,x4,x5)=true:=hs
     have hwi:wrap64 ((i:Int) + 1)=(i:Int) + 1:=by have:=HPI.out;unfold wrap64;omega
     clear hs
     obtain ⟨t,hld,H⟩:=Option.bind_eq_some_iff.mp H
     have HLD:=Aside0.mk hld
     clear hld
     cases t with
     | false =>
      rw [if_neg (by simp)] at H
      obtain rfl:=Option.some.inj H
      clear H
      refine start_ (n:=10) (S:=fun w' => w'.cell? ⟨gb,0,none⟩=some (.int .i64 cc.f0)∧w'.cell? ⟨gb,1,none⟩=some (.string cc.f1)∧w'.cell? ⟨gb,2,none⟩=some (.int .i64 cc.f2)∧w'.cell? ⟨gb,3,none⟩=some (.int .i64 cc.f3)∧w'.cell? ⟨gb,4,none⟩=some (.int .i64 cc.f4)) (ds:=[]) #[false,false,false,false,false,false,false,false,false,false] (by kernel_rfl) rfl rfl ⟨hc0,hc1,hc2,hc3,hc4⟩ (fun hHeld => ?_)
      refine take_ (i:=0) (N:=some 36) (v:=?_) (a':=?_) #[true,false,false,false,false,false,false,false,false,false] rfl rfl (by kernel_rfl) (fun _ _ _ h => h) (Or.inl ⟨by rfl,?_⟩) hHeld ?_ ?_
      rotate_left
      ·rintro w' ⟨s0,s1,s2,s3,s4⟩
       go_simp
       with_reducible rfl
      rotate_left
      ·simp only [Act.put,List.setIfInBounds_toArray,List.set_cons_zero,List.set_cons_succ,i64_w,i32_w]
       rfl
      refine take_ (i:=1) (N:=some 37) (v:=?_) (a':=?_) #[true,true,false,false,false,false,false,false,false,false] rfl rfl (by kernel_rfl) (fun _ _ _ h => h) (Or.inl ⟨by rfl,?_⟩) hHeld ?_ ?_
      rotate_left
      ·rintro w' ⟨s0,s1,s2,s3,s4⟩
       go_simp
       with_reducible rfl
      rotate_left
      ·simp only [Act.put,List.setIfInBounds_toArray,List.set_cons_zero,List.set_cons_succ,i64_w,i32_w]
       rfl
      refine one_ (i:=2) (N:=some 38) #[true,true,true,false,false,false,false,false,false,false] rfl rfl (by kernel_rfl) (by decide) (fun K hK => ?_)
      refine goes_ Tryd.func76 (by kernel_rfl) rfl #[.agg #[.int .i64 cc.f0,.string cc.f1,.int .i64 cc.f2,.int .i64 cc.f3,.int .i64 cc.f4]] (by rfl) rfl rfl (by simp only [List.map_toArray,List.map_cons,List.map_nil];rfl) ?_
      with_reducible refine (pool_fields.calls k1 cc.f0 cc.f1 cc.f2 cc.f3 cc.f4 x1 x2 x3 x4 x5 _ HF.out).mono ?_
      rintro e w3 ⟨rfl,hb3⟩
      refine ⟨_,rfl,?_⟩
      have BK3:=Aside0.mk (blk_below (by first|exact BK2.out|exact blk_drewN BK2.out _|exact blk_drew BK2.out) hb3)
      have HB3:=Aside0.mk (below_step (by first|exact HB2.out|exact pw_below_drewN HB2.out _|exact below_drew1 HB2.out) hb3)
      clear hb3
      refine hK.out _ _ ⟨(blk_cell BK3.out 0).trans rfl,(blk_cell BK3.out 1).trans rfl,(blk_cell BK3.out 2).trans rfl,(blk_cell BK3.out 3).trans rfl,(blk_cell BK3.out 4).trans rfl⟩ (fun hHeld => ?_)
      clear hK K
      refine norm_ (a':=?_) ?_ ?_
      rotate_left
      ·show Act.put _ (some 38) _=_
       simp only [Act.put,List.setIfInBounds_toArray,List.set_cons_zero,List.set_cons_succ,i64_w,i32_w]
       rfl
      refine pure_ (i:=3) (N:=some 39) (v:=?_) (a':=?_) #[true,true,true,true,false,false,false,false,false,false] rfl rfl (by kernel_rfl) (fun _ _ _ h => h) (Or.inl ⟨by rfl,?_⟩) ?_ ?_
      rotate_left
      ·intro w'
       go_simp
       with_reducible rfl
      rotate_left
      ·simp only [Act.put,List.setIfInBounds_toArray,List.set_cons_zero,List.set_cons_succ,i64_w,i32_w]
       rfl
      refine pure_ (i:=4) (N:=some 40) (v:=?_) (a':=?_) #[true,true,true,true,true,false,false,false,false,false] rfl rfl (by kernel_rfl) (fun _ _ _ h => h) (Or.inl ⟨by rfl,?_⟩) ?_ ?_
      rotate_left
      ·intro w'
       go_simp
       with_reducible rfl
      rotate_left
      ·simp only [Act.put,List.setIfInBounds_toArray,List.set_cons_zero,List.set_cons_succ,i64_w,i32_w]
       rfl
      refine pure_ (i:=5) (N:=some 41) (v:=?_) (a':=?_) #[true,true,true,true,true,true,false,false,false,false] rfl rfl (by kernel_rfl) (fun _ _ _ h => h) (Or.inl ⟨by rfl,?_⟩) ?_ ?_
      rotate_left
      ·intro w'
       go_simp
       with_reducible rfl
      rotate_left
      ·simp only [Act.put,List.setIfInBounds_toArray,List.set_cons_zero,List.set_cons_succ,i64_w,i32_w]
       rfl
      refine take_ (i:=6) (N:=some 42) (v:=?_) (a':=?_) #[true,true,true,true,true,true,true,false,false,false] rfl rfl (by kernel_rfl) (fun _ _ _ h => h) (Or.inl ⟨by rfl,?_⟩) hHeld ?_ ?_
      rotate_left
      ·rintro w' ⟨s0,s1,s2,s3,s4⟩
       go_simp
       with_reducible rfl
      rotate_left
      ·simp only [Act.put,List.setIfInBounds_toArray,List.set_cons_zero,List.set_cons_succ,i64_w,i32_w]
       rfl
      refine one_ (i:=7) (N:=some 43) #[true,true,true,true,true,true,true,true,false,false] rfl rfl (by kernel_rfl) (by decide) (fun K hK => ?_)
      refine goes_ Tryd.func77 (by kernel_rfl) rfl #[.slice (some ad) p.length c0,.agg #[.int .i64 cc.f0,.string cc.f1,.int .i64 cc.f2,.int .i64 cc.f3,.int .i64 cc.f4]] (by rfl) rfl rfl (by simp only [List.map_toArray,List.map_cons,List.map_nil];rfl) ?_
      with_reducible refine (pool_leads.calls k1 (some ad) c0 p cc.f0 cc.f1 cc.f2 cc.f3 cc.f4 false _ (Kd.C_below (Kd.C_below HR.out HB3.out) (by first|exact Below.refl _ _|exact pw_below_drewN (Below.refl _ _) _)) HC.out HLD.out).mono ?_
      rintro e w5 ⟨rfl,hb5⟩
      refine ⟨_,rfl,?_⟩
      have BK5:=Aside0.mk (blk_below (by first|exact BK3.out|exact blk_drewN BK3.out _|exact blk_drew BK3.out) hb5)
      have HB5:=Aside0.mk (below_step (by first|exact HB3.out|exact pw_below_drewN HB3.out _|exact below_drew1 HB3.out) hb5)
      clear hb5
      refine hK.out _ _ ⟨(blk_cell BK5.out 0).trans rfl,(blk_cell BK5.out 1).trans rfl,(blk_cell BK5.out 2).trans rfl,(blk_cell BK5.out 3).trans rfl,(blk_cell BK5.out 4).trans rfl⟩ (fun hHeld => ?_)
      clear hK K
      refine norm_ (a':=?_) ?_ ?_
      rotate_left
      ·show Act.put _ (some 43) _=_
       simp only [Act.put,List.setIfInBounds_toArray,List.set_cons_zero,List.set_cons_succ,i64_w,i32_w]
       rfl
      refine pure_ (i:=8) (N:=some 44) (v:=?_) (a':=?_) #[true,true,true,true,true,true,true,true,true,false] rfl rfl (by kernel_rfl) (fun _ _ _ h => h) (Or.inl ⟨by rfl,?_⟩) ?_ ?_
      rotate_left
      ·intro w'
       go_simp
       with_reducible rfl
      rotate_left
      ·simp only [Act.put,List.setIfInBounds_toArray,List.set_cons_zero,List.set_cons_succ,i64_w,i32_w]
       rfl
      refine pure_ (i:=9) (N:=some 45) (v:=?_) (a':=?_) #[true,true,true,true,true,true,true,true,true,true] rfl rfl (by kernel_rfl) (fun _ _ _ h => h) (Or.inl ⟨by rfl,?_⟩) ?_ ?_
      rotate_left
      ·intro w'
       go_simp
       with_reducible rfl
      rotate_left
      ·simp only [Act.put,List.setIfInBounds_toArray,List.set_cons_zero,List.set_cons_succ,i64_w,i32_w]
       rfl
      refine done_ (by kernel_rfl) ?_
      go_wp2_with ((with_reducible refine gate_dst (N:=49) rfl ?_);refine box_event ?hg (N:=49) ?hd (cs:=#[.int .i64 ((i:Int) + 1),.int .i64 40]) (t:=105) ?hr ?_;(case hd => rfl);(case hg => rfl);(case hr => first|(go_simp;done)|(go_simp;rfl));intro gw hgw w6 hbox hb;have BK6:=Aside0.mk hbox;have HB6:=Aside0.mk (below_step HB5.out hb);clear hbox hb hgw)
      go_ret
      exact ⟨⟨gw,rfl,BK6.out⟩,HB6.out⟩
     | true =>
      rw [if_pos rfl] at H
      obtain ⟨⟨b1,b2⟩,hE,H⟩:=Option.bind_eq_some_iff.mp H
      have HE:=Aside0.mk hE
      have H9:=Aside0.mk H
      clear hE H
      refine start_ (n:=10) (S:=fun w' => w'.cell? ⟨gb,0,none⟩=some (.int .i64 cc.f0)∧w'.cell? ⟨gb,1,none⟩=some (.string cc.f1)∧w'.cell? ⟨gb,2,none⟩=some (.int .i64 cc.f2)∧w'.cell? ⟨gb,3,none⟩=some (.int .i64 cc.f3)∧w'.cell? ⟨gb,4,none⟩=some (.int .i64 cc.f4)) (ds:=[]) #[false,false,false,false,false,false,false,false,false,false] (by kernel_rfl) rfl rfl ⟨hc0,hc1,hc2,hc3,hc4⟩ (fun hHeld => ?_)
      refine take_ (i:=0) (N:=some 36) (v:=?_) (a':=?_) #[true,false,false,false,false,false,false,false,false,false] rfl rfl (by kernel_rfl) (fun _ _ _ h => h) (Or.inl ⟨by rfl,?_⟩) hHeld ?_ ?_
      rotate_left
      ·rintro w' ⟨s0,s1,s2,s3,s4⟩
       go_simp
       with_reducible rfl
      rotate_left
      ·simp only [Act.put,List.setIfInBounds_toArray,List.set_cons_zero,List.set_cons_succ,i64_w,i32_w]
       rfl
      refine take_ (i:=1) (N:=some 37) (v:=?_) (a':=?_) #[true,true,false,false,false,false,false,false,false,false] rfl rfl (by kernel_rfl) (fun _ _ _ h => h) (Or.inl ⟨by rfl,?_⟩) hHeld ?_ ?_
      rotate_left
      ·rintro w' ⟨s0,s1,s2,s3,s4⟩
       go_simp
       with_reducible rfl
      rotate_left
      ·simp only [Act.put,List.setIfInBounds_toArray,List.set_cons_zero,List.set_cons_succ,i64_w,i32_w]
       rfl
      refine one_ (i:=2) (N:=some 38) #[true,true,true,false,false,false,false,false,false,false] rfl rfl (by kernel_rfl) (by decide) (fun K hK => ?_)
      refine goes_ Tryd.func76 (by kernel_rfl) rfl #[.agg #[.int .i64 cc.f0,.string cc.f1,.int .i64 cc.f2,.int .i64 cc.f3,.int .i64 cc.f4]] (by rfl) rfl rfl (by simp only [List.map_toArray,List.map_cons,List.map_nil];rfl) ?_
      with_reducible refine (pool_fields.calls k1 cc.f0 cc.f1 cc.f2 cc.f3 cc.f4 x1 x2 x3 x4 x5 _ HF.out).mono ?_
      rintro e w3 ⟨rfl,hb3⟩
      refine ⟨_,rfl,?_⟩
      have BK3:=Aside0.mk (blk_below (by first|exact BK2.out|exact blk_drewN BK2.out _|exact blk_drew BK2.out) hb3)
      have HB3:=Aside0.mk (below_step (by first|exact HB2.out|exact pw_below_drewN HB2.out _|exact below_drew1 HB2.out) hb3)
      clear hb3
      refine hK.out _ _ ⟨(blk_cell BK3.out 0).trans rfl,(blk_cell BK3.out 1).trans rfl,(blk_cell BK3.out 2).trans rfl,(blk_cell BK3.out 3).trans rfl,(blk_cell BK3.out 4).trans rfl⟩ (fun hHeld => ?_)
      clear hK K
      refine norm_ (a':=?_) ?_ ?_
      rotate_left
      ·show Act.put _ (some 38) _=_
       simp only [Act.put,List.setIfInBounds_toArray,List.set_cons_zero,List.set_cons_succ,i64_w,i32_w]
       rfl
      refine pure_ (i:=3) (N:=some 39) (v:=?_) (a':=?_) #[true,true,true,true,false,false,false,false,false,false] rfl rfl (by kernel_rfl) (fun _ _ _ h => h) (Or.inl ⟨by rfl,?_⟩) ?_ ?_
      rotate_left
      ·intro w'
       go_simp
       with_reducible rfl
      rotate_left
      ·simp only [Act.put,List.setIfInBounds_toArray,List.set_cons_zero,List.set_cons_succ,i64_w,i32_w]
       rfl
      refine pure_ (i:=4) (N:=some 40) (v:=?_) (a':=?_) #[true,true,true,true,true,false,false,false,false,false] rfl rfl (by kernel_rfl) (fun _ _ _ h => h) (Or.inl ⟨by rfl,?_⟩) ?_ ?_
      rotate_left
      ·intro w'
       go_simp
       with_reducible rfl
      rotate_left
      ·simp only [Act.put,List.setIfInBounds_toArray,List.set_cons_zero,List.set_cons_succ,i64_w,i32_w]
       rfl
      refine pure_ (i:=5) (N:=some 41) (v:=?_) (a':=?_) #[true,true,true,true,true,true,false,false,false,false] rfl rfl (by kernel_rfl) (fun _ _ _ h => h) (Or.inl ⟨by rfl,?_⟩) ?_ ?_
      rotate_left
      ·intro w'
       go_simp
       with_reducible rfl
      rotate_left
      ·simp only [Act.put,List.setIfInBounds_toArray,List.set_cons_zero,List.set_cons_succ,i64_w,i32_w]
       rfl
      refine take_ (i:=6) (N:=some 42) (v:=?_) (a':=?_) #[true,true,true,true,true,true,true,false,false,false] rfl rfl (by kernel_rfl) (fun _ _ _ h => h) (Or.inl ⟨by rfl,?_⟩) hHeld ?_ ?_
      rotate_left
      ·rintro w' ⟨s0,s1,s2,s3,s4⟩
       go_simp
       with_reducible rfl
      rotate_left
      ·simp only [Act.put,List.setIfInBounds_toArray,List.set_cons_zero,List.set_cons_succ,i64_w,i32_w]
       rfl
      refine one_ (i:=7) (N:=some 43) #[true,true,true,true,true,true,true,true,false,false] rfl rfl (by kernel_rfl) (by decide) (fun K hK => ?_)
      refine goes_ Tryd.func77 (by kernel_rfl) rfl #[.slice (some ad) p.length c0,.agg #[.int .i64 cc.f0,.string cc.f1,.int .i64 cc.f2,.int .i64 cc.f3,.int .i64 cc.f4]] (by rfl) rfl rfl (by simp only [List.map_toArray,List.map_cons,List.map_nil];rfl) ?_
      with_reducible refine (pool_leads.calls k1 (some ad) c0 p cc.f0 cc.f1 cc.f2 cc.f3 cc.f4 true _ (Kd.C_below (Kd.C_below HR.out HB3.out) (by first|exact Below.refl _ _|exact pw_below_drewN (Below.refl _ _) _)) HC.out HLD.out).mono ?_
      rintro e w5 ⟨rfl,hb5⟩
      refine ⟨_,rfl,?_⟩
      have BK5:=Aside0.mk (blk_below (by first|exact BK3.out|exact blk_drewN BK3.out _|exact blk_drew BK3.out) hb5)
      have HB5:=Aside0.mk (below_step (by first|exact HB3.out|exact pw_below_drewN HB3.out _|exact below_drew1 HB3.out) hb5)
      clear hb5
      refine hK.out _ _ ⟨(blk_cell BK5.out 0).trans rfl,(blk_cell BK5.out 1).trans rfl,(blk_cell BK5.out 2).trans rfl,(blk_cell BK5.out 3).trans rfl,(blk_cell BK5.out 4).trans rfl⟩ (fun hHeld => ?_)
      clear hK K
      refine norm_ (a':=?_) ?_ ?_
      rotate_left
      ·show Act.put _ (some 43) _=_
       simp only [Act.put,List.setIfInBounds_toArray,List.set_cons_zero,List.set_cons_succ,i64_w,i32_w]
       rfl
      refine pure_ (i:=8) (N:=some 44) (v:=?_) (a':=?_) #[true,true,true,true,true,true,true,true,true,false] rfl rfl (by kernel_rfl) (fun _ _ _ h => h) (Or.inl ⟨by rfl,?_⟩) ?_ ?_
      rotate_left
      ·intro w'
       go_simp
       with_reducible rfl
      rotate_left
      ·simp only [Act.put,List.setIfInBounds_toArray,List.set_cons_zero,List.set_cons_succ,i64_w,i32_w]
       rfl
      refine pure_ (i:=9) (N:=some 45) (v:=?_) (a':=?_) #[true,true,true,true,true,true,true,true,true,true] rfl rfl (by kernel_rfl) (fun _ _ _ h => h) (Or.inl ⟨by rfl,?_⟩) ?_ ?_
      rotate_left
      ·intro w'
       go_simp
       with_reducible rfl
      rotate_left
      ·simp only [Act.put,List.setIfInBounds_toArray,List.set_cons_zero,List.set_cons_succ,i64_w,i32_w]
       rfl
      refine done_ (by kernel_rfl) ?_
      have hs1:w5.cell? ⟨gb,1,none⟩=some (.string cc.f1):=(blk_cell BK5.out 1).trans rfl
      have H:=H9.out
      clear H9
      simp only at H
      by_cases he:b2=0
      ·rw [if_pos he] at H
       have heb:(b2 != 0)=false:=bne_eq_false_iff_eq.mpr he
       by_cases hl:(b1.length:Int) > 256
       ·rw [if_pos hl] at H
        obtain rfl:=Option.some.inj H
        have hlb:decide ((256:Int) < (b1.length:Int))=true:=decide_eq_true hl
        have hln:decide (256 < b1.length)=true:=decide_eq_true (by omega)
        clear he hl H
        go_wp2_with fail
        refine (text_Encode.calls k1 cc.f1 b1 b2 _ ⟨GG.below hG.out (by first|exact HB5.out|exact pw_below_drewN HB5.out _|exact below_drew1 HB5.out)⟩ HE.out).mono ?_
        rintro e w6 ⟨v6,rfl,hR6,hb6⟩
        obtain ⟨A6,c6,hv6⟩:=Kd.R_slice hR6
        subst hv6
        have HB6:=Aside0.mk (below_step (by first|exact HB5.out|exact pw_below_drewN HB5.out _|exact below_drew1 HB5.out) hb6)
        clear hR6 hb6
        go_wp2_with ((with_reducible refine gate_dst (N:=67) rfl ?_);refine box_event ?hg (N:=67) ?hd (cs:=#[.int .i64 ((i:Int) + 1),.int .i64 20]) (t:=105) ?hr ?_;(case hd => rfl);(case hg => rfl);(case hr => first|(go_simp;done)|(go_simp;rfl));intro gw hgw w7 hbox hb;have BK9:=Aside0.mk hbox;have HB7:=Aside0.mk (below_step HB6.out hb);clear hbox hb hgw)
        go_ret
        exact ⟨⟨gw,rfl,BK9.out⟩,HB7.out⟩
       ·rw [if_neg hl] at H
        have hlb:decide ((256:Int) < (b1.length:Int))=false:=decide_eq_false hl
        have hln:decide (256 < b1.length)=false:=decide_eq_false (by omega)
        have H':=Aside0.mk H
        clear he hl H
        go_wp2_with fail
        refine (text_Encode.calls k1 cc.f1 b1 b2 _ ⟨GG.below hG.out (by first|exact HB5.out|exact pw_below_drewN HB5.out _|exact below_drew1 HB5.out)⟩ HE.out).mono ?_
        rintro e w6 ⟨v6,rfl,hR6,hb6⟩
        obtain ⟨A6,c6,hv6⟩:=Kd.R_slice hR6
        subst hv6
        have HB6:=Aside0.mk (below_step (by first|exact HB5.out|exact pw_below_drewN HB5.out _|exact below_drew1 HB5.out) hb6)
        clear hR6 hb6
        go_wp2
        go_roundg k1
        case measure => have:=HK.out;omega
        case rel => exact ⟨i + 1,congrArg (Value.int .i64) (by omega),H',⟨by have:=HK.out;omega⟩,⟨by have:=of_decide_eq_true hpn;omega⟩,HB6⟩
      ·rw [if_neg he] at H
       obtain rfl:=Option.some.inj H
       have heb:(b2 != 0)=true:=bne_iff_ne.mpr he
       clear he H
       go_wp2_with fail
       refine (text_Encode.calls k1 cc.f1 b1 b2 _ ⟨GG.below hG.out (by first|exact HB5.out|exact pw_below_drewN HB5.out _|exact below_drew1 HB5.out)⟩ HE.out).mono ?_
       rintro e w6 ⟨v6,rfl,hR6,hb6⟩
       obtain ⟨A6,c6,hv6⟩:=Kd.R_slice hR6
       subst hv6
       have HB6:=Aside0.mk (below_step (by first|exact HB5.out|exact pw_below_drewN HB5.out _|exact below_drew1 HB5.out) hb6)
       clear hR6 hb6
       go_wp2_with ((with_reducible refine gate_dst (N:=67) rfl ?_);refine box_event ?hg (N:=67) ?hd (cs:=#[.int .i64 ((i:Int) + 1),.int .i64 20]) (t:=105) ?hr ?_;(case hd => rfl);(case hg => rfl);(case hr => first|(go_simp;done)|(go_simp;rfl));intro gw hgw w7 hbox hb;have BK9:=Aside0.mk hbox;have HB7:=Aside0.mk (below_step HB6.out hb);clear hbox hb hgw)
       go_ret
       exact ⟨⟨gw,rfl,BK9.out⟩,HB7.out⟩
    ·rw [if_neg hs] at H
     obtain rfl:=Option.some.inj H
     have hEqc:sameC cc (x1,x2,x3,x4,x5)=false:=by simpa using hs
     clear hs H
     refine start_ (n:=10) (S:=fun w' => w'.cell? ⟨gb,0,none⟩=some (.int .i64 cc.f0)∧w'.cell? ⟨gb,1,none⟩=some (.string cc.f1)∧w'.cell? ⟨gb,2,none⟩=some (.int .i64 cc.f2)∧w'.cell? ⟨gb,3,none⟩=some (.int .i64 cc.f3)∧w'.cell? ⟨gb,4,none⟩=some (.int .i64 cc.f4)) (ds:=[]) #[false,false,false,false,false,false,false,false,false,false] (by kernel_rfl) rfl rfl ⟨hc0,hc1,hc2,hc3,hc4⟩ (fun hHeld => ?_)
     refine take_ (i:=0) (N:=some 36) (v:=?_) (a':=?_) #[true,false,false,false,false,false,false,false,false,false] rfl rfl (by kernel_rfl) (fun _ _ _ h => h) (Or.inl ⟨by rfl,?_⟩) hHeld ?_ ?_
     rotate_left
     ·rintro w' ⟨s0,s1,s2,s3,s4⟩
      go_simp
      with_reducible rfl
     rotate_left
     ·simp only [Act.put,List.setIfInBounds_toArray,List.set_cons_zero,List.set_cons_succ,i64_w,i32_w]
      rfl
     refine take_ (i:=1) (N:=some 37) (v:=?_) (a':=?_) #[true,true,false,false,false,false,false,false,false,false] rfl rfl (by kernel_rfl) (fun _ _ _ h => h) (Or.inl ⟨by rfl,?_⟩) hHeld ?_ ?_
     rotate_left
     ·rintro w' ⟨s0,s1,s2,s3,s4⟩
      go_simp
      with_reducible rfl
     rotate_left
     ·simp only [Act.put,List.setIfInBounds_toArray,List.set_cons_zero,List.set_cons_succ,i64_w,i32_w]
      rfl
     refine one_ (i:=2) (N:=some 38) #[true,true,true,false,false,false,false,false,false,false] rfl rfl (by kernel_rfl) (by decide) (fun K hK => ?_)
     refine goes_ Tryd.func76 (by kernel_rfl) rfl #[.agg #[.int .i64 cc.f0,.string cc.f1,.int .i64 cc.f2,.int .i64 cc.f3,.int .i64 cc.f4]] (by rfl) rfl rfl (by simp only [List.map_toArray,List.map_cons,List.map_nil];rfl) ?_
     with_reducible refine (pool_fields.calls k1 cc.f0 cc.f1 cc.f2 cc.f3 cc.f4 x1 x2 x3 x4 x5 _ HF.out).mono ?_
     rintro e w3 ⟨rfl,hb3⟩
     refine ⟨_,rfl,?_⟩
     have BK3:=Aside0.mk (blk_below (by first|exact BK2.out|exact blk_drewN BK2.out _|exact blk_drew BK2.out) hb3)
     have HB3:=Aside0.mk (below_step (by first|exact HB2.out|exact pw_below_drewN HB2.out _|exact below_drew1 HB2.out) hb3)
     clear hb3
     refine hK.out _ _ ⟨(blk_cell BK3.out 0).trans rfl,(blk_cell BK3.out 1).trans rfl,(blk_cell BK3.out 2).trans rfl,(blk_cell BK3.out 3).trans rfl,(blk_cell BK3.out 4).trans rfl⟩ (fun hHeld => ?_)
     clear hK K
     refine norm_ (a':=?_) ?_ ?_
     rotate_left
     ·show Act.put _ (some 38) _=_
      simp only [Act.put,List.setIfInBounds_toArray,List.set_cons_zero,List.set_cons_succ,i64_w,i32_w]
      rfl
     refine pure_ (i:=3) (N:=some 39) (v:=?_) (a':=?_) #[true,true,true,true,false,false,false,false,false,false] rfl rfl (by kernel_rfl) (fun _ _ _ h => h) (Or.inl ⟨by rfl,?_⟩) ?_ ?_
     rotate_left
     ·intro w'
      go_simp
      with_reducible rfl
     rotate_left
     ·simp only [Act.put,List.setIfInBounds_toArray,List.set_cons_zero,List.set_cons_succ,i64_w,i32_w]
      rfl
     refine pure_ (i:=4) (N:=some 40) (v:=?_) (a':=?_) #[true,true,true,true,true,false,false,false,false,false] rfl rfl (by kernel_rfl) (fun _ _ _ h => h) (Or.inl ⟨by rfl,?_⟩) ?_ ?_
     rotate_left
     ·intro w'
      go_simp
      with_reducible rfl
     rotate_left
     ·simp only [Act.put,List.setIfInBounds_toArray,List.set_cons_zero,List.set_cons_succ,i64_w,i32_w]
      rfl
     refine pure_ (i:=5) (N:=some 41) (v:=undef) (a':=?_) #[true,true,true,true,true,true,false,false,false,false] rfl rfl (by kernel_rfl) (fun _ _ _ h => h) (Or.inr ⟨by rfl,rfl⟩) ?_ ?_
     rotate_left
     ·simp only [Act.put,List.setIfInBounds_toArray,List.set_cons_zero,List.set_cons_succ,i64_w,i32_w]
      rfl
     refine pure_ (i:=6) (N:=some 42) (v:=undef) (a':=?_) #[true,true,true,true,true,true,true,false,false,false] rfl rfl (by kernel_rfl) (fun _ _ _ h => h) (Or.inr ⟨by rfl,rfl⟩) ?_ ?_
     rotate_left
     ·simp only [Act.put,List.setIfInBounds_toArray,List.set_cons_zero,List.set_cons_succ,i64_w,i32_w]
      rfl
     refine pure_ (i:=7) (N:=some 43) (v:=undef) (a':=?_) #[true,true,true,true,true,true,true,true,false,false] rfl rfl (by kernel_rfl) (fun _ _ _ h => h) (Or.inr ⟨by rfl,rfl⟩) ?_ ?_
     rotate_left
     ·simp only [Act.put,List.setIfInBounds_toArray,List.set_cons_zero,List.set_cons_succ,i64_w,i32_w]
      rfl
     refine pure_ (i:=8) (N:=some 44) (v:=undef) (a':=?_) #[true,true,true,true,true,true,true,true,true,false] rfl rfl (by kernel_rfl) (fun _ _ _ h => h) (Or.inr ⟨by rfl,rfl⟩) ?_ ?_
     rotate_left
     ·simp only [Act.put,List.setIfInBounds_toArray,List.set_cons_zero,List.set_cons_succ,i64_w,i32_w]
      rfl
     refine pure_ (i:=9) (N:=some 45) (v:=?_) (a':=?_) #[true,true,true,true,true,true,true,true,true,true] rfl rfl (by kernel_rfl) (fun _ _ _ h => h) (Or.inl ⟨by rfl,?_⟩) ?_ ?_
     rotate_left
     ·intro w'
      go_simp
      with_reducible rfl
     rotate_left
     ·simp only [Act.put,List.setIfInBounds_toArray,List.set_cons_zero,List.set_cons_succ,i64_w,i32_w]
      rfl
     refine done_ (by kernel_rfl) ?_
     have hwi:wrap64 ((i:Int) + 1)=(i:Int) + 1:=by have:=HPI.out;unfold wrap64;omega
     go_wp2_with ((with_reducible refine gate_dst (N:=49) rfl ?_);refine box_event ?hg (N:=49) ?hd (cs:=#[.int .i64 ((i:Int) + 1),.int .i64 40]) (t:=105) ?hr ?_;(case hd => rfl);(case hg => rfl);(case hr => first|(go_simp;done)|(go_simp;rfl));intro gw hgw w4 hbox hb;have BK4:=Aside0.mk hbox;have HB4:=Aside0.mk (below_step HB3.out hb);clear hbox hb hgw)
     go_ret
     exact ⟨⟨gw,rfl,BK4.out⟩,HB4.out⟩
   ·rw [if_neg hp] at H
    obtain rfl:=Option.some.inj H
    have hpi:decide ((i:Int) < ((p.length - 1:Nat):Int))=false:=decide_eq_false (by omega)
    have hpn:decide (i < p.length - 1)=false:=decide_eq_false (by omega)
    clear hp H
    go_wp2
    go_ret
    exact ⟨rfl,HB.out⟩
 ·rw [if_neg c3] at h
  obtain rfl:=Option.some.inj h
  have c3b:sameC (rd_T67 p 0) (0,⟨#[]⟩,0,0,0)=false:=by simpa using c3
  have hEq:=c3b
  clear c3 h c3b
  go_enter Tryd.func51,Tryd.ntmps51
  go_wp2_with ((with_reducible refine gate_dst (N:=26) rfl ?_);refine box_event ?hg (N:=26) ?hd (cs:=#[.int .i64 0,.int .i64 40]) (t:=105) ?hr ?_;(case hd => rfl);(case hg => rfl);(case hr => first|(go_simp;done)|(go_simp;rfl));intro gb hg w1 hbox hb;have BK:=Aside0.mk hbox;have HB:=Aside0.mk (below_step HB0.out hb);clear hbox hb hg)
  go_ret
  exact ⟨⟨gb,rfl,BK.out⟩,HB.out⟩
theorem pool_check.mono_l:∀ k p i,LeO (pool_check.l0 k p i) (pool_check.l0 (k + 1) p i)
 | 0 => fun _ _ r h => by simp [pool_check.l0] at h
 | k + 1 => fun p i => by
  unfold pool_check.l0
  exact LeO.ite (LeO.bind (pool_fields.mono _ _ _ _ _ _) (fun _ => LeO.ite (LeO.bind (pool_leads.mono _ _ _ _ _ _ _) (fun _ => LeO.ite (LeO.bind (text_Encode.mono _ _) (fun _ => LeO.ite (LeO.ite (LeO.refl _) (pool_check.mono_l k _ _)) (LeO.refl _))) (LeO.refl _))) (LeO.refl _))) (LeO.refl _)
theorem pool_check.mono (p:List Cst) (k:Nat):LeO (pool_check.f k p) (pool_check.f (k + 1) p):=by
 unfold pool_check.f
 exact LeO.ite (LeO.refl _) (LeO.ite (LeO.refl _) (LeO.ite (pool_check.mono_l _ _ _) (LeO.refl _)))
theorem pool_Check.mono:∀ (p:List Cst) k,LeO (pool_Check.f k p) (pool_Check.f (k + 1) p):=by
 intro p k
 unfold pool_Check.f
 exact LeO.bind (pool_check.mono p k) (fun _ => LeO.refl _)
theorem as_at (B:Nat) (w0 w:World) (g gb:Nat) (x y:Int) (hB:Below B w0 w) (hgb:B≤gb) (hbk:w.heap[gb]?=some (.cells #[.pointer none] 98 (0,0))) (hbg:w.heap[g]?=some (.cells #[.int .i64 x,.int .i64 y] 105 (0,0))) (hG:GG w) (hBs:B≤w.heap.size) :
  Calls Tryd.prog 50 #[.iface 98 (.pointer (some ⟨g,0,none⟩)),.iface 103 (.pointer (some ⟨gb,0,none⟩))] w fun ev w' => ev=.returned (.bool true)∧w'.cell? ⟨gb,0,none⟩=some (.pointer (some ⟨g,0,none⟩))∧w'.cell? ⟨g,1,none⟩=some (.int .i64 y)∧Below B w0 w':=by
 have hne:gb ≠ g:=by
  rintro rfl
  rw [hbk] at hbg
  cases hbg
 have hl1:=blk_lt hbk
 have hl2:=blk_lt hbg
 refine (as_hit ⟨g,0,none⟩ ⟨gb,0,none⟩ (.pointer none) w hG.et ((blk_cell hbk 0).trans rfl) (blk_frozen hbk 0)).mono ?_
 rintro ev w' ⟨rfl,rfl⟩
 refine ⟨rfl,?_,?_,?_⟩
 ·refine World.cell?_setCell_same (u:=.pointer none) _ _ _ ?_
  rw [World.cell?_alloc_lt _ _ ⟨gb,0,none⟩ (by simp <;> omega),World.cell?_alloc_lt _ _ ⟨gb,0,none⟩ (by simp <;> omega),World.cell?_alloc_lt _ _ ⟨gb,0,none⟩ (by simp <;> omega),World.cell?_alloc_lt _ _ ⟨gb,0,none⟩ hl1]
  exact (blk_cell hbk 0).trans rfl
 ·rw [World.cell?_setCell_far _ _ _ _ hne]
  rw [World.cell?_alloc_lt _ _ ⟨g,1,none⟩ (by simp <;> omega),World.cell?_alloc_lt _ _ ⟨g,1,none⟩ (by simp <;> omega),World.cell?_alloc_lt _ _ ⟨g,1,none⟩ (by simp <;> omega),World.cell?_alloc_lt _ _ ⟨g,1,none⟩ hl2]
  exact (blk_cell hbg 1).trans rfl
 ·exact ((((hB.alloc hBs _).alloc (by simp <;> omega) _).alloc (by simp <;> omega) _).alloc (by simp <;> omega) _).setCell hgb _
set_option maxHeartbeats 4000000 in
set_option maxRecDepth 100000 in
theorem pool_Check.calls (k:Nat) (A0:Option Addr) (c0:Nat) (p:List Cst) (r1:Int) (w:World) (hG:Aside0 (GG w)) (hr0:Kd.C k67 w A0 p.length p) (hc0:p.length≤c0) (h:pool_Check.f k p=some r1) :
  Calls Tryd.prog 29 #[.slice A0 p.length c0] w fun e w' => e=.returned (.int .i64 r1)∧Below w.heap.size w w':=by
 have HR:=Aside0.mk hr0
 have HC:=Aside0.mk hc0
 have HB0:=Aside0.mk (Below.refl w.heap.size w)
 clear hr0 hc0
 unfold pool_Check.f at h
 obtain ⟨r,hr,h⟩:=Option.bind_eq_some_iff.mp h
 have HF:=Aside0.mk hr
 clear hr
 go_enter Tryd.func29,Tryd.ntmps29
 go_wp2_with ((with_reducible refine gate_dst (N:=3) rfl ?_);refine box_event ?hg (N:=3) ?hd (cs:=#[.pointer none]) (t:=98) ?hr ?_;(case hd => rfl);(case hg => rfl);(case hr => first|(go_simp;done)|(go_simp;rfl));intro gb hg w1 hbox hb;have BK:=Aside0.mk hbox;have GE:=Aside0.mk (show w.heap.size≤gb from by rw [hg];exact Nat.le_refl _);have HB1:=Aside0.mk (below_step HB0.out hb);clear hbox hb hg)
 refine (pool_check.calls k A0 c0 p r _ ⟨GG.below hG.out HB1.out⟩ (Kd.C_below HR.out HB1.out) HC.out HF.out).mono ?_
 rintro e w2 ⟨hw,hb2⟩
 have HB2:=Aside0.mk (below_step HB1.out hb2)
 have BK2:=Aside0.mk (blk_below BK.out hb2)
 clear hb2
 cases r with
 | none =>
  obtain rfl:=Option.some.inj h
  obtain rfl:e=.returned .nilIface:=hw
  clear h
  go_wp2_with fail
  refine (as_nil _ _).mono ?_
  rintro e w3 ⟨rfl,rfl⟩
  go_wp2
  go_ret
  exact ⟨rfl,HB2.out⟩
 | some q =>
  obtain ⟨x,y⟩:=q
  obtain rfl:=Option.some.inj h
  obtain ⟨g,rfl,hbg⟩:=hw
  have HBG:=Aside0.mk hbg
  clear h hbg
  go_wp2_with fail
  refine (as_at w.heap.size w _ g gb x y HB2.out GE.out BK2.out HBG.out (GG.below hG.out HB2.out) HB2.out.size).mono ?_
  rintro e w3 ⟨rfl,hc1,hc2,hb3⟩
  have HB3:=Aside0.mk hb3
  clear hb3
  go_wp2
  go_ret
  exact ⟨rfl,HB3.out⟩
end Go.Proofs.YtbgniepcoaiinaaDoor.Px
namespace Go.Proofs.YtbgniepcoaiinaaDoor.Px
open Go.RowKit Go.Proofs.YtbgniepcoaiinaaDoorW.PrintWords Go.Proofs.YtbgniepcoaiinaaDoorW.PrintLast Go.Proofs.YtbgniepcoaiinaaDoorW.PrintMore
set_option linter.unusedVariables false
set_option linter.unusedSimpArgs false
def beN:Nat→Int→List Int
 | 0,_ => []
 | n + 1,x => (x / 2 ^ (8 * n) % 256) :: beN n x
theorem beN_length:∀ n x,(beN n x).length=n
 | 0,_ => rfl
 | n + 1,x => by simp [beN,beN_length n x]
structure IsWr (B:Nat) (w:World) (g:Nat) (v:Value) (bs:List Int) (m:Int):Prop where
 ge:B≤g
 blk:w.heap[g]?=some (.cells #[v,.int .i64 m,.bool true] 89 (0,0))
 row:Kd.R (Kd.int .u8) 5 w B (fun _ => True) v bs
structure WrStep (B:Nat) (w w':World) (g:Nat) (v v':Value):Prop where
 below:Below B w w'
 keep:KeepBut w w' g v.ownBlock
 row:v'.ownBlock=v.ownBlock ∨ ∃ b,v'.ownBlock=some b∧w.heap.size≤b
def WrPost (B:Nat) (w:World) (g:Nat) (v:Value) (bs:List Int) (m:Int) (w':World):Prop:=∃ v',IsWr B w' g v' bs m∧WrStep B w w' g v v'
theorem IsWr.lt {B:Nat} {w:World} {g:Nat} {v:Value} {bs:List Int} {m:Int} (h:IsWr B w g v bs m):g < w.heap.size:=blk_lt h.blk
theorem IsWr.cell {B:Nat} {w:World} {g:Nat} {v:Value} {bs:List Int} {m:Int} (h:IsWr B w g v bs m):w.cell? ⟨g,0,none⟩=some v∧w.cell? ⟨g,1,none⟩=some (.int .i64 m)∧w.cell? ⟨g,2,none⟩=some (.bool true) :=
 ⟨(blk_cell h.blk 0).trans rfl,(blk_cell h.blk 1).trans rfl,(blk_cell h.blk 2).trans rfl⟩
theorem IsWr.drewN {B:Nat} {w:World} {g:Nat} {v:Value} {bs:List Int} {m:Int} (h:IsWr B w g v bs m) (n:Nat):IsWr B (w.drewN n) g v bs m:=⟨h.ge,h.blk,Kd.R_drewN h.row n⟩
theorem IsWr.ne {B:Nat} {w:World} {g:Nat} {v:Value} {bs:List Int} {m:Int} (h:IsWr B w g v bs m):some g ≠ v.ownBlock:=Kd.R_ne h.row h.blk (by decide)
theorem WrStep.refl (B:Nat) (w:World) (g:Nat) (v:Value):WrStep B w w g v v:=⟨Below.refl _ _,KeepBut.refl _ _ _,.inl rfl⟩
theorem WrStep.trans {B:Nat} {w w1 w2:World} {g:Nat} {v v1 v2:Value} (h:WrStep B w w1 g v v1) (k:WrStep B w1 w2 g v1 v2):WrStep B w w2 g v v2:=by
 have hs:=h.keep.1
 refine ⟨h.below.trans k.below,h.keep.trans k.keep h.row,?_⟩
 rcases k.row with e|⟨b,e,hb⟩
 ·rw [e];exact h.row
 ·exact .inr ⟨b,e,by omega⟩
theorem WrPost.trans {B:Nat} {w w1 w2:World} {g:Nat} {v v1:Value} {bs:List Int} {m:Int} (h:WrStep B w w1 g v v1) (k:WrPost B w1 g v1 bs m w2):WrPost B w g v bs m w2:=by
 obtain ⟨v2,h2,s2⟩:=k
 exact ⟨v2,h2,h.trans s2⟩
theorem wr_put {B:Nat} {wr w3:World} {g:Nat} {vr v1:Value} {cur cur1:List Int} {m:Int} (h:IsWr B wr g vr cur m) (hb:w3.heap[g]?=some (.cells #[vr,.int .i64 m,.bool true] 89 (0,0))) (hr:Kd.R (Kd.int .u8) 5 w3 B (fun _ => True) v1 cur1):IsWr B (w3.setCell ⟨g,0,none⟩ v1) g v1 cur1 m :=
 ⟨h.ge,blk_set hb 0 v1,Kd.R_set hr hb (by decide) 0 v1⟩
theorem wr_step {B:Nat} {w wr w3:World} {g:Nat} {v vr v1:Value} {cur:List Int} {m:Int} (hs:WrStep B w wr g v vr) (h:IsWr B wr g vr cur m) (hb:Below B w w3) {k:Nat} (hg:(wr.drewN k).grownBy w3 vr.ownBlock) (ho:v1.ownBlock=vr.ownBlock ∨ ∃ b,v1.ownBlock=some b∧(wr.drewN k).heap.size≤b) (u:Value):WrStep B w (w3.setCell ⟨g,0,none⟩ u) g v v1:=by
 have hk:KeepBut wr w3 g vr.ownBlock:=⟨hg.size,fun i hi _ hr => hg.block i hi hr⟩
 refine ⟨hb.setCell (p:=⟨g,0,none⟩) h.ge u,(hs.keep.trans hk hs.row).set_ 0 u,?_⟩
 rcases ho with e|⟨b,e,hbb⟩
 ·rw [e];exact hs.row
 ·exact .inr ⟨b,e,Nat.le_trans hs.keep.1 hbb⟩
theorem IsWr.below {B:Nat} {w w1:World} {g:Nat} {v:Value} {bs:List Int} {m:Int} (h:IsWr B w g v bs m) (hb:Below w.heap.size w w1):IsWr B w1 g v bs m:=⟨h.ge,(hb.block g h.lt).trans h.blk,Kd.R_below h.row hb⟩
theorem IsWr.base_le {B:Nat} {w:World} {g:Nat} {v:Value} {bs:List Int} {m:Int} (h:IsWr B w g v bs m):B≤w.heap.size:=Nat.le_trans h.ge (Nat.le_of_lt h.lt)
theorem IsWr.own_lt {B:Nat} {w:World} {g:Nat} {v:Value} {bs:List Int} {m:Int} (h:IsWr B w g v bs m) (k:Nat) (hk:v.ownBlock=some k):k < w.heap.size:=by
 obtain ⟨inner,ho⟩:=Kd.R_own h.row
 exact Go.Proofs.YtbgniepcoaiinaaDoorW.PrintWords.own_lt ho k hk
structure WrFar (w:World) (g:Nat) (v:Value) (k:Nat):Prop where
 lt:k < w.heap.size
 ne:k ≠ g
 row:some k ≠ v.ownBlock
theorem WrStep.far {B:Nat} {w w1:World} {g k:Nat} {v v1:Value} (h:WrStep B w w1 g v v1) (f:WrFar w g v k):WrFar w1 g v1 k:=by
 refine ⟨Nat.lt_of_lt_of_le f.lt h.keep.1,f.ne,fun e => ?_⟩
 rcases h.row with q|⟨b,q,hb⟩
 ·rw [q] at e;exact f.row e
 ·rw [q] at e;injection e with e;have:=f.lt;omega
theorem WrStep.blk {B:Nat} {w w1:World} {g k:Nat} {v v1:Value} {o:Obj} (h:WrStep B w w1 g v v1) (f:WrFar w g v k) (hb:w.heap[k]?=some o):w1.heap[k]?=some o:=(h.keep.2 k f.lt f.ne f.row).trans hb
theorem IsWr.far_new {B:Nat} {w w1:World} {g k:Nat} {v:Value} {bs:List Int} {m:Int} (h:IsWr B w g v bs m) (hk:w.heap.size≤k) (hl:k < w1.heap.size):WrFar w1 g v k :=
 ⟨hl,fun e => by have:=h.lt;omega,fun e => by have:=h.own_lt k e.symm;omega⟩
theorem WrFar.below {w w1:World} {g k:Nat} {v:Value} (f:WrFar w g v k) (hs:w.heap.size≤w1.heap.size):WrFar w1 g v k:=⟨Nat.lt_of_lt_of_le f.lt hs,f.ne,f.row⟩
theorem WrStep.R {α:Type} {d:Kd α} {e:Nat} {B base:Nat} {w w1:World} {g:Nat} {v v1 u:Value} {ok:Nat→Prop} {xs:List α} (h:WrStep B w w1 g v v1) (hr:d.R e w base ok u xs) (hf:∀ k,base≤k→k < w.heap.size→WrFar w g v k):d.R e w1 base ok u xs :=
 Kd.R_mono (Kd.R_step (Kd.R_bound hr) (fun k hk hl => by have f:=hf k hk.2.1 hl;exact h.keep.2 k f.lt f.ne f.row)) (fun k hk => hk.1)
theorem none_no (g:Nat) (w:World) (h:w.cell? ⟨g,2,none⟩=some (.bool true)):Calls Tryd.prog 41 #[.pointer (some ⟨g,0,none⟩)] w fun e w' => e=.returned (.bool false)∧w=w':=by
 go_enter Tryd.func41,Tryd.ntmps41
 go_wp2
 go_ret
 exact ⟨rfl,rfl⟩
set_option maxHeartbeats 4000000 in
set_option maxRecDepth 100000 in
theorem put_u64.calls (B g:Nat) (v:Value) (bs:List Int) (m x:Int) (n:Nat) (w:World) (hI:IsWr B w g v bs m) (h1:1≤n) (h8:n≤8) (hx:0≤x) (hroom:(bs.length:Int) + n≤m) (hm:m≤1048576) :
  Calls Tryd.prog 38 #[.pointer (some ⟨g,0,none⟩),.int .i64 n,.int .u64 x,.bool true] w fun e w' => e=.returned (.int .i64 0)∧WrPost B w g v (bs++beN n x) m w':=by
 obtain ⟨c0,c1,c2⟩:=hI.cell
 obtain ⟨A,c,rfl⟩:=Kd.R_slice hI.row
 have t1:decide ((n:Int) < 1)=false:=decide_eq_false (by omega)
 have t2:decide ((8:Int) < (n:Int))=false:=decide_eq_false (by omega)
 have t3:decide (m - (bs.length:Int) < (n:Int))=false:=decide_eq_false (by omega)
 have HI:=Aside0.mk hI
 clear hI
 go_enter Tryd.func38,Tryd.ntmps38
 go_wp2_with (go_at_call 41;refine (none_no g _ c2).mono ?_;rintro e w' ⟨rfl,rfl⟩)
 go_quiet (fail)
 go_wp2
 go_loopw [1] (fun vi wr => ∃ (j:Nat) (cur:List Int) (vr:Value),vi=.int .i64 ((j:Int) - 1)∧Aside0 (j≤n)∧Aside0 (cur++beN j x=bs++beN n x)∧Aside0 (IsWr B wr g vr cur m)∧Aside0 (WrStep B w wr g (.slice A bs.length c) vr)) (fun vi _ => (intOf vi + 1).toNat)
 case atStart => exact ⟨n,bs,_,rfl,⟨Nat.le_refl _⟩,⟨rfl⟩,⟨HI.out.drewN _⟩,⟨⟨pw_below_drewN (Below.refl _ _) _,⟨Nat.le_refl _,fun _ _ _ _ => rfl⟩,.inl rfl⟩⟩⟩
 case round =>
  obtain ⟨j,cur,vr,rfl,HJ,HC,HR0,HS⟩:=hrel
  cases j with
  | zero =>
   have hz:decide ((0:Int)≤((0:Nat):Int) - 1)=false:=by decide
   go_wp2
   go_ret
   exact ⟨rfl,_,by have h:=HC.out;simp only [beN,List.append_nil] at h;rw [← h];exact HR0.out,HS.out⟩
  | succ i =>
   have HI:=HR0
   have HR:=Aside0.mk HR0.out.row
   have HB:=Aside0.mk HS.out.below
   have hi:i < 8:=by have:=HJ.out;omega
   have hii:((i + 1:Nat):Int) - 1=(i:Int):=by omega
   rw [hii]
   clear hii
   have hge:decide ((0:Int)≤(i:Int))=true:=decide_eq_true (by omega)
   have hw8:wrap64 (8 * (i:Int))=8 * (i:Int):=by unfold wrap64;omega
   have hw0:0≤8 * (i:Int):=by omega
   have hw64:8 * (i:Int)≤64:=by omega
   have hc0:wr.cell? ⟨g,0,none⟩=some vr:=HI.out.cell.1
   have HNE:=Aside0.mk HI.out.ne
   have HL:Aside0 (cur.length≤1048576):=⟨by have h:=congrArg List.length HC.out;simp [beN_length] at h;omega⟩
   go_wp2
   refine start_ (n:=15) (S:=fun w' => w'.cell? ⟨g,0,none⟩=some vr) (ds:=[14]) #[false,false,false,false,false,false,false,false,false,false,false,false,false,false,false] (by kernel_rfl) rfl rfl (hc0) (fun hHeld => ?_)
   refine pure_ (i:=0) (N:=some 38) (v:=?_) (a':=?_) #[true,false,false,false,false,false,false,false,false,false,false,false,false,false,false] rfl rfl (by kernel_rfl) (fun _ _ _ h => h) (Or.inl ⟨by rfl,?_⟩) ?_ ?_
   rotate_left
   ·intro w'
    go_simp
    with_reducible rfl
   rotate_left
   ·simp only [Act.put,List.setIfInBounds_toArray,List.set_cons_zero,List.set_cons_succ,i64_w,i32_w]
    rfl
   refine pure_ (i:=1) (N:=some 39) (v:=?_) (a':=?_) #[true,true,false,false,false,false,false,false,false,false,false,false,false,false,false] rfl rfl (by kernel_rfl) (fun _ _ _ h => h) (Or.inl ⟨by rfl,?_⟩) ?_ ?_
   rotate_left
   ·intro w'
    go_simp
    with_reducible rfl
   rotate_left
   ·simp only [Act.put,List.setIfInBounds_toArray,List.set_cons_zero,List.set_cons_succ,i64_w,i32_w]
    rfl
   refine pure_ (i:=2) (N:=some 40) (v:=?_) (a':=?_) #[true,true,true,false,false,false,false,false,false,false,false,false,false,false,false] rfl rfl (by kernel_rfl) (fun _ _ _ h => h) (Or.inl ⟨by rfl,?_⟩) ?_ ?_
   rotate_left
   ·intro w'
    go_simp
    with_reducible rfl
   rotate_left
   ·simp only [Act.put,List.setIfInBounds_toArray,List.set_cons_zero,List.set_cons_succ,i64_w,i32_w]
    rfl
   refine pure_ (i:=3) (N:=some 41) (v:=?_) (a':=?_) #[true,true,true,true,false,false,false,false,false,false,false,false,false,false,false] rfl rfl (by kernel_rfl) (fun _ _ _ h => h) (Or.inl ⟨by rfl,?_⟩) ?_ ?_
   rotate_left
   ·intro w'
    go_simp
    with_reducible rfl
   rotate_left
   ·simp only [Act.put,List.setIfInBounds_toArray,List.set_cons_zero,List.set_cons_succ,i64_w,i32_w]
    rfl
   refine pure_ (i:=5) (N:=some 43) (v:=?_) (a':=?_) #[true,true,true,true,false,true,false,false,false,false,false,false,false,false,false] rfl rfl (by kernel_rfl) (fun _ _ _ h => h) (Or.inl ⟨by rfl,?_⟩) ?_ ?_
   rotate_left
   ·intro w'
    go_simp
    with_reducible rfl
   rotate_left
   ·simp only [Act.put,List.setIfInBounds_toArray,List.set_cons_zero,List.set_cons_succ,i64_w,i32_w]
    rfl
   refine pure_ (i:=6) (N:=some 44) (v:=?_) (a':=?_) #[true,true,true,true,false,true,true,false,false,false,false,false,false,false,false] rfl rfl (by kernel_rfl) (fun _ _ _ h => h) (Or.inl ⟨by rfl,?_⟩) ?_ ?_
   rotate_left
   ·intro w'
    go_simp
    with_reducible rfl
   rotate_left
   ·simp only [Act.put,List.setIfInBounds_toArray,List.set_cons_zero,List.set_cons_succ,i64_w,i32_w]
    rfl
   refine pure_ (i:=7) (N:=some 45) (v:=?_) (a':=?_) #[true,true,true,true,false,true,true,true,false,false,false,false,false,false,false] rfl rfl (by kernel_rfl) (fun _ _ _ h => h) (Or.inl ⟨by rfl,?_⟩) ?_ ?_
   rotate_left
   ·intro w'
    go_simp
    with_reducible rfl
   rotate_left
   ·simp only [Act.put,List.setIfInBounds_toArray,List.set_cons_zero,List.set_cons_succ,i64_w,i32_w]
    rfl
   refine pure_ (i:=8) (N:=some 46) (v:=?_) (a':=?_) #[true,true,true,true,false,true,true,true,true,false,false,false,false,false,false] rfl rfl (by kernel_rfl) (fun _ _ _ h => h) (Or.inl ⟨by rfl,?_⟩) ?_ ?_
   rotate_left
   ·intro w'
    go_simp
    with_reducible rfl
   rotate_left
   ·simp only [Act.put,List.setIfInBounds_toArray,List.set_cons_zero,List.set_cons_succ,i64_w,i32_w]
    rfl
   refine pure_ (i:=9) (N:=some 47) (v:=?_) (a':=?_) #[true,true,true,true,false,true,true,true,true,true,false,false,false,false,false] rfl rfl (by kernel_rfl) (fun _ _ _ h => h) (Or.inl ⟨by rfl,?_⟩) ?_ ?_
   rotate_left
   ·intro w'
    go_simp
    with_reducible rfl
   rotate_left
   ·simp only [Act.put,List.setIfInBounds_toArray,List.set_cons_zero,List.set_cons_succ,i64_w,i32_w]
    rfl
   refine take_ (i:=4) (N:=some 42) (v:=?_) (a':=?_) #[true,true,true,true,true,true,true,true,true,true,false,false,false,false,false] rfl rfl (by kernel_rfl) (fun _ _ _ h => h) (Or.inl ⟨by rfl,?_⟩) hHeld ?_ ?_
   rotate_left
   ·intro w' s0
    go_simp
    with_reducible rfl
   rotate_left
   ·simp only [Act.put,List.setIfInBounds_toArray,List.set_cons_zero,List.set_cons_succ,i64_w,i32_w]
    rfl
   refine one_ (i:=10) (N:=some 48) #[true,true,true,true,true,true,true,true,true,true,true,false,false,false,false] rfl rfl (by kernel_rfl) (by decide) (fun K hK => ?_)
   refine value_ (w1:=?_) (v:=?_) (by rfl) rfl ?_ ?_
   rotate_left 2
   ·go_simp
    constructor
    ·rfl
    ·rfl
   refine hK.out _ _ ((by first|exact pw_cell_below ((Below.refl _ _).alloc (Nat.le_refl _) _) hHeld)) (fun hHeld => ?_)
   clear hK K
   refine norm_ (a':=?_) ?_ ?_
   rotate_left
   ·show Act.put _ (some 48) _=_
    simp only [Act.put,List.setIfInBounds_toArray,List.set_cons_zero,List.set_cons_succ,i64_w,i32_w]
    rfl
   refine one_ (i:=11) (N:=some 49) #[true,true,true,true,true,true,true,true,true,true,true,true,false,false,false] rfl rfl (by kernel_rfl) (by decide) (fun K hK => ?_)
   refine Kd.R_append_step (Kd.int .u8) (w0:=w) B (by rfl) (.tmp 42) (.tmp 48) 27 5 (.int .u8 0) 1 (by rfl) Tryd.underlying27 info5 rfl (by decide) (by decide) vr cur (x / 2 ^ (8 * i) % 256) [.int .u8 (x / 2 ^ (8 * i) % 256)] (fun _ => True) (fun _ => False) (by rfl) (by rfl) rfl (fun _ h => h.elim) (fun _ _ => trivial) (Kd.R_drewN HR.out 1) (pw_below_drewN HB.out 1) (by have:=HB.out.size;have:=HI.out.ge;have:=HI.out.lt;show B≤wr.heap.size;omega) (by have:=HL.out;omega) ?_
   intro v1 w3 hR3 hB3 hg3 ho3
   have HR3:=Aside0.mk hR3
   have HB3:=Aside0.mk hB3
   have HG3:=Aside0.mk hg3
   have HO3:=Aside0.mk ho3
   have hbk3:=blk_grown (w:=wr.drew) (show wr.drew.heap[g]?=some (.cells #[vr,.int .i64 m,.bool true] 89 (0,0)) from HI.out.blk) hg3 HNE.out
   have hc3:w3.cell? ⟨g,0,none⟩=some vr:=(blk_cell hbk3 0).trans rfl
   have hf3:=blk_frozen hbk3 0
   have HBK3:=Aside0.mk hbk3
   obtain ⟨A1,cp1,hv1⟩:=Kd.R_slice hR3
   simp only [List.length_append,List.length_singleton] at hv1
   subst hv1
   clear hR3 hB3 hg3 ho3 hbk3
   refine hK.out _ _ (hc3) (fun hHeld => ?_)
   clear hK K
   refine norm_ (a':=?_) ?_ ?_
   rotate_left
   ·show Act.put _ (some 49) _=_
    simp only [Act.put,List.setIfInBounds_toArray,List.set_cons_zero,List.set_cons_succ,i64_w,i32_w]
    rfl
   refine pure_ (i:=12) (N:=some 50) (v:=?_) (a':=?_) #[true,true,true,true,true,true,true,true,true,true,true,true,true,false,false] rfl rfl (by kernel_rfl) (fun _ _ _ h => h) (Or.inl ⟨by rfl,?_⟩) ?_ ?_
   rotate_left
   ·intro w'
    go_simp
    with_reducible rfl
   rotate_left
   ·simp only [Act.put,List.setIfInBounds_toArray,List.set_cons_zero,List.set_cons_succ,i64_w,i32_w]
    rfl
   refine pure_ (i:=13) (N:=some 51) (v:=?_) (a':=?_) #[true,true,true,true,true,true,true,true,true,true,true,true,true,true,false] rfl rfl (by kernel_rfl) (fun _ _ _ h => h) (Or.inl ⟨by rfl,?_⟩) ?_ ?_
   rotate_left
   ·intro w'
    go_simp
    with_reducible rfl
   rotate_left
   ·simp only [Act.put,List.setIfInBounds_toArray,List.set_cons_zero,List.set_cons_succ,i64_w,i32_w]
    rfl
   refine last_ (i:=14) (N:=none) #[true,true,true,true,true,true,true,true,true,true,true,true,true,true,true] rfl rfl (by kernel_rfl) (by decide) (fun K hK => ?_)
   refine skip_ (w1:=?_) (by rfl) rfl ?_ ?_
   rotate_left
   ·go_simp
    rfl
   refine hK.out _ _ ?_
   clear hK K
   refine done_ (by kernel_rfl) ?_
   go_wp2
   go_roundw
   case measure => simp [intOf]
   case rel => exact ⟨i,cur++[x / 2 ^ (8 * i) % 256],_,rfl,⟨by have:=HJ.out;omega⟩,⟨by rw [← HC.out,List.append_assoc];rfl⟩,⟨wr_put HI.out HBK3.out HR3.out⟩,⟨wr_step (k:=1) HS.out HI.out HB3.out HG3.out HO3.out _⟩⟩
set_option maxHeartbeats 4000000 in
set_option maxRecDepth 100000 in
theorem put_i64.calls (B g:Nat) (v:Value) (bs:List Int) (m x:Int) (n:Nat) (w:World) (hI:IsWr B w g v bs m) (h1:1≤n) (h8:n≤8) (hroom:(bs.length:Int) + n≤m) (hm:m≤1048576) :
  Calls Tryd.prog 65 #[.pointer (some ⟨g,0,none⟩),.int .i64 n,.int .i64 x,.bool true] w fun e w' => e=.returned (.int .i64 0)∧WrPost B w g v (bs++beN n x) m w':=by
 obtain ⟨c0,c1,c2⟩:=hI.cell
 obtain ⟨A,c,rfl⟩:=Kd.R_slice hI.row
 have t1:decide ((n:Int) < 1)=false:=decide_eq_false (by omega)
 have t2:decide ((8:Int) < (n:Int))=false:=decide_eq_false (by omega)
 have t3:decide (m - (bs.length:Int) < (n:Int))=false:=decide_eq_false (by omega)
 have HI:=Aside0.mk hI
 clear hI
 go_enter Tryd.func65,Tryd.ntmps65
 go_wp2_with (go_at_call 41;refine (none_no g _ c2).mono ?_;rintro e w' ⟨rfl,rfl⟩)
 go_quiet (fail)
 go_wp2
 go_loopw [1] (fun vi wr => ∃ (j:Nat) (cur:List Int) (vr:Value),vi=.int .i64 ((j:Int) - 1)∧Aside0 (j≤n)∧Aside0 (cur++beN j x=bs++beN n x)∧Aside0 (IsWr B wr g vr cur m)∧Aside0 (WrStep B w wr g (.slice A bs.length c) vr)) (fun vi _ => (intOf vi + 1).toNat)
 case atStart => exact ⟨n,bs,_,rfl,⟨Nat.le_refl _⟩,⟨rfl⟩,⟨HI.out.drewN _⟩,⟨⟨pw_below_drewN (Below.refl _ _) _,⟨Nat.le_refl _,fun _ _ _ _ => rfl⟩,.inl rfl⟩⟩⟩
 case round =>
  obtain ⟨j,cur,vr,rfl,HJ,HC,HR0,HS⟩:=hrel
  cases j with
  | zero =>
   have hz:decide ((0:Int)≤((0:Nat):Int) - 1)=false:=by decide
   go_wp2
   go_ret
   exact ⟨rfl,_,by have h:=HC.out;simp only [beN,List.append_nil] at h;rw [← h];exact HR0.out,HS.out⟩
  | succ i =>
   have HI:=HR0
   have HR:=Aside0.mk HR0.out.row
   have HB:=Aside0.mk HS.out.below
   have hi:i < 8:=by have:=HJ.out;omega
   have hii:((i + 1:Nat):Int) - 1=(i:Int):=by omega
   rw [hii]
   clear hii
   have hge:decide ((0:Int)≤(i:Int))=true:=decide_eq_true (by omega)
   have hw8:wrap64 (8 * (i:Int))=8 * (i:Int):=by unfold wrap64;omega
   have hw0:0≤8 * (i:Int):=by omega
   have hw64:8 * (i:Int)≤64:=by omega
   have hc0:wr.cell? ⟨g,0,none⟩=some vr:=HI.out.cell.1
   have HNE:=Aside0.mk HI.out.ne
   have HL:Aside0 (cur.length≤1048576):=⟨by have h:=congrArg List.length HC.out;simp [beN_length] at h;omega⟩
   go_wp2
   refine start_ (n:=15) (S:=fun w' => w'.cell? ⟨g,0,none⟩=some vr) (ds:=[14]) #[false,false,false,false,false,false,false,false,false,false,false,false,false,false,false] (by kernel_rfl) rfl rfl (hc0) (fun hHeld => ?_)
   refine pure_ (i:=0) (N:=some 38) (v:=?_) (a':=?_) #[true,false,false,false,false,false,false,false,false,false,false,false,false,false,false] rfl rfl (by kernel_rfl) (fun _ _ _ h => h) (Or.inl ⟨by rfl,?_⟩) ?_ ?_
   rotate_left
   ·intro w'
    go_simp
    with_reducible rfl
   rotate_left
   ·simp only [Act.put,List.setIfInBounds_toArray,List.set_cons_zero,List.set_cons_succ,i64_w,i32_w]
    rfl
   refine pure_ (i:=1) (N:=some 39) (v:=?_) (a':=?_) #[true,true,false,false,false,false,false,false,false,false,false,false,false,false,false] rfl rfl (by kernel_rfl) (fun _ _ _ h => h) (Or.inl ⟨by rfl,?_⟩) ?_ ?_
   rotate_left
   ·intro w'
    go_simp
    with_reducible rfl
   rotate_left
   ·simp only [Act.put,List.setIfInBounds_toArray,List.set_cons_zero,List.set_cons_succ,i64_w,i32_w]
    rfl
   refine pure_ (i:=2) (N:=some 40) (v:=?_) (a':=?_) #[true,true,true,false,false,false,false,false,false,false,false,false,false,false,false] rfl rfl (by kernel_rfl) (fun _ _ _ h => h) (Or.inl ⟨by rfl,?_⟩) ?_ ?_
   rotate_left
   ·intro w'
    go_simp
    with_reducible rfl
   rotate_left
   ·simp only [Act.put,List.setIfInBounds_toArray,List.set_cons_zero,List.set_cons_succ,i64_w,i32_w]
    rfl
   refine pure_ (i:=3) (N:=some 41) (v:=?_) (a':=?_) #[true,true,true,true,false,false,false,false,false,false,false,false,false,false,false] rfl rfl (by kernel_rfl) (fun _ _ _ h => h) (Or.inl ⟨by rfl,?_⟩) ?_ ?_
   rotate_left
   ·intro w'
    go_simp
    with_reducible rfl
   rotate_left
   ·simp only [Act.put,List.setIfInBounds_toArray,List.set_cons_zero,List.set_cons_succ,i64_w,i32_w]
    rfl
   refine pure_ (i:=5) (N:=some 43) (v:=?_) (a':=?_) #[true,true,true,true,false,true,false,false,false,false,false,false,false,false,false] rfl rfl (by kernel_rfl) (fun _ _ _ h => h) (Or.inl ⟨by rfl,?_⟩) ?_ ?_
   rotate_left
   ·intro w'
    go_simp
    with_reducible rfl
   rotate_left
   ·simp only [Act.put,List.setIfInBounds_toArray,List.set_cons_zero,List.set_cons_succ,i64_w,i32_w]
    rfl
   refine pure_ (i:=6) (N:=some 44) (v:=?_) (a':=?_) #[true,true,true,true,false,true,true,false,false,false,false,false,false,false,false] rfl rfl (by kernel_rfl) (fun _ _ _ h => h) (Or.inl ⟨by rfl,?_⟩) ?_ ?_
   rotate_left
   ·intro w'
    go_simp
    with_reducible rfl
   rotate_left
   ·simp only [Act.put,List.setIfInBounds_toArray,List.set_cons_zero,List.set_cons_succ,i64_w,i32_w]
    rfl
   refine pure_ (i:=7) (N:=some 45) (v:=?_) (a':=?_) #[true,true,true,true,false,true,true,true,false,false,false,false,false,false,false] rfl rfl (by kernel_rfl) (fun _ _ _ h => h) (Or.inl ⟨by rfl,?_⟩) ?_ ?_
   rotate_left
   ·intro w'
    go_simp
    with_reducible rfl
   rotate_left
   ·simp only [Act.put,List.setIfInBounds_toArray,List.set_cons_zero,List.set_cons_succ,i64_w,i32_w]
    rfl
   refine pure_ (i:=8) (N:=some 46) (v:=?_) (a':=?_) #[true,true,true,true,false,true,true,true,true,false,false,false,false,false,false] rfl rfl (by kernel_rfl) (fun _ _ _ h => h) (Or.inl ⟨by rfl,?_⟩) ?_ ?_
   rotate_left
   ·intro w'
    go_simp
    with_reducible rfl
   rotate_left
   ·simp only [Act.put,List.setIfInBounds_toArray,List.set_cons_zero,List.set_cons_succ,i64_w,i32_w]
    rfl
   refine pure_ (i:=9) (N:=some 47) (v:=?_) (a':=?_) #[true,true,true,true,false,true,true,true,true,true,false,false,false,false,false] rfl rfl (by kernel_rfl) (fun _ _ _ h => h) (Or.inl ⟨by rfl,?_⟩) ?_ ?_
   rotate_left
   ·intro w'
    go_simp
    with_reducible rfl
   rotate_left
   ·simp only [Act.put,List.setIfInBounds_toArray,List.set_cons_zero,List.set_cons_succ,i64_w,i32_w]
    rfl
   refine take_ (i:=4) (N:=some 42) (v:=?_) (a':=?_) #[true,true,true,true,true,true,true,true,true,true,false,false,false,false,false] rfl rfl (by kernel_rfl) (fun _ _ _ h => h) (Or.inl ⟨by rfl,?_⟩) hHeld ?_ ?_
   rotate_left
   ·intro w' s0
    go_simp
    with_reducible rfl
   rotate_left
   ·simp only [Act.put,List.setIfInBounds_toArray,List.set_cons_zero,List.set_cons_succ,i64_w,i32_w]
    rfl
   refine one_ (i:=10) (N:=some 48) #[true,true,true,true,true,true,true,true,true,true,true,false,false,false,false] rfl rfl (by kernel_rfl) (by decide) (fun K hK => ?_)
   refine value_ (w1:=?_) (v:=?_) (by rfl) rfl ?_ ?_
   rotate_left 2
   ·go_simp
    constructor
    ·rfl
    ·rfl
   refine hK.out _ _ ((by first|exact pw_cell_below ((Below.refl _ _).alloc (Nat.le_refl _) _) hHeld)) (fun hHeld => ?_)
   clear hK K
   refine norm_ (a':=?_) ?_ ?_
   rotate_left
   ·show Act.put _ (some 48) _=_
    simp only [Act.put,List.setIfInBounds_toArray,List.set_cons_zero,List.set_cons_succ,i64_w,i32_w]
    rfl
   refine one_ (i:=11) (N:=some 49) #[true,true,true,true,true,true,true,true,true,true,true,true,false,false,false] rfl rfl (by kernel_rfl) (by decide) (fun K hK => ?_)
   refine Kd.R_append_step (Kd.int .u8) (w0:=w) B (by rfl) (.tmp 42) (.tmp 48) 27 5 (.int .u8 0) 1 (by rfl) Tryd.underlying27 info5 rfl (by decide) (by decide) vr cur (x / 2 ^ (8 * i) % 256) [.int .u8 (x / 2 ^ (8 * i) % 256)] (fun _ => True) (fun _ => False) (by rfl) (by rfl) rfl (fun _ h => h.elim) (fun _ _ => trivial) (Kd.R_drewN HR.out 1) (pw_below_drewN HB.out 1) (by have:=HB.out.size;have:=HI.out.ge;have:=HI.out.lt;show B≤wr.heap.size;omega) (by have:=HL.out;omega) ?_
   intro v1 w3 hR3 hB3 hg3 ho3
   have HR3:=Aside0.mk hR3
   have HB3:=Aside0.mk hB3
   have HG3:=Aside0.mk hg3
   have HO3:=Aside0.mk ho3
   have hbk3:=blk_grown (w:=wr.drew) (show wr.drew.heap[g]?=some (.cells #[vr,.int .i64 m,.bool true] 89 (0,0)) from HI.out.blk) hg3 HNE.out
   have hc3:w3.cell? ⟨g,0,none⟩=some vr:=(blk_cell hbk3 0).trans rfl
   have hf3:=blk_frozen hbk3 0
   have HBK3:=Aside0.mk hbk3
   obtain ⟨A1,cp1,hv1⟩:=Kd.R_slice hR3
   simp only [List.length_append,List.length_singleton] at hv1
   subst hv1
   clear hR3 hB3 hg3 ho3 hbk3
   refine hK.out _ _ (hc3) (fun hHeld => ?_)
   clear hK K
   refine norm_ (a':=?_) ?_ ?_
   rotate_left
   ·show Act.put _ (some 49) _=_
    simp only [Act.put,List.setIfInBounds_toArray,List.set_cons_zero,List.set_cons_succ,i64_w,i32_w]
    rfl
   refine pure_ (i:=12) (N:=some 50) (v:=?_) (a':=?_) #[true,true,true,true,true,true,true,true,true,true,true,true,true,false,false] rfl rfl (by kernel_rfl) (fun _ _ _ h => h) (Or.inl ⟨by rfl,?_⟩) ?_ ?_
   rotate_left
   ·intro w'
    go_simp
    with_reducible rfl
   rotate_left
   ·simp only [Act.put,List.setIfInBounds_toArray,List.set_cons_zero,List.set_cons_succ,i64_w,i32_w]
    rfl
   refine pure_ (i:=13) (N:=some 51) (v:=?_) (a':=?_) #[true,true,true,true,true,true,true,true,true,true,true,true,true,true,false] rfl rfl (by kernel_rfl) (fun _ _ _ h => h) (Or.inl ⟨by rfl,?_⟩) ?_ ?_
   rotate_left
   ·intro w'
    go_simp
    with_reducible rfl
   rotate_left
   ·simp only [Act.put,List.setIfInBounds_toArray,List.set_cons_zero,List.set_cons_succ,i64_w,i32_w]
    rfl
   refine last_ (i:=14) (N:=none) #[true,true,true,true,true,true,true,true,true,true,true,true,true,true,true] rfl rfl (by kernel_rfl) (by decide) (fun K hK => ?_)
   refine skip_ (w1:=?_) (by rfl) rfl ?_ ?_
   rotate_left
   ·go_simp
    rfl
   refine hK.out _ _ ?_
   clear hK K
   refine done_ (by kernel_rfl) ?_
   go_wp2
   go_roundw
   case measure => simp [intOf]
   case rel => exact ⟨i,cur++[x / 2 ^ (8 * i) % 256],_,rfl,⟨by have:=HJ.out;omega⟩,⟨by rw [← HC.out,List.append_assoc];rfl⟩,⟨wr_put HI.out HBK3.out HR3.out⟩,⟨wr_step (k:=1) HS.out HI.out HB3.out HG3.out HO3.out _⟩⟩
theorem shr_zero {x:Int} {n:Nat} (h0:0≤x) (h:x < 2 ^ (8 * n)):x / 2 ^ (8 * n)=0:=Int.ediv_eq_zero_of_lt h0 h
set_option maxHeartbeats 4000000 in
set_option maxRecDepth 100000 in
theorem wr_Uint.calls (B g:Nat) (v:Value) (bs:List Int) (m x:Int) (n:Nat) (w:World) (hI:IsWr B w g v bs m) (h1:1≤n) (h8:n≤8) (hx:0≤x) (hx2:x < 2 ^ (8 * n)) (hroom:(bs.length:Int) + n≤m) (hm:m≤1048576) :
  Calls Tryd.prog 14 #[.pointer (some ⟨g,0,none⟩),.int .i64 n,.int .u64 x] w fun e w' => e=.returned (.int .i64 0)∧WrPost B w g v (bs++beN n x) m w':=by
 have t1:decide ((n:Int) < 1)=false:=decide_eq_false (by omega)
 have HC:=Aside0.mk (put_u64.calls B g v bs m x n w hI h1 h8 hx hroom hm)
 by_cases h7:n=8
 ·have t2:decide ((7:Int) < (n:Int))=true:=decide_eq_true (by omega)
  clear hx2 hI h7
  go_enter Tryd.func14,Tryd.ntmps14
  go_wp2_with fail
  with_reducible refine HC.out.mono ?_
  rintro e w' ⟨rfl,hp⟩
  have HP:=Aside0.mk hp
  clear hp
  go_wp2
  go_ret
  exact ⟨rfl,HP.out⟩
 ·have t2:decide ((7:Int) < (n:Int))=false:=decide_eq_false (by omega)
  have hw8:wrap64 (8 * (n:Int))=8 * (n:Int):=by unfold wrap64;omega
  have hw0:0≤8 * (n:Int):=by omega
  have hw64:8 * (n:Int)≤64:=by omega
  have hz:(x / 2 ^ (8 * n)==0)=true:=beq_iff_eq.mpr (shr_zero hx hx2)
  clear hx2 hI h7
  go_enter Tryd.func14,Tryd.ntmps14
  go_wp2_with fail
  with_reducible refine HC.out.mono ?_
  rintro e w' ⟨rfl,hp⟩
  have HP:=Aside0.mk hp
  clear hp
  go_wp2
  go_ret
  exact ⟨rfl,HP.out⟩
set_option maxHeartbeats 4000000 in
set_option maxRecDepth 100000 in
theorem wr_Int.calls (B g:Nat) (v:Value) (bs:List Int) (m x:Int) (n:Nat) (w:World) (hI:IsWr B w g v bs m) (h1:1≤n) (h8:n≤8) (hx:n≤7→x / 2 ^ (8 * n - 1)=0 ∨ x / 2 ^ (8 * n - 1)=-1) (hroom:(bs.length:Int) + n≤m) (hm:m≤1048576) :
  Calls Tryd.prog 40 #[.pointer (some ⟨g,0,none⟩),.int .i64 n,.int .i64 x] w fun e w' => e=.returned (.int .i64 0)∧WrPost B w g v (bs++beN n x) m w':=by
 have t1:decide ((1:Int)≤(n:Int))=true:=decide_eq_true (by omega)
 have HC:=Aside0.mk (put_i64.calls B g v bs m x n w hI h1 h8 hroom hm)
 by_cases h7:n=8
 ·have t2:decide ((n:Int)≤7)=false:=decide_eq_false (by omega)
  clear hx hI h7
  go_enter Tryd.func40,Tryd.ntmps40
  go_wp2_with fail
  with_reducible refine HC.out.mono ?_
  rintro e w' ⟨rfl,hp⟩
  have HP:=Aside0.mk hp
  clear hp
  go_wp2
  go_ret
  exact ⟨rfl,HP.out⟩
 ·have t2:decide ((n:Int)≤7)=true:=decide_eq_true (by omega)
  have hw8:wrap64 (8 * (n:Int))=8 * (n:Int):=by unfold wrap64;omega
  have hw9:wrap64 (8 * (n:Int) - 1)=8 * (n:Int) - 1:=by unfold wrap64;omega
  have hw0:0≤8 * (n:Int) - 1:=by omega
  have hw1:1≤8 * (n:Int):=by omega
  have hw64:8 * (n:Int) - 1≤64:=by omega
  have hx':=hx (by omega)
  obtain ⟨y,hy⟩:∃ y,y=x / 2 ^ (8 * n - 1):=⟨_,rfl⟩
  rw [← hy] at hx'
  have hy':x / 2 ^ (8 * n - 1)=y:=hy.symm
  clear hx hI h7 hy
  rcases hx' with h0|h0
  ·have e1:(y==0)=true:=beq_iff_eq.mpr h0
   clear h0
   go_enter Tryd.func40,Tryd.ntmps40
   go_wp2_with fail
   with_reducible refine HC.out.mono ?_
   rintro e w' ⟨rfl,hp⟩
   have HP:=Aside0.mk hp
   clear hp
   go_wp2
   go_ret
   exact ⟨rfl,HP.out⟩
  ·have e1:(y==0)=false:=beq_eq_false_iff_ne.mpr (by omega)
   have e2:(y==-1)=true:=beq_iff_eq.mpr h0
   clear h0
   go_enter Tryd.func40,Tryd.ntmps40
   go_wp2_with fail
   with_reducible refine HC.out.mono ?_
   rintro e w' ⟨rfl,hp⟩
   have HP:=Aside0.mk hp
   clear hp
   go_wp2
   go_ret
   exact ⟨rfl,HP.out⟩
set_option maxHeartbeats 4000000 in
set_option maxRecDepth 100000 in
theorem wr_Bytes.calls (B g:Nat) (v:Value) (bs ys:List Int) (m:Int) (A:Option Addr) (c:Nat) (w:World) (hI:IsWr B w g v bs m) (hy:(Kd.int .u8).C w A ys.length ys) (hroom:(bs.length:Int) + ys.length≤m) (hm:m≤1048576) :
  Calls Tryd.prog 16 #[.pointer (some ⟨g,0,none⟩),.slice A ys.length c] w fun e w' => e=.returned (.int .i64 0)∧WrPost B w g v (bs++ys) m w':=by
 obtain ⟨c0,c1,c2⟩:=hI.cell
 obtain ⟨A0,cp0,rfl⟩:=Kd.R_slice hI.row
 have t3:decide (m - (bs.length:Int) < (ys.length:Int))=false:=decide_eq_false (by omega)
 have HI:=Aside0.mk hI
 have HY:=Aside0.mk hy
 have HL:Aside0 (bs.length + ys.length≤1048576):=⟨by omega⟩
 have HNE:=Aside0.mk hI.ne
 clear hI hy
 go_enter Tryd.func16,Tryd.ntmps16
 go_wp2_with (go_at_call 41;refine (none_no g _ c2).mono ?_;rintro e w' ⟨rfl,rfl⟩)
 go_quiet (fail)
 go_wp2_with (at_builtin;refine Kd.R_append_row (Value.int .u8) (0:Int) (w0:=w) B rfl _ _ 27 5 (.int .u8 0) 1 rfl Tryd.underlying27 info5 rfl (by decide) _ bs ys A ys.length c (fun _ => True) rfl rfl (fun _ _ => trivial) (HI.out.drewN _).row (Kd.C_below HY.out (pw_below_drewN (Below.refl _ _) _)) (pw_below_drewN (Below.refl _ _) _) ?c5 ?c6 ?_)
 case c5 => have:=HI.out.ge;have:=HI.out.lt;show B≤w.heap.size;omega
 case c6 => have:=HL.out;omega
 intro v1 w3 hR3 hB3 hg3 ho3
 have HR3:=Aside0.mk hR3
 have HB3:=Aside0.mk hB3
 have HG3:=Aside0.mk hg3
 have HO3:=Aside0.mk ho3
 have hbk3:=blk_grown (w:=w.drewN nq) (show (w.drewN nq).heap[g]?=some (.cells #[_,.int .i64 m,.bool true] 89 (0,0)) from HI.out.blk) hg3 HNE.out
 have hc3:=(blk_cell hbk3 0).trans rfl
 have hf3:=blk_frozen hbk3 0
 have HBK3:=Aside0.mk hbk3
 obtain ⟨A1,cp1,hv1⟩:=Kd.R_slice hR3
 simp only [List.length_append] at hv1
 subst hv1
 clear hR3 hB3 hg3 ho3 hbk3
 go_wp2
 go_ret
 exact ⟨rfl,_,wr_put HI.out HBK3.out HR3.out,wr_step (WrStep.refl B w g _) HI.out HB3.out HG3.out HO3.out _⟩
set_option maxHeartbeats 4000000 in
set_option maxRecDepth 100000 in
theorem wr_Out.calls (B g:Nat) (v:Value) (bs:List Int) (m:Int) (w:World) (hI:IsWr B w g v bs m) (hroom:bs.length≤1048576) :
  Calls Tryd.prog 21 #[.pointer (some ⟨g,0,none⟩)] w fun e w' => ∃ v0_:Value,e=.returned v0_∧Kd.R (Kd.int .u8) 5 w' w.heap.size (fun _ => True) v0_ bs∧Below w.heap.size w w':=by
 obtain ⟨c0,c1,c2⟩:=hI.cell
 obtain ⟨A0,cp0,rfl,hcp,hC⟩:=Kd.R_reads hI.row
 have HC:=Aside0.mk hC
 clear hI hC
 go_enter Tryd.func21,Tryd.ntmps21
 go_wp2_with (first|(go_at_call 41;refine (none_no g _ c2).mono ?_;rintro e w' ⟨rfl,rfl⟩)|(at_builtin;refine Kd.R_append_row (Value.int .u8) (0:Int) (w0:=w) w.heap.size rfl _ _ 27 5 (.int .u8 0) 1 rfl Tryd.underlying27 info5 rfl (by decide) (.slice none 0 0) [] bs A0 bs.length cp0 (fun _ => True) rfl rfl (fun _ _ => trivial) (Kd.R_nil _ _ _ _ _) HC.out (Below.refl _ _) (Nat.le_refl _) ?c6 ?_))
 case c6 => simp only [List.length_nil];omega
 intro v1 w3 hR3 hB3 hg3 ho3
 have HR3:=Aside0.mk hR3
 have HB3:=Aside0.mk hB3
 clear hR3 hB3 hg3 ho3
 go_wp2
 go_ret
 exact ⟨_,rfl,HR3.out,HB3.out⟩
set_option maxHeartbeats 4000000 in
set_option maxRecDepth 100000 in
theorem wr_New.calls (m:Int) (w:World) (h0:0≤m) (h1:m≤1048576) :
  Calls Tryd.prog 37 #[.int .i64 m] w fun e w' => e=.returned (.tuple #[.pointer (some ⟨w.heap.size,0,none⟩),.int .i64 0])∧IsWr w.heap.size w' w.heap.size (.slice none 0 0) [] m∧Below w.heap.size w w':=by
 have t1:decide (m < 0)=false:=decide_eq_false (by omega)
 have t2:decide (1048576 < m)=false:=decide_eq_false (by omega)
 go_enter Tryd.func37,Tryd.ntmps37
 go_wp2
 go_ret2
 refine ⟨rfl,⟨Nat.le_refl _,blk_new _ _,Kd.R_nil _ _ _ _ _⟩,below_alloc (Below.refl _ _) _⟩
end Go.Proofs.YtbgniepcoaiinaaDoor.Px
namespace Go.Proofs.YtbgniepcoaiinaaDoor.Px
open Go.RowKit Go.Proofs.YtbgniepcoaiinaaDoorW.PrintWords Go.Proofs.YtbgniepcoaiinaaDoorW.PrintLast Go.Proofs.YtbgniepcoaiinaaDoorW.PrintMore
theorem row_C {w:World} {base:Nat} {ok:Nat→Prop} {A:Option Addr} {c n:Nat} {xs:List Int} (h:Kd.R (Kd.int .u8) 5 w base ok (.slice A n c) xs):(Kd.int .u8).C w A xs.length xs:=by
 obtain ⟨A',c',e,_,hC⟩:=Kd.R_reads h
 injection e with e1 e2 e3
 rw [e1]
 exact hC
end Go.Proofs.YtbgniepcoaiinaaDoor.Px
