/- A program that nobody made: the walks of the methods of link.Program at no pointer or at one to a zero value. -/
import Derived.Test.YtombbcpleklefaaProg
import Derived.Below
import Derived.Deep.Draws
import Derived.Deep.AppendLies
import Derived.Maps.AppendAt
import Derived.OwnWalk
import Derived.Laws.BytesArg
import Derived.Laws.MakeOwn
import Derived.Laws.OwnMore
import Derived.Deep.OwnRows
import Derived.Tactics
import Derived.Lib.ConvBytes
import Derived.Laws.Slices
import Derived.WalkKit
import Derived.KernelRfl
import Derived.RowKit3
import Derived.Deep.LoopGhost
import Derived.Deep.QuietTactic
import Derived.BigQuiet
import Derived.WideLaws
import Derived.Deep.DeepCutAuto
import Derived.Deep.CutBlock
import Derived.Deep.RegionHeld3
import Derived.Laws.Rows
import Derived.Lib.AppendStr
import Derived.ArgAppend
import Derived.Laws.IdiomCopy
import Derived.OrdersHeld
import Derived.Laws.BitsLemmas
import Derived.RowKit
import Derived.Test.YtombbcpleklefaaWWords
import Derived.Test.YtombbcpleklefaaWLast
import Derived.Test.YtombbcpleklefaaWQPut
import Derived.Test.YtombbcpleklefaaWApart
import Derived.Test.YtombbcpleklefaaWArr
import Derived.Test.YtombbcpleklefaaWZeros
import Derived.Test.YtombbcpleklefaaWFoot
import Derived.Test.YtombbcpleklefaaWKept
import Derived.Test.YtombbcpleklefaaWShare
import Derived.Test.YtombbcpleklefaaWN
import Derived.Test.YtombbcpleklefaaWFootNe
import Derived.Test.YtombbcpleklefaaWEqStruct
import Derived.Test.YtombbcpleklefaaWRepsOne
import Derived.Test.YtombbcpleklefaaWGuard
import Derived.Test.YtombbcpleklefaaWNEv
import Derived.Test.YtombbcpleklefaaWMore
namespace Go.Proofs.Ytombbcpleklefaa.Px
open Go.RowKit Go.Proofs.YtombbcpleklefaaW.PrintWords Go.Proofs.YtombbcpleklefaaW.PrintLast Go.Proofs.YtombbcpleklefaaW.PrintMore
set_option linter.unusedVariables false
set_option linter.unusedSimpArgs false

/-- A program that nobody made: no pointer, or one to a zero value. -/
def NoProg (w : World) (v : Value) : Prop := v = .pointer none ∨ ∃ g, v = .pointer (some ⟨g, 0, none⟩) ∧ w.heap[g]? = some (.cells #[.slice none 0 0, .map none, .bool false] 26 (0, 0))
theorem none_calls (v : Value) (w : World) (h : NoProg w v) : Calls Try.prog 18 #[v] w fun e w' => e = .returned (.bool true) ∧ w' = w := by
  rcases h with rfl | ⟨g, rfl, hb⟩
  · go_enter Try.func18, Try.ntmps18
    go_wp2
    go_ret
    exact ⟨rfl, rfl⟩
  · have h2 : w.cell? ⟨g, 2, none⟩ = some (.bool false) := (blk_cell hb 2).trans rfl
    go_enter Try.func18, Try.ntmps18
    go_wp2
    go_ret
    exact ⟨rfl, rfl⟩
theorem has_calls (v : Value) (n : Int) (w : World) (h : NoProg w v) : Calls Try.prog 22 #[v, .int .i64 n] w fun e w' => e = .returned (.bool false) ∧ w' = w := by
  have H := Aside0.mk h
  clear h
  go_enter Try.func22, Try.ntmps22
  go_wp2_with fail
  refine (none_calls v w H.out).mono ?_
  rintro e w1 ⟨rfl, rfl⟩
  go_wp2
  go_ret
  exact ⟨rfl, rfl⟩
theorem len_calls (v : Value) (w : World) (h : NoProg w v) : Calls Try.prog 9 #[v] w fun e w' => e = .returned (.int .i64 0) ∧ w' = w := by
  have H := Aside0.mk h
  clear h
  go_enter Try.func9, Try.ntmps9
  go_wp2_with fail
  refine (none_calls v w H.out).mono ?_
  rintro e w1 ⟨rfl, rfl⟩
  go_wp2
  go_ret
  exact ⟨rfl, rfl⟩
theorem name_calls (v : Value) (n : Int) (w : World) (h : NoProg w v) : Calls Try.prog 10 #[v, .int .i64 n] w fun e w' => e = .returned (.string ⟨#[]⟩) ∧ w' = w := by
  have H := Aside0.mk h
  clear h
  go_enter Try.func10, Try.ntmps10
  go_wp2_with fail
  refine (has_calls v n w H.out).mono ?_
  rintro e w1 ⟨rfl, rfl⟩
  go_wp2
  go_ret
  exact ⟨rfl, rfl⟩
theorem super_calls (v : Value) (n : Int) (w : World) (h : NoProg w v) : Calls Try.prog 11 #[v, .int .i64 n] w fun e w' => e = .returned (.int .i64 (-1)) ∧ w' = w := by
  have H := Aside0.mk h
  clear h
  go_enter Try.func11, Try.ntmps11
  go_wp2_with fail
  refine (has_calls v n w H.out).mono ?_
  rintro e w1 ⟨rfl, rfl⟩
  go_wp2
  go_ret
  exact ⟨rfl, rfl⟩
theorem find_calls (v : Value) (s : ByteArray) (w : World) (h : NoProg w v) : Calls Try.prog 12 #[v, .string s] w fun e w' => e = .returned (.int .i64 (-1)) ∧ w' = w := by
  have H := Aside0.mk h
  clear h
  go_enter Try.func12, Try.ntmps12
  go_wp2_with fail
  refine (none_calls v w H.out).mono ?_
  rintro e w1 ⟨rfl, rfl⟩
  go_wp2
  go_ret
  exact ⟨rfl, rfl⟩
theorem slots_calls (v : Value) (n : Int) (w : World) (h : NoProg w v) : Calls Try.prog 15 #[v, .int .i64 n] w fun e w' => e = .returned (.slice none 0 0) ∧ w' = w := by
  have H := Aside0.mk h
  clear h
  go_enter Try.func15, Try.ntmps15
  go_wp2_with fail
  refine (has_calls v n w H.out).mono ?_
  rintro e w1 ⟨rfl, rfl⟩
  go_wp2
  go_ret
  exact ⟨rfl, rfl⟩
theorem sub_calls (v : Value) (a b : Int) (w : World) (h : NoProg w v) : Calls Try.prog 14 #[v, .int .i64 a, .int .i64 b] w fun e w' => e = .returned (.bool false) ∧ w' = w := by
  have H := Aside0.mk h
  clear h
  go_enter Try.func14, Try.ntmps14
  go_wp2_with fail
  refine (has_calls v a w H.out).mono ?_
  rintro e w1 ⟨rfl, rfl⟩
  go_wp2
  go_ret
  exact ⟨rfl, rfl⟩
theorem tree_calls (v : Value) (w : World) (h : NoProg w v) : Calls Try.prog 13 #[v] w fun e w' => e = .returned (.slice none 0 0) ∧ w' = w := by
  have H := Aside0.mk h
  clear h
  go_enter Try.func13, Try.ntmps13
  go_wp2_with fail
  refine (len_calls v w H.out).mono ?_
  rintro e w1 ⟨rfl, rfl⟩
  go_wp2
  refine wp_loop_rounds 1 ?_
  rw [rounds_succ]
  go_wp2
  go_ret
  exact ⟨rfl, rfl⟩
theorem statics_calls (v : Value) (w : World) (h : NoProg w v) : Calls Try.prog 16 #[v] w fun e w' => e = .returned (.slice none 0 0) ∧ w' = w := by
  have H := Aside0.mk h
  clear h
  go_enter Try.func16, Try.ntmps16
  go_wp2_with fail
  refine (len_calls v w H.out).mono ?_
  rintro e w1 ⟨rfl, rfl⟩
  go_wp2
  refine wp_loop_rounds 1 ?_
  rw [rounds_succ]
  go_wp2
  go_ret
  exact ⟨rfl, rfl⟩
end Go.Proofs.Ytombbcpleklefaa.Px
