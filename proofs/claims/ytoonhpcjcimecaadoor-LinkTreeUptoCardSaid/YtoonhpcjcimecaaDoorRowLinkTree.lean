/- The law LinkTree, where what comes in is of bulk at most 1048576: the row and its tied card, out of the walk of the law's function and its pure statement. -/
import Derived.Test.YtoonhpcjcimecaaDoorRows
import Derived.Test.YtoonhpcjcimecaaDoorM1
import Derived.Test.YtoonhpcjcimecaaDoorCards
import Derived.Test.YtoonhpcjcimecaaDoorTie
import Derived.Test.YtoonhpcjcimecaaDoorM5
import Derived.WalkKit
import Derived.ProofKit
import Derived.OpenShut
import Derived.ShutString
import Derived.ChangeOld
import Derived.Below
import Derived.SizedLaws
import Derived.Deep.DeepHandedRow
import Derived.Deep.DeepWitnessRowRef
import Derived.Lib.LaidIn
import Derived.Lib.LaidU8T
import Derived.PinnedBridge
import Derived.LaidHandle
namespace Go.Proofs.YtoonhpcjcimecaaDoor.linkTree
open Go.ChangeShapes Go.WideShapes Go.ChangeAt Go.RowKit Go.Lib Go.Proofs.YtoonhpcjcimecaaDoor.Px
open Go.Proofs.YtoonhpcjcimecaaDoorW.PrintWords Go.Proofs.YtoonhpcjcimecaaDoorW.PrintLast Go.Proofs.YtoonhpcjcimecaaDoorW.PrintMore
open Go.ChangeMaps (open_string shut_string)
set_option linter.unusedVariables false
set_option linter.unusedSimpArgs false

theorem own : ownKnob Tryd.prog.godebug = none := by kernel_rfl
theorem laidOut : laidOutB Tryd.prog = true := by kernel_rfl
/-- A world for the witness: the settled one, the listed variables holding what their initialisers lay. -/
noncomputable def laidWorld (os : Os) : World :=
  let w0 := World.holding Tryd.prog os ⟨#[], #[], []⟩
  let put (h : Array Obj) (g : Nat) (cs : Array Value) : Array Obj := h.modify g fun
    | .cells _ t frozen => .cells cs t frozen
    | o => o
  let h0 := put w0.heap 2 ((List.range 16).flatMap fun i => [Value.int .u8 (Lib.accLo i), Value.int .u8 (Lib.accHi i)]).toArray
  let h1 := put h0 0 #[.iface 151 (.agg #[.pointer (some ⟨4, 113, none⟩)])]
  let h2 := put h1 1 (Lib.firstTab.map fun z => Value.int .u8 z).toArray
  { w0 with heap := h2 }
theorem laid_met (os : Os) (args : Array Value) : laidMetH Tryd.prog Rows.linkTreeUptoRow.laid ((laidWorld os).forCall (fun _ _ => 0) ⟨#[], args, []⟩).memory :=
  laidMetH_of_parts (LaidIn.of_run (l := Rows.linkTreeUptoRow.laid.filter fun x => x.2.handleName?.isNone) [2, 1] 8 (by kernel_rfl) (by kernel_rfl) (by kernel_rfl) (by kernel_rfl)).met (by kernel_rfl)
set_option maxRecDepth 100000 in
/-- WHAT THE WALK GIVES, at every argument that the row speaks of. -/
theorem contract (H : Type) (enc : TypeId × Value → H) (W : World) (base : Nat) (args : Array Value) (ds gs : List (DataW H)) (before : List MemPlace)
    (hval0 : ∀ (j : Nat) t v, Tryd.f3.params[j]? = some t → args[j]? = some v → Value.okWide Tryd.prog W .any base t v)
    (hW : DataW.Whole enc Tryd.prog Tryd.f3.params.toList Rows.linkTreeSpec.vars false W args.toList ds gs before) (hk : Rows.uptoSmall H (ds ++ gs) = true) (hG : Aside0 (GG W))
    (hsz0 : (DataW.weightsEach Tryd.prog (Tryd.f3.params.toList ++ Rows.linkTreeSpec.plain.varTypes Tryd.prog) (ds ++ gs)).all (· ≤ reachBytes) = true) :
    Calls Tryd.prog 3 args W fun e W' => ∃ v, e = .returned v ∧ Rows.linkTreeSpec.post enc Tryd.prog Tryd.f3 false true false false W args v W' := by
  have hsz := hsz0
  have hval := hval0
  have hW' := hW
  obtain ⟨p, q, hA0, hV, rfl, hfz, hnd⟩ := hW
  have hA : DataW.TrodAll enc Tryd.prog W 0 (fun _ => true) true Tryd.f3.params.toList args.toList ds p := hA0
  rw [Tryd.params3] at hA hval hsz
  obtain ⟨v0, vs0, d0, ds0, p0, q0, hargs, rfl, rfl, h0, r0⟩ := trodAll_cons hA
  obtain ⟨v1, vs1, d1, ds1, p1, q1, rfl, rfl, rfl, h1, r1⟩ := trodAll_cons r0
  obtain ⟨v2, vs2, d2, ds2, p2, q2, rfl, rfl, rfl, h2, r2⟩ := trodAll_cons r1
  obtain ⟨rfl, rfl, rfl⟩ := trodAll_nil r2
  obtain rfl : args = #[v0, v1, v2] := by cases args; simp_all
  obtain ⟨rfl, rfl⟩ := trodVars_none hV
  obtain ⟨b0, len0, cap0, rfl⟩ := okWide_slice Tryd.underlying22 (hval 0 22 v0 rfl rfl)
  have k0 := h0
  have lt0 : ∀ x ∈ p0, x.block < W.heap.size := by obtain ⟨m, hm⟩ := k0; exact DataW.trod_lt m _ _ _ hm
  obtain ⟨fu0, hf0⟩ := h0
  obtain ⟨l0, ⟨A0, cc0, hcs0, hcap0, hr0⟩, hq0⟩ := (Fits.slice QS43.mono Tryd.underlying22 (by kernel_rfl) (fits43 enc W)) fu0 _ _ _ hf0
  simp only [Value.cells, List.cons.injEq, Value.slice.injEq, and_true] at hcs0
  obtain ⟨rfl, rfl, rfl⟩ := hcs0
  obtain ⟨a1, rfl, rfl, rfl, w1⟩ := open_int Tryd.underlying5 (hval 1 5 v1 rfl rfl) h1
  obtain ⟨a2, rfl, rfl, rfl, w2⟩ := open_int Tryd.underlying5 (hval 2 5 v2 rfl rfl) h2
  obtain ⟨k, hp⟩ := LinkTree_pure l0 a1 a2 ⟨fun c hc => ⟨Nat.le_of_lt (((QAll.mono QS43.mono) _ _ _ (bulk_part hk (by simp)) hq0).2 c hc).1.1, Nat.le_of_lt (((QAll.mono QS43.mono) _ _ _ (bulk_part hk (by simp)) hq0).2 c hc).2.2.2.1.1, Nat.le_of_lt (((QAll.mono QS43.mono) _ _ _ (bulk_part hk (by simp)) hq0).2 c hc).2.2.2.2.1, fun x hx => ⟨by have h := ((((QAll.mono QS43.mono) _ _ _ (bulk_part hk (by simp)) hq0).2 c hc).1.2 x hx).2.1; unfold Qstr at h; omega, ((((QAll.mono QS43.mono) _ _ _ (bulk_part hk (by simp)) hq0).2 c hc).1.2 x hx).2.2.1⟩, fun x hx => by have h := ((((QAll.mono QS43.mono) _ _ _ (bulk_part hk (by simp)) hq0).2 c hc).1.2 x hx).2.1; unfold Qstr at h; omega, fun x hx => ((((QAll.mono QS43.mono) _ _ _ (bulk_part hk (by simp)) hq0).2 c hc).2.2.2.1.2 x hx).1, fun x hx => ⟨((((QAll.mono QS43.mono) _ _ _ (bulk_part hk (by simp)) hq0).2 c hc).2.2.2.2.2 x hx).1, Nat.le_of_lt ((((QAll.mono QS43.mono) _ _ _ (bulk_part hk (by simp)) hq0).2 c hc).2.2.2.2.2 x hx).2.2.2.2.2.1.1, Nat.le_of_lt ((((QAll.mono QS43.mono) _ _ _ (bulk_part hk (by simp)) hq0).2 c hc).2.2.2.2.2 x hx).2.2.2.2.2.2.1.1, Nat.le_of_lt ((((QAll.mono QS43.mono) _ _ _ (bulk_part hk (by simp)) hq0).2 c hc).2.2.2.2.2 x hx).2.2.2.2.2.2.2.1⟩⟩, Nat.le_of_lt ((QAll.mono QS43.mono) _ _ _ (bulk_part hk (by simp)) hq0).1, (u8_range w1).1, (u8_range w1).2, (u8_range w2).1, (u8_range w2).2⟩
  clear hA0 hsz0 hsz hk
  refine (understudylaw09_LinkTree.calls k _ _ l0 a1 a2 true W hG hr0 hcap0 hp).mono ?_
  rintro e W' ⟨rfl, bel0⟩
  have bel : Below W.heap.size W W' := bel0
  exact ⟨_, rfl, _, _, _, [], _, [], hW', trodAll_mk1 (shut_bool Tryd.underlying4 _), (trodAll_cons_mk (Below.trod laidOut (by kernel_rfl) (of_decide_eq_true (by kernel_rfl)) k0 bel lt0) (trodAll_cons_mk (shut_int Tryd.underlying5 w1) (trodAll_cons_mk (shut_int Tryd.underlying5 w2) trodAll_mk0))), rfl, bel.frame _, fun h => by cases h⟩

set_option maxRecDepth 100000 in
theorem lifted (os : Os) (started : os.Started) (H : Type) (enc : TypeId × Value → H) (F : Stop.Interp) :
    ReturnsInHanded {} Tryd.checked os 3 .any ((Rows.OpenSpec.upto Rows.linkTreeSpec).preRow enc Tryd.prog Tryd.f3 Rows.linkTreeUptoRow.domain false Rows.linkTreeUptoRow.laid) (((Rows.OpenSpec.upto Rows.linkTreeSpec).at F).post enc Tryd.prog Tryd.f3 false true false false) := by
  obtain ⟨places, hx⟩ : ∃ places, DataW.whole enc Tryd.prog ((laidWorld os).forCall (fun _ _ => 0) ⟨#[], #[.slice none 0 0, .int .u8 0, .int .u8 0], []⟩).memory Tryd.f3.params.toList Rows.linkTreeSpec.vars false (#[.slice none 0 0, .int .u8 0, .int .u8 0] : Array Value).toList 8 = some ([.nil, .lit (.int .u8 0), .lit (.int .u8 0)], [], places) := ⟨[], by kernel_rfl⟩
  refine returnsInHanded_of_row (C := Tryd.checked) (s := Rows.OpenSpec.upto Rows.linkTreeSpec) own started (by kernel_rfl) Tryd.func3
    (witness_row_atRef (enc := enc) (C := Tryd.checked) false (laidWorld os) #[.slice none 0 0, .int .u8 0, .int .u8 0] rfl (by kernel_rfl) (by kernel_rfl) (by kernel_rfl)
      (OpenSpec.preRow_of_cond 8 hx (by kernel_rfl) (fun k hk => by cases hk; kernel_rfl) (by kernel_rfl) (laid_met os _))) ?_
  intro W base args ds gs before hval hW _ hcond hsz hL hSh _
  exact contract H enc W base args ds gs before hval hW (hcond _ rfl) ⟨GG.of_laid hL (.head _) (.tail _ (.tail _ (.head _))) (.tail _ (.head _)) hSh⟩ hsz

theorem said : Rows.LinkTreeUptoSaid :=
  OpenClaim.holds_of_cond 3 Tryd.f3 rfl rfl rfl rfl rfl rfl rfl ⟨rfl, rfl, rfl, rfl, rfl⟩ rfl rfl rfl rfl rfl (by kernel_rfl) Tryd.func3 (by kernel_rfl)
    (of_decide_eq_true (by kernel_rfl)) (by unfold Func.isWrapper; first | (rw [if_pos (by decide +kernel)]; kernel_rfl) | (rw [if_neg (by decide +kernel)]; exact ⟨rfl, rfl⟩))
    (fun os started H enc _ F => by rw [OpenClaim.pre_eq_preRow]; exact lifted os started H enc F)
theorem plain (f : FuncId) (fn : Func) (hf : Tryd.pinned.checked.prog.funcNamed "understudy/understudylaw09.LinkTree" = some f) (hfn : Tryd.pinned.checked.prog.funcs[f]? = some fn) :
    true = Tryd.pinned.checked.prog.looks [] ∧ ∀ (j : Nat) t, fn.params[j]? = some t → Tryd.pinned.checked.prog.wantsStandIn t = false := by
  obtain rfl : f = 3 := Option.some.inj ((show Tryd.prog.funcNamed "understudy/understudylaw09.LinkTree" = some 3 by kernel_rfl).symm.trans hf) |>.symm
  obtain rfl : fn = Tryd.f3 := (Option.some.inj (Tryd.func3.symm.trans hfn)).symm
  refine ⟨by kernel_rfl, fun j t ht => ?_⟩
  rw [Tryd.params3] at ht
  have hm := Array.mem_of_getElem? ht
  simp only [List.mem_toArray, List.mem_cons, List.not_mem_nil, or_false] at hm
  rcases hm with rfl | rfl | rfl
  all_goals first | exact (show Tryd.prog.wantsStandIn _ = false by kernel_rfl)
theorem card : Rows.LinkTreeUptoCardSaid :=
  Claim7.holds_tied_plain_at .later [] _ _ _ _ said (fun _ h => by cases h) (by kernel_rfl) (fun _ h => by cases h) linkTreeUpto_row_tie rfl ⟨rfl, rfl⟩ (by kernel_rfl) rfl plain (by kernel_rfl)
end Go.Proofs.YtoonhpcjcimecaaDoor.linkTree
namespace Go.Proofs.YtoonhpcjcimecaaDoor
theorem linkTree_holds : Rows.LinkTreeUptoCardSaid := linkTree.card
#print axioms linkTree_holds
end Go.Proofs.YtoonhpcjcimecaaDoor
