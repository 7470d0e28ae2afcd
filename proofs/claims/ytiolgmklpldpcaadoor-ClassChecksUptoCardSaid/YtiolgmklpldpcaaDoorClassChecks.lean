/- The pure statement of ClassChecks. -/
import Derived.Test.YtiolgmklpldpcaaDoorClassRef
import Derived.Test.YtiolgmklpldpcaaDoorPx15
import Derived.Test.YtiolgmklpldpcaaDoorPx14
import Derived.Test.YtiolgmklpldpcaaDoorPx13
namespace Go.Proofs.YtiolgmklpldpcaaDoor.Px
open Go.RowKit Go.Proofs.YtiolgmklpldpcaaDoorW.PrintWords Go.Proofs.YtiolgmklpldpcaaDoorW.PrintLast Go.Proofs.YtiolgmklpldpcaaDoorW.PrintMore
set_option linter.unusedVariables false
set_option linter.unusedSimpArgs false

abbrev poolA : List Cst := [(⟨0, (⟨#[]⟩ : ByteArray), 0, 0, 0⟩ : Cst), (⟨1, (⟨#[65]⟩ : ByteArray), 0, 0, 0⟩ : Cst), (⟨7, (⟨#[]⟩ : ByteArray), 0, 1, 0⟩ : Cst)]
theorem poolA_fit : ∀ c ∈ poolA, FitC c := by
  intro c hc
  simp only [poolA, List.mem_cons, List.not_mem_nil, or_false] at hc
  rcases hc with rfl | rfl | rfl <;> exact ⟨by decide, by decide⟩
theorem poolA_check : classCheckV poolA 2 2 [] [] = 0 := by decide +kernel
theorem poolA_name : (classV poolA 2).1 = (⟨#[65]⟩ : ByteArray) := rfl
theorem class_awake.ev : Ev (fun k => understudylaw05_awake.f k) true := by
  unfold understudylaw05_awake.f
  refine Ev.bind (Ev.now poolA) ?_
  refine Ev.bind (class_Check.ev poolA (by decide) 2 2 [] [] (by decide) (by decide) (fun f h => by cases h) (fun m h => by cases h) poolA_fit) ?_
  rw [poolA_check]
  refine Ev.congr (fun k => if_pos rfl) ?_
  unfold class_Name.f
  simp only [pool_Class.eq, Option.bind_some, poolA_name]
  have e : ((⟨#[65]⟩ : ByteArray).toList == ([65] : List UInt8)) = true := by
    rw [Lib.toList_data]
    rfl
  rw [e]
  exact Ev.now _
theorem ClassChecks_pure (p : List Cst) (this super : Int) (fs : List Fld) (ms : List Mth) (hl : p.length ≤ 1048576) (hfl : fs.length ≤ 1048576) (hml : ms.length ≤ 1048576) (hf : ∀ f ∈ fs, FitF f) (hm : ∀ m ∈ ms, FitM m) (hp : ∀ c ∈ p, FitC c) : ∃ k, understudylaw05_ClassChecks.f k p this super fs ms = some true := by
  refine Ev.rounds ?_
  unfold understudylaw05_ClassChecks.f
  refine Ev.bind (class_Check.ev p hl this super fs ms hfl hml hf hm hp) (Ev.bind (ref05_Check.ev p hl this super fs ms hfl hml hf hm hp) ?_)
  refine Ev.congr (fun k => if_pos rfl) ?_
  unfold class_Name.f class_Super.f understudyref05_Name.f understudyref05_Super.f
  simp only [pool_Class.eq, ref_Class.eq, Option.bind_some, if_true]
  exact Ev.bind class_awake.ev (Ev.now _)
end Go.Proofs.YtiolgmklpldpcaaDoor.Px
