/- The pure statement of PoolLooks: for every pool and every place. -/
import Derived.Test.YtmmhajoadplgcaaRPoolLooks
import Derived.Test.YtmmhajoadplgcaaRPx3
import Derived.Lib.Strings
namespace Go.Proofs.YtmmhajoadplgcaaR.Px
open Go.RowKit Go.Proofs.YtmmhajoadplgcaaRW.PrintWords Go.Proofs.YtmmhajoadplgcaaRW.PrintLast Go.Proofs.YtmmhajoadplgcaaRW.PrintMore
set_option linter.unusedVariables false
theorem pool_awake.eq : understudylaw04_awake.f = some true := by
  unfold understudylaw04_awake.f
  rw [pool_Text.eq, Option.bind_some]
  have h : textV [(⟨0, (⟨#[]⟩ : ByteArray), 0, 0, 0⟩ : S45), (⟨1, (⟨#[65]⟩ : ByteArray), 0, 0, 0⟩ : S45)] 1 = ((⟨#[65]⟩ : ByteArray), true) := rfl
  rw [h, Lib.toList_data]
  rfl
theorem PoolLooks_pure (l : List S45) (i : Int) : ∃ k, understudylaw04_PoolLooks.f k l i = some true := by
  refine ⟨4, ?_⟩
  unfold understudylaw04_PoolLooks.f
  rw [pool_Text.eq, Option.bind_some, ref_Text.eq, Option.bind_some, if_pos rfl]
  simp only [understudylaw04_PoolLooks.j0, understudylaw04_PoolLooks.j1]
  rw [if_neg (by simp), pool_Class.eq, Option.bind_some, ref_Class.eq, Option.bind_some, if_pos rfl, if_neg (by simp), pool_Ref.eq 1, Option.bind_some, ref_Ref.eq 0, Option.bind_some, if_pos rfl, if_pos rfl, if_pos rfl, if_pos (by simp), pool_awake.eq, Option.bind_some]
end Go.Proofs.YtmmhajoadplgcaaR.Px
