/- The pure statement of KindFields. -/
import Derived.Test.YtmmhajoadplgcaaRKindRefField
import Derived.Test.YtmmhajoadplgcaaRKindAwake
import Derived.Test.YtmmhajoadplgcaaRPx7
namespace Go.Proofs.YtmmhajoadplgcaaR.Px
open Go.RowKit Go.Proofs.YtmmhajoadplgcaaRW.PrintWords Go.Proofs.YtmmhajoadplgcaaRW.PrintLast Go.Proofs.YtmmhajoadplgcaaRW.PrintMore
set_option linter.unusedVariables false
set_option linter.unusedSimpArgs false

theorem KindFields_pure (a0 : ByteArray) (h : a0.size ≤ 4294967280) : ∃ k, understudylaw08_KindFields.f k a0 = some true := by
  obtain ⟨l, rfl⟩ : ∃ l, a0 = BA l := ⟨_, (BA_eta a0).symm⟩
  rw [BA_size] at h
  refine Ev.rounds ?_
  unfold understudylaw08_KindFields.f
  refine Ev.bind (kind_Field.ev l h) (Ev.bind (ref_Field.ev l h) ?_)
  simp only [beq_self_eq_true, Bool.and_self, if_true]
  exact Ev.bind kind_awake.ev (Ev.now _)
end Go.Proofs.YtmmhajoadplgcaaR.Px
