/- strings.Cut: what it computes, by the shelf's contract. -/
import Derived.Test.YtcoghiefkogklaaGG
namespace Go.Proofs.Ytcoghiefkogklaa.Px
open Go.RowKit Go.Proofs.YtcoghiefkogklaaW.PrintWords Go.Proofs.YtcoghiefkogklaaW.PrintLast Go.Proofs.YtcoghiefkogklaaW.PrintMore

def strings_Cut.f (a0 a1 : ByteArray) : Option (ByteArray × ByteArray × Bool) :=
  if a0.size < 4294967281 then some (⟨(Lib.cut a0.data.toList a1.data.toList).1.toArray⟩, ⟨(Lib.cut a0.data.toList a1.data.toList).2.1.toArray⟩, (Lib.cut a0.data.toList a1.data.toList).2.2) else none
theorem strings_Cut.calls (a0 a1 : ByteArray) (r1 r2 : ByteArray) (r3 : Bool) (w : World) (hG : Aside0 (GG w)) (h : strings_Cut.f a0 a1 = some (r1, r2, r3)) :
    Calls Try.prog 12 #[.string a0, .string a1] w fun e w' => e = .returned (.tuple #[.string r1, .string r2, .bool r3]) ∧ Drawn0 w w' := by
  unfold strings_Cut.f at h
  by_cases hs : a0.size < 4294967281
  · rw [if_pos hs] at h
    simp only [Option.some.injEq, Prod.mk.injEq] at h
    obtain ⟨rfl, rfl, rfl⟩ := h
    obtain ⟨m, hm⟩ := hG.out.maxLen
    refine (Try.strings_Cut a0 a1 m w hs hm).mono ?_
    rintro e w' ⟨he, hd⟩
    exact ⟨he, ⟨hd⟩⟩
  · rw [if_neg hs] at h
    exact absurd h (by simp)
end Go.Proofs.Ytcoghiefkogklaa.Px
