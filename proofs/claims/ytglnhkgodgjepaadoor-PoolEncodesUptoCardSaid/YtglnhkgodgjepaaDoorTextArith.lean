/- Arithmetic of modified UTF-8: a unit's bytes. -/
import Derived.Test.YtglnhkgodgjepaaDoorPx2
import Derived.Laws.BitsLemmas
import Derived.WalkKit
namespace Go.Proofs.YtglnhkgodgjepaaDoor.Px
open Go.RowKit Go.Proofs.YtglnhkgodgjepaaDoorW.PrintWords Go.Proofs.YtglnhkgodgjepaaDoorW.PrintLast Go.Proofs.YtglnhkgodgjepaaDoorW.PrintMore
set_option linter.unusedVariables false
set_option linter.unusedSimpArgs false

theorem w64 {x : Int} (h0 : -9223372036854775808 ≤ x) (h1 : x ≤ 9223372036854775807) : wrap64 x = x := by unfold wrap64; omega
theorem w32 {x : Int} (h0 : -2147483648 ≤ x) (h1 : x ≤ 2147483647) : wrap32 x = x := by unfold wrap32; omega
theorem wraps_i64' (n : Int) (h₀ : 0 ≤ n) (h₁ : n < 2 ^ 63) : IntKind.i64.wrap n = n := by
  have h1 : n < 9223372036854775808 := h₁
  rw [i64_w]
  exact w64 (by omega) (by omega)
theorem and64 (i : Nat) (hi : i ≤ 62) (x : Int) (h0 : 0 ≤ x) (h1 : x < 2 ^ 63) : bits .and .i64 x (2 ^ i - 1) = x % 2 ^ i := bits_mask .i64 63 (by decide) wraps_i64' i (by omega) x h0 h1

/-- A unit's bytes. -/
def unitL (u : Int) : List Int := if 1 ≤ u ∧ u ≤ 127 then [u] else if u ≤ 2047 then [192 + u / 64, 128 + u % 64] else [224 + u / 4096, 128 + u / 64 % 64, 128 + u % 64]
theorem unitL_len (u : Int) : (unitL u).length ≤ 3 := by unfold unitL; split <;> (try split) <;> simp
/-- A code point's bytes. -/
def cuL (c : Int) : List Int := if c < 65536 then unitL c else unitL (55296 + (c - 65536) / 1024) ++ unitL (56320 + (c - 65536) % 1024)
theorem cuL_len (c : Int) : (cuL c).length ≤ 6 := by
  unfold cuL
  have h1 := unitL_len c
  have h2 := unitL_len (55296 + (c - 65536) / 1024)
  have h3 := unitL_len (56320 + (c - 65536) % 1024)
  split
  · omega
  · rw [List.length_append]; omega

theorem text_unit.ev (b : List Int) (u : Int) (h0 : 0 ≤ u) (h1 : u < 65536) (hb : b.length + 3 < 140737488355328) : Ev (fun k => text_unit.f k b u) (b ++ unitL u) := by
  refine ⟨1, fun k hk => ?_⟩
  obtain ⟨k, rfl⟩ : ∃ m, k = m + 1 := ⟨k - 1, by omega⟩
  have m63 : ∀ x : Int, 0 ≤ x → x < 2147483648 → bits .and .i32 x 63 = x % 64 := fun x a b => bits_mask .i32 31 (by decide) wraps_i32 6 (by decide) x a b
  show text_unit.f (k + 1) b u = _
  unfold text_unit.f unitL
  by_cases c1 : 1 ≤ u ∧ u ≤ 127
  · rw [if_pos c1, if_pos (by omega), decide_eq_true (by omega)]
    simp only [text_unit.j0]
    rw [if_pos trivial, if_pos (by omega), show u % 256 = u from by omega]
  · rw [if_neg c1]
    have key : text_unit.j0 (k + 1) b u false = some (b ++ if u ≤ 2047 then [192 + u / 64, 128 + u % 64] else [224 + u / 4096, 128 + u / 64 % 64, 128 + u % 64]) := by
      simp only [text_unit.j0]
      rw [if_neg (by simp), m63 u h0 (by omega), m63 (u / 64) (by omega) (by omega)]
      by_cases c2 : u ≤ 2047
      · rw [if_pos (by omega), if_pos c2, Option.bind_some, show u / 64 % 256 = u / 64 from by omega, show u % 64 % 256 = u % 64 from by omega, u8_or192 _ (by omega) (by omega), u8_or128 _ (by omega) (by omega)]
        rw [if_pos (by simp; omega)]
      · rw [if_neg (by omega), if_neg c2, Option.bind_some, show u / 4096 % 256 = u / 4096 from by omega, show u % 64 % 256 = u % 64 from by omega, show u / 64 % 64 % 256 = u / 64 % 64 from by omega, u8_or224 _ (by omega) (by omega), u8_or128 _ (by omega) (by omega), u8_or128 _ (by omega) (by omega)]
        rw [if_pos (by simp; omega)]
    by_cases c3 : u > 0
    · rw [if_pos c3, decide_eq_false (by omega), key]
    · rw [if_neg c3, key]

end Go.Proofs.YtglnhkgodgjepaaDoor.Px
