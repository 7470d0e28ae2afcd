/- The pure statement of PoolEncodes: the reference's Encode comes to the same bytes. -/
import Derived.Test.YtglnhkgodgjepaaDoorPoolBytes
import Derived.Test.YtglnhkgodgjepaaDoorPoolCheckRef
import Derived.Test.YtglnhkgodgjepaaDoorPoolAwake
import Derived.Test.YtglnhkgodgjepaaDoorPx9
import Derived.Test.YtglnhkgodgjepaaDoorPx8
namespace Go.Proofs.YtglnhkgodgjepaaDoor.Px
open Go.RowKit Go.Proofs.YtglnhkgodgjepaaDoorW.PrintWords Go.Proofs.YtglnhkgodgjepaaDoorW.PrintLast Go.Proofs.YtglnhkgodgjepaaDoorW.PrintMore
set_option linter.unusedVariables false
set_option linter.unusedSimpArgs false

theorem be1 (x : Int) : beN 1 x = [x % 256] := by simp [beN]
theorem be2 (x : Int) : beN 2 x = [x / 256 % 256, x % 256] := by simp [beN]
theorem be4 (x : Int) : beN 4 x = [x / 16777216 % 256, x / 65536 % 256, x / 256 % 256, x % 256] := by simp [beN]
theorem ref_two.eq (x : Int) : understudyref04_two.f x = some (beN 2 x) := by unfold understudyref04_two.f; rw [be2]
/-- The eight bytes of a long, one round each. -/
theorem refP_Encode.ev_8 (p : List Cst) (i : Int) (c : Cst) (r : List Int × Int) : ∀ n (bs : List Int), n ≤ 8 → bs.length + n < 140737488355328 → Ev (fun k => understudyref04_Encode.l0 k p (bs ++ beN n c.f2) (wrap64 (i + 1))) r →
    Ev (fun k => understudyref04_Encode.l1 k p bs i (8 * (n : Int) - 8) c.f0 c.f1 c.f2 c.f3 c.f4) r
  | 0, bs, _, _, h => by
    refine Ev.step (fun k => by simp only [understudyref04_Encode.l1]; rw [if_neg (by omega)]) ?_
    simp only [beN, List.append_nil] at h
    exact h
  | n + 1, bs, hn, hl, h => by
    have e1 : shr .i64 c.f2 (8 * ((n + 1 : Nat) : Int) - 8) = c.f2 / 2 ^ (8 * n) := by
      unfold shr
      have : min (8 * ((n + 1 : Nat) : Int) - 8).toNat IntKind.i64.bits = 8 * n := by
        have : IntKind.i64.bits = 64 := rfl
        omega
      rw [this]
    have e2 : wrap64 (8 * ((n + 1 : Nat) : Int) - 8 - 8) = 8 * (n : Int) - 8 := by unfold wrap64; omega
    refine Ev.step (f := fun k => understudyref04_Encode.l1 k p (bs ++ [c.f2 / 2 ^ (8 * n) % 256]) i (8 * (n : Int) - 8) c.f0 c.f1 c.f2 c.f3 c.f4) (fun k => ?_) ?_
    · simp only [understudyref04_Encode.l1]
      rw [if_pos (by omega), if_pos (by omega), if_pos (by omega), e1, e2]
    · refine refP_Encode.ev_8 p i c r n _ (by omega) (by rw [List.length_append, List.length_singleton]; omega) ?_
      rw [List.append_assoc]
      exact h
theorem refP_Encode.ev_l {p : List Cst} (hp : ∀ c ∈ p, FitC c) (hl : p.length ≤ 1024) (h1 : ∀ j : Nat, 1 ≤ j → j < p.length → oneV p (rd_T33 p (j : Int)) = 0) :
    ∀ n (i : Nat) (bs : List Int), p.length ≤ i + n → 1 ≤ i → i ≤ p.length → bs.length ≤ 2 + 259 * i → Ev (fun k => understudyref04_Encode.l0 k p bs (i : Int)) (bs ++ (p.drop i).flatMap constL, 0) := by
  have stop : ∀ (i : Nat) (bs : List Int), ¬ i < p.length → Ev (fun k => understudyref04_Encode.l0 k p bs (i : Int)) (bs ++ (p.drop i).flatMap constL, 0) := by
    intro i bs hi
    refine Ev.step (f := fun _ => some (bs, 0)) (fun k => by simp only [understudyref04_Encode.l0]; rw [if_neg (by omega)]) ?_
    rw [List.drop_eq_nil_of_le (by omega), List.flatMap_nil, List.append_nil]
    exact Ev.now _
  intro n
  induction n with
  | zero => intro i bs h hi hi2 hb; exact stop i bs (by omega)
  | succ n ih =>
    intro i bs h hi hi2 hb
    by_cases hlt : i < p.length
    · have ok := oneV_ok hl (h1 i (by omega) hlt)
      have hc := constL_len ok
      have hfit : FitC (rd_T33 p (i : Int)) := fit_rd hp _
      have hI := ih (i + 1) (bs ++ constL (rd_T33 p (i : Int))) (by omega) (by omega) (by omega) (by rw [List.length_append]; omega)
      have hw : wrap64 ((i : Int) + 1) = ((i + 1 : Nat) : Int) := by unfold wrap64; omega
      rw [drop_rd hlt, List.flatMap_cons, ← List.append_assoc]
      obtain ⟨c, hcc⟩ : ∃ c, rd_T33 p (i : Int) = c := ⟨_, rfl⟩
      rw [hcc] at ok hc hfit hI ⊢
      generalize (bs ++ constL c ++ (p.drop (i + 1)).flatMap constL, (0 : Int)) = R at hI ⊢
      clear ih
      have hbl := bodyL_len ok
      have hlc : (bs ++ [c.f0 % 256]).length = bs.length + 1 := by simp
      unfold constL bodyL at hI
      rw [be1, ← List.append_assoc, ← hw] at hI
      refine Ev.step (fun k => by simp only [understudyref04_Encode.l0]; rw [if_pos (by omega), if_pos (by omega), if_pos (by omega), Option.bind_some, hcc]) ?_
      simp only [ref_two.eq, Option.bind_some]
      by_cases h1 : c.f0 = 1
      · have ht := ok.txt h1
        simp only [if_pos h1] at hI ⊢
        refine Ev.bind (ref_Encode.ev c.f1 hfit.1) ?_
        refine Ev.congr (fun k => (if_pos (by rw [hlc, beN_length]; omega)).trans (if_pos (by rw [List.length_append, hlc, beN_length]; omega))) ?_
        simp only [List.append_assoc] at hI ⊢
        exact hI
      simp only [if_neg h1] at hI ⊢
      by_cases h3 : c.f0 = 3
      · simp only [if_pos h3, be4] at hI ⊢
        exact Ev.congr (fun k => if_pos (by rw [hlc]; simp only [List.length_cons, List.length_nil]; omega)) hI
      simp only [if_neg h3] at hI ⊢
      by_cases h5 : c.f0 = 5
      · simp only [if_pos h5] at hI ⊢
        exact refP_Encode.ev_8 p i c R 8 _ (by omega) (by rw [hlc]; omega) hI
      simp only [if_neg h5] at hI ⊢
      by_cases h7 : c.f0 = 7
      · simp only [if_pos h7] at hI ⊢
        exact Ev.congr (fun k => if_pos (by rw [hlc, beN_length]; omega)) hI
      simp only [if_neg h7] at hI ⊢
      refine Ev.congr (fun k => (if_pos (by rw [hlc, beN_length]; omega)).trans (if_pos (by rw [List.length_append, hlc, beN_length, beN_length]; omega))) ?_
      simp only [List.append_assoc] at hI ⊢
      exact hI
    · exact stop i bs hlt
theorem refP_Encode.ev (p : List Cst) (hp : ∀ c ∈ p, FitC c) : Ev (fun k => understudyref04_Encode.f k p) (encPV p) := by
  unfold understudyref04_Encode.f encPV
  refine Ev.bind (ref_Check.ev p hp) ?_
  by_cases h : checkV p = 0
  · obtain ⟨h0, hl, hz, h1⟩ := checkV_ok h
    simp only [if_pos h, ref_two.eq, Option.bind_some]
    exact refP_Encode.ev_l hp hl h1 p.length 1 (beN 2 (p.length : Int)) (by omega) (by omega) (by omega) (by rw [beN_length]; omega)
  · simp only [if_neg h]
    exact Ev.now _
theorem PoolEncodes_pure (p : List Cst) (hl : p.length ≤ 1048576) (hp : ∀ c ∈ p, FitC c) : ∃ k, understudylaw04_PoolEncodes.f k p = some true := by
  refine Ev.rounds ?_
  unfold understudylaw04_PoolEncodes.f
  simp only [Option.bind_some, List.nil_append, List.length_nil]
  refine Ev.congr (fun k => if_pos (by omega)) ?_
  refine Ev.bind (pool_Encode.ev p hp) (Ev.bind (refP_Encode.ev p hp) ?_)
  simp only [if_true]
  rw [pool_awake.eq]
  exact Ev.now _
end Go.Proofs.YtglnhkgodgjepaaDoor.Px
