/- The pure statement of PoolRight: in a pool that may be all lead somewhere. -/
import Derived.Test.YtglnhkgodgjepaaDoorPoolCheckV
import Derived.Test.YtglnhkgodgjepaaDoorPx4
import Derived.Test.YtglnhkgodgjepaaDoorPx5
namespace Go.Proofs.YtglnhkgodgjepaaDoor.Px
open Go.RowKit Go.Proofs.YtglnhkgodgjepaaDoorW.PrintWords Go.Proofs.YtglnhkgodgjepaaDoorW.PrintLast Go.Proofs.YtglnhkgodgjepaaDoorW.PrintMore
set_option linter.unusedVariables false
set_option linter.unusedSimpArgs false

def classV (l : List S33) (i : Int) : ByteArray × Bool := if isV l i 7 = true then textV l (rd_T33 l i).f3 else (noText, false)
def refV (l : List S33) (i : Int) : ByteArray × ByteArray × ByteArray × Bool :=
  if (isV l i 9 || isV l i 10) = true ∧ isV l (rd_T33 l i).f4 12 = true ∧ (classV l (rd_T33 l i).f3).2 = true ∧ (textV l (rd_T33 l (rd_T33 l i).f4).f3).2 = true ∧ (textV l (rd_T33 l (rd_T33 l i).f4).f4).2 = true
  then ((classV l (rd_T33 l i).f3).1, (textV l (rd_T33 l (rd_T33 l i).f4).f3).1, (textV l (rd_T33 l (rd_T33 l i).f4).f4).1, true) else (noText, noText, noText, false)
theorem pool_Class.eq (l : List S33) (i : Int) : pool_Class.f l i = some (classV l i) := by
  unfold pool_Class.f classV
  rw [pool_is.eq, Option.bind_some]
  by_cases h : isV l i 7 = true
  · have := isV_pos h
    rw [if_pos h, if_pos h, if_pos (by omega), if_pos this.2.1, pool_Text.eq, Option.bind_some]
  · rw [if_neg h, if_neg h]; rfl
theorem pool_Ref.eq (k : Nat) (l : List S33) (i : Int) : pool_Ref.f (k + 1) l i = some (refV l i) := by
  have key : ∀ b, b = (isV l i 9 || isV l i 10) → pool_Ref.j0 (k + 1) l i b = some (refV l i) := by
    intro b hb
    simp only [pool_Ref.j0]
    unfold refV
    by_cases h : b = true
    · have hi : 0 < i ∧ i < (l.length : Int) := by
        rw [h] at hb
        rcases Bool.or_eq_true _ _ ▸ hb.symm with h1 | h1
        · exact ⟨(isV_pos h1).1, (isV_pos h1).2.1⟩
        · exact ⟨(isV_pos h1).1, (isV_pos h1).2.1⟩
      rw [if_pos h, if_pos (by omega), if_pos hi.2, pool_is.eq, Option.bind_some]
      rw [hb] at h
      by_cases h12 : isV l (rd_T33 l i).f4 12 = true
      · have h4 := isV_pos h12
        rw [if_pos h12, pool_Class.eq, Option.bind_some, if_pos (by omega), if_pos h4.2.1, pool_Text.eq, Option.bind_some, pool_Text.eq, Option.bind_some]
        by_cases c1 : (classV l (rd_T33 l i).f3).2 = true
        · rw [if_pos c1]
          by_cases c2 : (textV l (rd_T33 l (rd_T33 l i).f4).f3).2 = true
          · rw [if_pos c2]
            by_cases c3 : (textV l (rd_T33 l (rd_T33 l i).f4).f4).2 = true
            · rw [if_pos c3, if_pos ⟨h, h12, c1, c2, c3⟩]
            · rw [if_neg c3, if_neg (fun hh => c3 hh.2.2.2.2)]; rfl
          · rw [if_neg c2, if_neg (fun hh => c2 hh.2.2.2.1)]; rfl
        · rw [if_neg c1, if_neg (fun hh => c1 hh.2.2.1)]; rfl
      · rw [if_neg h12, if_neg (fun hh => h12 hh.2.1)]; rfl
    · rw [if_neg h]
      rw [hb] at h
      rw [if_neg (fun hh => h hh.1)]; rfl
  unfold pool_Ref.f
  rw [pool_is.eq, Option.bind_some]
  by_cases h9 : isV l i 9 = true
  · rw [if_pos h9, key true (by rw [h9]; rfl)]
  · have h9' : isV l i 9 = false := by simpa using h9
    rw [if_neg h9, pool_is.eq, Option.bind_some, key _ (by rw [h9']; rfl)]

/-- A pool whose check comes to 0. -/
theorem chkV_zero (p : List Cst) : ∀ n (i : Nat), p.length ≤ i + n → chkV n p i = 0 → ∀ j : Nat, i ≤ j → j < p.length → oneV p (rd_T33 p (j : Int)) = 0 := by
  intro n
  induction n with
  | zero => intro i h _ j h1 h2; omega
  | succ n ih =>
    intro i h hz j h1 h2
    have hz' : (if i < p.length then (if oneV p (rd_T33 p (i : Int)) = 0 then chkV n p (i + 1) else oneV p (rd_T33 p (i : Int))) else 0) = 0 := hz
    rw [if_pos (by omega)] at hz'
    by_cases h0 : oneV p (rd_T33 p (i : Int)) = 0
    · rw [if_pos h0] at hz'
      by_cases hj : j = i
      · subst hj; exact h0
      · exact ih (i + 1) (by omega) hz' j (by omega) h2
    · rw [if_neg h0] at hz'
      exact absurd hz' h0
def Good (p : List Cst) : Prop := p.length ≤ 1024 ∧ ∀ i : Int, 0 < i → i < (p.length : Int) → leadsV p (rd_T33 p i) = true
theorem good_of_check (p : List Cst) (h : checkV p = 0) : Good p := by
  unfold checkV at h
  by_cases c1 : p.length > 1024
  · rw [if_pos c1] at h; cases h
  rw [if_neg c1] at h
  by_cases c2 : p.length = 0
  · rw [if_pos c2] at h; cases h
  rw [if_neg c2] at h
  by_cases c3 : zeroV (rd_T33 p 0) = true
  · rw [if_pos c3] at h
    refine ⟨by omega, fun i h1 h2 => ?_⟩
    have := chkV_zero p p.length 1 (by omega) h i.toNat (by omega) (by omega)
    rw [Int.toNat_of_nonneg (by omega)] at this
    unfold oneV at this
    by_cases hh : bareV (rd_T33 p i) = true ∧ leadsV p (rd_T33 p i) = true
    · exact hh.2
    · rw [if_neg hh] at this; cases this
  · rw [if_neg c3] at h; cases h
theorem not_at {p : List Cst} {i t : Int} (h : (rd_T33 p i).f0 ≠ t) : isV p i t = false := decide_eq_false (fun hh => h hh.2.2)
section
variable {p : List Cst} (hG : Good p) {i : Int} (h0 : 0 < i) (h1 : i < (p.length : Int))
include h0 h1
theorem text_is : (textV p i).2 = ((rd_T33 p i).f0 == 1) := by
  unfold textV isV
  by_cases h : (rd_T33 p i).f0 = 1
  · rw [if_pos (decide_eq_true ⟨h0, h1, h⟩), beq_iff_eq.2 h]
  · rw [if_neg (by rw [decide_eq_true_eq]; exact fun hh => h hh.2.2), beq_eq_false_iff_ne.2 h]
theorem is_at {t : Int} (h : (rd_T33 p i).f0 = t) : isV p i t = true := decide_eq_true ⟨h0, h1, h⟩
include hG
theorem leads7 (h : (rd_T33 p i).f0 = 7) : isV p (rd_T33 p i).f3 1 = true := by
  have hl := hG.2 i h0 h1
  unfold leadsV at hl
  rw [if_neg (by omega), if_neg (by omega), if_pos h] at hl
  exact hl
theorem leads12 (h : (rd_T33 p i).f0 = 12) : isV p (rd_T33 p i).f3 1 = true ∧ isV p (rd_T33 p i).f4 1 = true := by
  have hl := hG.2 i h0 h1
  unfold leadsV at hl
  rw [if_neg (by omega), if_neg (by omega), if_neg (by omega), if_pos h, Bool.and_eq_true] at hl
  exact hl
theorem leads9 (h : (rd_T33 p i).f0 = 9 ∨ (rd_T33 p i).f0 = 10) : isV p (rd_T33 p i).f3 7 = true ∧ isV p (rd_T33 p i).f4 12 = true := by
  have hl := hG.2 i h0 h1
  unfold leadsV at hl
  rw [if_neg (by omega), if_neg (by omega), if_neg (by omega), if_neg (by omega), if_pos h, Bool.and_eq_true] at hl
  exact hl
theorem class_is : (classV p i).2 = ((rd_T33 p i).f0 == 7) := by
  unfold classV
  by_cases h : (rd_T33 p i).f0 = 7
  · have h7 := leads7 hG h0 h1 h
    rw [if_pos (is_at h0 h1 h), beq_iff_eq.2 h]
    unfold textV
    rw [if_pos h7]
  · rw [if_neg (by rw [not_at h]; simp), beq_eq_false_iff_ne.2 h]
theorem ref_is' : (refV p i).2.2.2 = decide ((rd_T33 p i).f0 = 9 ∨ (rd_T33 p i).f0 = 10) := by
  unfold refV
  by_cases h : (rd_T33 p i).f0 = 9 ∨ (rd_T33 p i).f0 = 10
  · obtain ⟨l7, l12⟩ := leads9 hG h0 h1 h
    obtain ⟨a0, a1, a2⟩ := isV_pos l7
    obtain ⟨b0, b1, b2⟩ := isV_pos l12
    have hc := class_is hG a0 a1
    rw [beq_iff_eq.2 a2] at hc
    obtain ⟨n1, n2⟩ := leads12 hG b0 b1 b2
    have t1 : (textV p (rd_T33 p (rd_T33 p i).f4).f3).2 = true := by unfold textV; rw [if_pos n1]
    have t2 : (textV p (rd_T33 p (rd_T33 p i).f4).f4).2 = true := by unfold textV; rw [if_pos n2]
    have hor : (isV p i 9 || isV p i 10) = true := by
      rw [Bool.or_eq_true]
      rcases h with h | h
      · exact Or.inl (is_at h0 h1 h)
      · exact Or.inr (is_at h0 h1 h)
    rw [if_pos ⟨hor, l12, hc, t1, t2⟩, decide_eq_true h]
  · have hor : ¬ (isV p i 9 || isV p i 10) = true := by
      rw [not_at (fun e => h (Or.inl e)), not_at (fun e => h (Or.inr e))]
      simp
    rw [if_neg (fun hh => hor hh.1), decide_eq_false h]
end
theorem pool_Ref.ev (p : List Cst) (i : Int) : Ev (fun k => pool_Ref.f k p i) (refV p i) := Ev.of (fun k => pool_Ref.mono _ _ k) (pool_Ref.eq 0 p i)
theorem PoolRight_l0 (p : List Cst) (hG : Good p) : ∀ n (i : Nat), p.length ≤ i + n → 0 < i → i ≤ p.length → Ev (fun k => understudylaw04_PoolRight.l0 k p (i : Int)) true := by
  have stop : ∀ i : Nat, ¬ i < p.length → Ev (fun k => understudylaw04_PoolRight.l0 k p (i : Int)) true := fun i hi => Ev.step (f := fun _ => some true) (fun k => by simp only [understudylaw04_PoolRight.l0]; rw [if_neg (by omega), pool_awake.eq, Option.bind_some]) (Ev.now _)
  intro n
  induction n with
  | zero => intro i h1 h2 h3; exact stop i (by omega)
  | succ n ih =>
    intro i h1 h2 h3
    by_cases hi : i < p.length
    · have e1 := text_is (p := p) (i := (i : Int)) (by omega) (by omega)
      have e2 := class_is hG (i := (i : Int)) (by omega) (by omega)
      have e3 := ref_is' hG (i := (i : Int)) (by omega) (by omega)
      have hl := hG.1
      obtain ⟨t, ht⟩ : ∃ t, t = (rd_T33 p (i : Int)).f0 := ⟨_, rfl⟩
      refine Ev.step (f := fun k => (pool_Ref.f k p (i : Int)).bind fun bt157 => (if (bt157.2.2.2 != decide (t = 9 ∨ t = 10)) = true then some false else understudylaw04_PoolRight.l0 k p ((i + 1 : Nat) : Int))) (fun k => ?_) ?_
      · simp only [understudylaw04_PoolRight.l0, pool_Text.eq, pool_Class.eq, Option.bind_some, e1, e2, ← ht]
        rw [if_pos (by omega), w64 (by omega) (by omega)]
        congr 1
        funext b
        rw [if_pos (by omega), if_neg (by simp), if_neg (by simp)]
        by_cases h9 : t = 9
        · rw [if_pos h9, decide_eq_true (Or.inl h9)]
          rfl
        · rw [if_neg h9]
          have : (t == 10) = decide (t = 9 ∨ t = 10) := by
            rw [Bool.eq_iff_iff, beq_iff_eq, decide_eq_true_eq]
            omega
          rw [this]
          rfl
      · refine Ev.bind (pool_Ref.ev p (i : Int)) ?_
        rw [e3, ← ht]
        exact Ev.congr (fun k => if_neg (by simp)) (ih (i + 1) (by omega) (by omega) (by omega))
    · exact stop i hi
theorem PoolRight_pure (p : List Cst) (hp : ∀ c ∈ p, FitC c) : ∃ k, understudylaw04_PoolRight.f k p = some true := by
  refine Ev.rounds ?_
  unfold understudylaw04_PoolRight.f
  refine Ev.bind (pool_Check.ev p hp) ?_
  by_cases h : checkV p = 0
  · refine Ev.congr (fun k => if_pos h) ?_
    have hG := good_of_check p h
    by_cases h1 : 1 ≤ p.length
    · exact PoolRight_l0 p hG p.length 1 (by omega) (by omega) h1
    · exact Ev.step (f := fun _ => some true) (fun k => by simp only [understudylaw04_PoolRight.l0]; rw [if_neg (by omega), pool_awake.eq, Option.bind_some]) (Ev.now _)
  · refine Ev.congr (fun k => if_neg h) ?_
    rw [pool_awake.eq]
    exact Ev.now _
end Go.Proofs.YtglnhkgodgjepaaDoor.Px
