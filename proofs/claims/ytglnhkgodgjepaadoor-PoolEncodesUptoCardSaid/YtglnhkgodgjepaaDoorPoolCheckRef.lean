/- Plain law of the reference's check of a pool: it comes to the same. -/
import Derived.Test.YtglnhkgodgjepaaDoorPoolCheckV
import Derived.Test.YtglnhkgodgjepaaDoorTextMath
import Derived.Test.YtglnhkgodgjepaaDoorPx8
import Derived.Test.YtglnhkgodgjepaaDoorPx7
import Derived.Test.YtglnhkgodgjepaaDoorPx6
namespace Go.Proofs.YtglnhkgodgjepaaDoor.Px
open Go.RowKit Go.Proofs.YtglnhkgodgjepaaDoorW.PrintWords Go.Proofs.YtglnhkgodgjepaaDoorW.PrintLast Go.Proofs.YtglnhkgodgjepaaDoorW.PrintMore
set_option linter.unusedVariables false
set_option linter.unusedSimpArgs false

theorem ref_is.eq (l : List Cst) (i tag : Int) : understudyref04_is.f l i tag = some (isV l i tag) := by
  rw [← pool_is.eq]
  unfold understudyref04_is.f pool_is.f
  by_cases h1 : i > 0
  · rw [if_pos h1, if_pos (by omega)]
  · rw [if_neg h1, if_neg (by omega)]
theorem ref_bare.at1 (c : Cst) : understudyref04_bare.f 1 c.f0 c.f1 c.f2 c.f3 c.f4 = some (bareV c) := by
  unfold bareV understudyref04_bare.f
  simp only [understudyref04_bare.j0, beq_iff_eq]
  have e3 : ∀ (a b : Prop) [Decidable a] [Decidable b], (if a then some (decide b) else some false : Option Bool) = some (decide (a ∧ b)) := by
    intro a b _ _
    by_cases ha : a
    · rw [if_pos ha]; simp [ha]
    · rw [if_neg ha]; simp [ha]
  have e2 : ∀ (a : Prop) [Decidable a] (y : Int), (if a then some (y == 0) else some false : Option Bool) = some (decide (a ∧ y = 0)) := by
    intro a _ y
    by_cases ha : a
    · rw [if_pos ha]
      congr 1
      rw [Bool.eq_iff_iff, beq_iff_eq, decide_eq_true_eq]
      exact ⟨fun h => ⟨ha, h⟩, fun h => h.2⟩
    · rw [if_neg ha]; simp [ha]
  simp only [e2, e3]
  by_cases h1 : c.f0 = 1
  · rw [if_pos h1, if_pos h1]
  rw [if_neg h1, if_neg h1]
  by_cases h3 : c.f0 = 3
  · rw [if_pos h3, if_pos h3, if_pos (show c.f0 = 3 ∨ c.f0 = 5 by omega)]
  rw [if_neg h3]
  by_cases h5 : c.f0 = 5
  · rw [if_pos h5, if_pos (show c.f0 = 3 ∨ c.f0 = 5 by omega)]
  rw [if_neg h5, if_neg (show ¬ (c.f0 = 3 ∨ c.f0 = 5) by omega)]
  by_cases h7 : c.f0 = 7
  · rw [if_pos h7, if_pos h7]
  rw [if_neg h7, if_neg h7]
theorem ref_bare.ev (c : Cst) : Ev (fun k => understudyref04_bare.f k c.f0 c.f1 c.f2 c.f3 c.f4) (bareV c) := Ev.of (fun k => understudyref04_bare.mono _ _ _ _ _ k) (ref_bare.at1 c)
theorem ref_one.ev (p : List Cst) (hp : ∀ c ∈ p, FitC c) (i : Nat) (hi : i < p.length) : Ev (fun k => understudyref04_one.f k p (i : Int)) (oneV p (rd_T33 p (i : Int))) := by
  obtain ⟨c, hc⟩ : ∃ c, c = rd_T33 p (i : Int) := ⟨_, rfl⟩
  have hfit : FitC c := hc ▸ fit_rd hp _
  rw [← hc]
  unfold understudyref04_one.f
  simp only [← hc]
  refine Ev.congr (fun k => (if_pos (by omega)).trans (if_pos (by omega))) (Ev.bind (ref_bare.ev c) ?_)
  by_cases hb : bareV c = true
  · refine Ev.congr (fun k => if_pos hb) ?_
    by_cases h1 : c.f0 = 1
    · have hl : leadsV p c = true := by unfold leadsV; rw [if_pos (by omega)]
      refine Ev.congr (fun k => if_pos h1) (Ev.bind (ref_Encode.ev c.f1 hfit.1) ?_)
      by_cases he : (encV c.f1).2 = 0
      · refine Ev.congr (fun k => if_pos he) ?_
        by_cases hn : (encV c.f1).1.length ≤ 256
        · have hV : oneV p c = 0 := by unfold oneV; rw [if_pos ⟨hb, hl⟩, if_neg (fun h => h.2 ⟨he, hn⟩)]
          rw [hV]
          exact Ev.step (f := fun _ => some 0) (fun k => by simp only [understudyref04_one.j0]; rw [if_neg (by rw [decide_eq_false (by omega)]; simp)]) (Ev.now _)
        · have hV : oneV p c = 20 := by unfold oneV; rw [if_pos ⟨hb, hl⟩, if_pos ⟨h1, fun h => hn h.2⟩]
          rw [hV]
          exact Ev.step (f := fun _ => some 20) (fun k => by simp only [understudyref04_one.j0]; rw [if_pos (by rw [decide_eq_true (by omega)])]) (Ev.now _)
      · have hV : oneV p c = 20 := by unfold oneV; rw [if_pos ⟨hb, hl⟩, if_pos ⟨h1, fun h => he h.1⟩]
        rw [hV]
        refine Ev.congr (fun k => if_neg he) ?_
        exact Ev.step (f := fun _ => some 20) (fun k => by simp only [understudyref04_one.j0]; rw [if_pos trivial]) (Ev.now _)
    · have hV : oneV p c = if leadsV p c = true then 0 else 40 := by
        unfold oneV
        by_cases hl : leadsV p c = true
        · rw [if_pos ⟨hb, hl⟩, if_neg (fun h => h1 h.1), if_pos hl]
        · rw [if_neg (fun h => hl h.2), if_neg hl]
      rw [hV]
      unfold leadsV
      refine Ev.congr (fun k => if_neg h1) ?_
      simp only [ref_is.eq, Option.bind_some]
      have two : ∀ a b : Bool, (if a = true then (if b = true then some 0 else some 40) else some 40 : Option Int) = some (if (a && b) = true then 0 else 40) := by intro a b; cases a <;> cases b <;> rfl
      have one : ∀ a : Bool, (if a = true then some 0 else some 40 : Option Int) = some (if a = true then 0 else 40) := by intro a; cases a <;> rfl
      by_cases h3 : c.f0 = 3
      · refine Ev.congr (f := fun _ => some (if decide (-2147483648 ≤ c.f2 ∧ c.f2 ≤ 2147483647) = true then 0 else 40)) (fun k => ?_) ?_
        · rw [if_pos h3]
          by_cases ha : c.f2 ≥ -2147483648
          · by_cases hb2 : c.f2 ≤ 2147483647
            · rw [if_pos ha, if_pos hb2, if_pos (by rw [decide_eq_true_eq]; omega)]
            · rw [if_pos ha, if_neg hb2, if_neg (by rw [decide_eq_true_eq]; omega)]
          · rw [if_neg ha, if_neg (by rw [decide_eq_true_eq]; omega)]
        · rw [if_neg (show ¬ (c.f0 = 1 ∨ c.f0 = 5) by omega), if_pos h3]
          exact Ev.now _
      by_cases h5 : c.f0 = 5
      · refine Ev.congr (f := fun _ => some 0) (fun k => by rw [if_neg h3, if_pos h5]) ?_
        rw [if_pos (show c.f0 = 1 ∨ c.f0 = 5 by omega), if_pos rfl]
        exact Ev.now _
      by_cases h7 : c.f0 = 7
      · refine Ev.congr (f := fun _ => some (if isV p c.f3 1 = true then 0 else 40)) (fun k => by rw [if_neg h3, if_neg h5, if_pos h7, one]) ?_
        rw [if_neg (show ¬ (c.f0 = 1 ∨ c.f0 = 5) by omega), if_neg h3, if_pos h7]
        exact Ev.now _
      by_cases h12 : c.f0 = 12
      · refine Ev.congr (f := fun _ => some (if (isV p c.f3 1 && isV p c.f4 1) = true then 0 else 40)) (fun k => by rw [if_neg h3, if_neg h5, if_neg h7, if_pos h12, two]) ?_
        rw [if_neg (show ¬ (c.f0 = 1 ∨ c.f0 = 5) by omega), if_neg h3, if_neg h7, if_pos h12]
        exact Ev.now _
      have last : ∀ b : Bool, Ev (fun k => understudyref04_one.j1 k p b c.f0 c.f1 c.f2 c.f3 c.f4) (if b = true then (if (isV p c.f3 7 && isV p c.f4 12) = true then 0 else 40) else 40) := by
        intro b
        refine Ev.step (f := fun _ => some (if b = true then (if (isV p c.f3 7 && isV p c.f4 12) = true then 0 else 40) else 40)) (fun k => ?_) (Ev.now _)
        simp only [understudyref04_one.j1, ref_is.eq, Option.bind_some]
        cases b
        · rfl
        · exact two _ _
      rw [if_neg (show ¬ (c.f0 = 1 ∨ c.f0 = 5) by omega), if_neg h3, if_neg h7, if_neg h12]
      by_cases h9 : c.f0 = 9
      · refine Ev.congr (fun k => by rw [if_neg h3, if_neg h5, if_neg h7, if_neg h12, if_pos h9]) ?_
        rw [if_pos (show c.f0 = 9 ∨ c.f0 = 10 by omega)]
        have := last (c.f0 == 9)
        rw [if_pos (beq_iff_eq.2 h9)] at this
        exact this
      · refine Ev.congr (fun k => by rw [if_neg h3, if_neg h5, if_neg h7, if_neg h12, if_neg h9]) ?_
        have := last (c.f0 == 10)
        by_cases h10 : c.f0 = 10
        · rw [if_pos (show c.f0 = 9 ∨ c.f0 = 10 by omega)]
          rw [if_pos (beq_iff_eq.2 h10)] at this
          exact this
        · rw [if_neg (show ¬ (c.f0 = 9 ∨ c.f0 = 10) by omega)]
          rw [if_neg (fun h => h10 (beq_iff_eq.1 h))] at this
          exact this
  · have hV : oneV p c = 40 := by unfold oneV; rw [if_neg (fun h => hb h.1)]
    rw [hV]
    exact Ev.congr (fun k => if_neg hb) (Ev.now _)
theorem ref_Check.ev_l (p : List Cst) (hp : ∀ c ∈ p, FitC c) (hl : p.length ≤ 1024) : ∀ n (i : Nat), p.length ≤ i + n → i ≤ p.length → Ev (fun k => understudyref04_Check.l0 k p (i : Int)) (chkV n p i) := by
  have stop : ∀ i : Nat, ¬ i < p.length → Ev (fun k => understudyref04_Check.l0 k p (i : Int)) 0 := fun i hi => Ev.step (f := fun _ => some 0) (fun k => by simp only [understudyref04_Check.l0]; rw [if_neg (by omega)]) (Ev.now _)
  intro n
  induction n with
  | zero => intro i h h2; exact stop i (by omega)
  | succ n ih =>
    intro i h h2
    show Ev _ (if i < p.length then _ else _)
    by_cases hi : i < p.length
    · rw [if_pos hi]
      refine Ev.step (f := fun k => (understudyref04_one.f k p (i : Int)).bind fun t170 => if t170 = 0 then understudyref04_Check.l0 k p ((i + 1 : Nat) : Int) else some t170) (fun k => ?_) ?_
      · simp only [understudyref04_Check.l0]
        rw [if_pos (by omega), w64 (by omega) (by omega)]
        rfl
      refine Ev.bind (ref_one.ev p hp i hi) ?_
      by_cases h0 : oneV p (rd_T33 p (i : Int)) = 0
      · rw [if_pos h0]
        exact Ev.congr (fun k => if_pos h0) (ih (i + 1) (by omega) (by omega))
      · rw [if_neg h0]
        exact Ev.congr (fun k => if_neg h0) (Ev.now _)
    · rw [if_neg hi]
      exact stop i hi
theorem ref_Check.ev (p : List Cst) (hp : ∀ c ∈ p, FitC c) : Ev (fun k => understudyref04_Check.f k p) (checkV p) := by
  unfold checkV
  have j0 : ∀ b : Bool, ∀ r, (b = false → Ev (fun k => understudyref04_Check.l0 k p 1) r) → Ev (fun k => understudyref04_Check.j0 k p b) (if b = true then 40 else r) := by
    intro b r hr
    cases b with
    | true => exact Ev.step (f := fun _ => some 40) (fun k => by simp only [understudyref04_Check.j0]; rw [if_pos trivial]) (Ev.now _)
    | false => exact Ev.step (fun k => by simp only [understudyref04_Check.j0]; rw [if_neg (by simp)]) (hr rfl)
  by_cases c1 : p.length > 1024
  · rw [if_pos c1]
    exact Ev.congr (f := fun _ => some 2) (fun k => by unfold understudyref04_Check.f; rw [if_pos (by omega)]) (Ev.now _)
  rw [if_neg c1]
  by_cases c2 : p.length = 0
  · rw [if_pos c2]
    exact Ev.congr (fun k => by unfold understudyref04_Check.f; rw [if_neg (by omega), if_pos (by omega)]) (j0 true 0 (fun h => by cases h))
  rw [if_neg c2]
  have hz : (!((rd_T33 p 0).f0 == 0) || (!(((rd_T33 p 0).f1).toList == ([] : List UInt8)) || (!((rd_T33 p 0).f2 == 0) || (!((rd_T33 p 0).f3 == 0) || (!((rd_T33 p 0).f4 == 0)))))) = !(zeroV (rd_T33 p 0)) := by
    unfold zeroV
    rw [Bool.eq_iff_iff]
    simp only [Bool.or_eq_true, Bool.not_eq_true', beq_eq_false_iff_ne, decide_eq_false_iff_not]
    simp only [ne_eq]
    by_cases a1 : (rd_T33 p 0).f0 = 0 <;> by_cases a2 : (rd_T33 p 0).f1.toList = [] <;> by_cases a3 : (rd_T33 p 0).f2 = 0 <;> by_cases a4 : (rd_T33 p 0).f3 = 0 <;> simp [a1, a2, a3, a4]
  have hj := j0 (!(zeroV (rd_T33 p 0))) (chkV p.length p 1) (fun _ => ref_Check.ev_l p hp (by omega) p.length 1 (by omega) (by omega))
  refine Ev.congr (f := fun k => understudyref04_Check.j0 k p (!(zeroV (rd_T33 p 0)))) (fun k => ?_) ?_
  · unfold understudyref04_Check.f
    rw [if_neg (by omega), if_neg (by omega), if_pos (by omega), hz]
  · cases h : zeroV (rd_T33 p 0)
    · rw [h] at hj; exact hj
    · rw [h] at hj; exact hj
end Go.Proofs.YtglnhkgodgjepaaDoor.Px
