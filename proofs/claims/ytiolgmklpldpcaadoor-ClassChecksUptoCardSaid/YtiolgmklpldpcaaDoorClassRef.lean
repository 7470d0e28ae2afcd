/- The reference's check of a class comes to the same; the pure statement of ClassChecks. -/
import Derived.Test.YtiolgmklpldpcaaDoorClassCheck
import Derived.Test.YtiolgmklpldpcaaDoorPoolCheckRef
import Derived.Test.YtiolgmklpldpcaaDoorPx12
import Derived.Test.YtiolgmklpldpcaaDoorPx11
import Derived.Test.YtiolgmklpldpcaaDoorPx10
namespace Go.Proofs.YtiolgmklpldpcaaDoor.Px
open Go.RowKit Go.Proofs.YtiolgmklpldpcaaDoorW.PrintWords Go.Proofs.YtiolgmklpldpcaaDoorW.PrintLast Go.Proofs.YtiolgmklpldpcaaDoorW.PrintMore
set_option linter.unusedVariables false
set_option linter.unusedSimpArgs false

theorem ref_Text.eq (l : List Cst) (i : Int) : understudyref04_Text.f l i = some (textV l i) := by
  rw [← pool_Text.eq]
  unfold understudyref04_Text.f pool_Text.f
  rw [ref_is.eq, pool_is.eq]
theorem ref_Class.eq (l : List Cst) (i : Int) : understudyref04_Class.f l i = some (classV l i) := by
  rw [← pool_Class.eq]
  unfold understudyref04_Class.f pool_Class.f
  simp only [ref_is.eq, pool_is.eq, ref_Text.eq, pool_Text.eq]
theorem utf.eq (l : List Cst) (i : Int) : understudyref05_utf.f l i = some (txt l i) := by
  unfold understudyref05_utf.f
  rw [ref_Text.eq]
  rfl
theorem cls.eq (l : List Cst) (i : Int) : understudyref05_cls.f l i = some (cl l i) := by
  unfold understudyref05_cls.f
  rw [ref_Class.eq]
  rfl
theorem placeG_nonneg : ∀ (n : Nat) (p : List Cst) (s : ByteArray) (i : Nat), 0 ≤ placeG n p s i
  | 0, _, _, _ => Int.le_refl 0
  | n + 1, p, s, i => by
    unfold placeG
    split
    · split
      · omega
      · exact placeG_nonneg n p s (i + 1)
    · omega
theorem placeV_nonneg (p : List Cst) (s : ByteArray) : 0 ≤ placeV p s := placeG_nonneg _ _ _ _
theorem reftext.ev_l (p : List Cst) (s : ByteArray) (hl : p.length ≤ 1048576) : ∀ n (i : Nat), 0 < i → p.length ≤ i + n → Ev (fun k => understudyref05_text.l0 k p s (i : Int)) (placeG n p s i) := by
  have stop : ∀ i : Nat, ¬ i < p.length → Ev (fun k => understudyref05_text.l0 k p s (i : Int)) 0 := fun i hi => Ev.step (f := fun _ => some 0) (fun k => by simp only [understudyref05_text.l0]; rw [if_neg (by omega)]) (Ev.now _)
  intro n
  induction n with
  | zero => intro i h0 h; exact stop i (by omega)
  | succ n ih =>
    intro i h0 h
    show Ev _ (if i < p.length then _ else _)
    by_cases hi : i < p.length
    · rw [if_pos hi]
      have hv : isV p (i : Int) 1 = decide ((rd_T51 p (i : Int)).f0 = 1) := by
        unfold isV
        rw [Bool.eq_iff_iff, decide_eq_true_eq, decide_eq_true_eq]
        exact ⟨fun h => h.2.2, fun h => ⟨by omega, by omega, h⟩⟩
      refine Ev.step (f := fun k => if isV p (i : Int) 1 = true ∧ (rd_T51 p (i : Int)).f1.toList = s.toList then some (i : Int) else understudyref05_text.l0 k p s ((i + 1 : Nat) : Int)) (fun k => ?_) ?_
      · simp only [understudyref05_text.l0]
        rw [if_pos (by omega), if_pos (by omega), w64 (by omega) (by omega), hv]
        by_cases h1 : (rd_T51 p (i : Int)).f0 = 1
        · rw [if_pos h1]
          by_cases hs : (rd_T51 p (i : Int)).f1.toList = s.toList
          · rw [if_pos hs, if_pos ⟨decide_eq_true h1, hs⟩]
          · rw [if_neg hs, if_neg (fun h => hs h.2)]; rfl
        · rw [if_neg h1, if_neg (fun h => h1 (of_decide_eq_true h.1))]; rfl
      · by_cases hc : isV p (i : Int) 1 = true ∧ (rd_T51 p (i : Int)).f1.toList = s.toList
        · rw [if_pos hc]; exact Ev.congr (fun k => if_pos hc) (Ev.now _)
        · rw [if_neg hc]; exact Ev.congr (fun k => if_neg hc) (ih (i + 1) (by omega) (by omega))
    · rw [if_neg hi]; exact stop i hi
theorem reftext.ev (p : List Cst) (s : ByteArray) (hl : p.length ≤ 1048576) : Ev (fun k => understudyref05_text.f k p s) (placeV p s) := reftext.ev_l p s hl p.length 1 (by omega) (by omega)
def partB (p : List Cst) (n mn : Nat) : Bool := decide (1 ≤ n ∧ n ≤ 4096) && (decide (mn ≤ 4096) && (decide (placeV p sCode > 0) && (decide (mn = 0) || decide (placeV p sMaps > 0))))
section
variable (p : List Cst) (hl : p.length ≤ 1048576) (m : Mth) (hm : FitM m)
include hl hm
theorem rm.ev_l : ∀ d (i : Nat), m.f6.length ≤ i + d → Ev (fun k => understudyref05_method.l0 k p (m.f5.length : Int) (i : Int) m.f0 m.f1 m.f2 m.f3 m.f4 m.f5 m.f6 m.f7) ((m.f6.drop i).all (trapV p m.f5.length)) := by
  have _u := hl
  obtain ⟨hw, h5, h6, h7⟩ := hm
  have stop : ∀ i : Nat, ¬ i < m.f6.length → Ev (fun k => understudyref05_method.l0 k p (m.f5.length : Int) (i : Int) m.f0 m.f1 m.f2 m.f3 m.f4 m.f5 m.f6 m.f7) ((m.f6.drop i).all (trapV p m.f5.length)) := fun i hi => by
    rw [List.drop_eq_nil_of_le (by omega), List.all_nil]
    exact Ev.step (f := fun _ => some true) (fun k => by simp only [understudyref05_method.l0]; rw [if_neg (by omega)]) (Ev.now _)
  intro d
  induction d with
  | zero => intro i h; exact stop i (by omega)
  | succ d ih =>
    intro i h
    by_cases hi : i < m.f6.length
    · obtain ⟨t, ht⟩ : ∃ t, t = rd_T62 m.f6 (i : Int) := ⟨_, rfl⟩
      have hd : m.f6.drop i = t :: m.f6.drop (i + 1) := by
        rw [drop_getD (z := z62) i hi, ht]
        unfold rd_T62
        rw [Int.toNat_natCast]
      have j3 : ∀ b : Bool, Ev (fun k => understudyref05_method.j3 k p (m.f5.length : Int) (i : Int) b m.f0 m.f1 m.f2 m.f3 m.f4 m.f5 m.f6 m.f7) (!b && (m.f6.drop (i + 1)).all (trapV p m.f5.length)) := by
        intro b
        cases b with
        | true => exact Ev.step (f := fun _ => some false) (fun k => by simp only [understudyref05_method.j3]; rw [if_pos trivial]) (Ev.now _)
        | false =>
          rw [Bool.not_false, Bool.true_and]
          refine Ev.step (fun k => ?_) (ih (i + 1) (by omega))
          simp only [understudyref05_method.j3]
          rw [if_neg (by simp), w64 (by omega) (by omega)]
          rfl
      have pre : (i : Int) < (m.f6.length : Int) := by omega
      have pre0 : (0 : Int) ≤ (i : Int) := by omega
      rw [hd, List.all_cons]
      have bad : trapV p m.f5.length t = false → (∀ k, understudyref05_method.l0 (k + 1) p (m.f5.length : Int) (i : Int) m.f0 m.f1 m.f2 m.f3 m.f4 m.f5 m.f6 m.f7 = understudyref05_method.j3 k p (m.f5.length : Int) (i : Int) true m.f0 m.f1 m.f2 m.f3 m.f4 m.f5 m.f6 m.f7) → Ev (fun k => understudyref05_method.l0 k p (m.f5.length : Int) (i : Int) m.f0 m.f1 m.f2 m.f3 m.f4 m.f5 m.f6 m.f7) (trapV p m.f5.length t && (m.f6.drop (i + 1)).all (trapV p m.f5.length)) := by
        intro e hk
        rw [e, Bool.false_and]
        exact Ev.step hk (j3 true)
      by_cases c1 : t.f0 < 0
      · exact bad (by unfold trapV; rw [if_pos c1]) (fun k => by simp only [understudyref05_method.l0, ← ht]; rw [if_pos pre, if_pos pre0, if_pos c1])
      by_cases c2 : t.f0 ≥ t.f1
      · exact bad (by unfold trapV; rw [if_neg c1, if_pos c2]) (fun k => by simp only [understudyref05_method.l0, ← ht]; rw [if_pos pre, if_pos pre0, if_neg c1, if_pos c2])
      by_cases c3 : t.f1 > (m.f5.length : Int)
      · exact bad (by unfold trapV; rw [if_neg c1, if_neg c2, if_pos c3]) (fun k => by simp only [understudyref05_method.l0, ← ht]; rw [if_pos pre, if_pos pre0, if_neg c1, if_neg c2, if_pos c3])
      by_cases c4 : t.f2 < 0
      · exact bad (by unfold trapV; rw [if_neg c1, if_neg c2, if_neg c3, if_pos (Or.inl c4)]) (fun k => by simp only [understudyref05_method.l0, ← ht]; rw [if_pos pre, if_pos pre0, if_neg c1, if_neg c2, if_neg c3, if_pos c4])
      by_cases c6 : t.f2 ≥ (m.f5.length : Int)
      · exact bad (by unfold trapV; rw [if_neg c1, if_neg c2, if_neg c3, if_pos (Or.inr c6)]) (fun k => by simp only [understudyref05_method.l0, ← ht]; rw [if_pos pre, if_pos pre0, if_neg c1, if_neg c2, if_neg c3, if_neg c4, if_pos c6])
      have c46 : ¬ (t.f2 < 0 ∨ t.f2 ≥ (m.f5.length : Int)) := by omega
      by_cases c5 : t.f3 = 0
      · have e : trapV p m.f5.length t = true := by unfold trapV; rw [if_neg c1, if_neg c2, if_neg c3, if_neg c46, if_pos c5]
        rw [e]
        exact Ev.step (fun k => by simp only [understudyref05_method.l0, ← ht]; rw [if_pos pre, if_pos pre0, if_neg c1, if_neg c2, if_neg c3, if_neg c4, if_neg c6, if_pos c5]) (j3 false)
      · have e : trapV p m.f5.length t = cl p t.f3 := by unfold trapV; rw [if_neg c1, if_neg c2, if_neg c3, if_neg c46, if_neg c5]
        rw [e]
        have hj := j3 (!(cl p t.f3))
        rw [Bool.not_not] at hj
        exact Ev.step (fun k => by simp only [understudyref05_method.l0, ← ht, cls.eq, Option.bind_some]; rw [if_pos pre, if_pos pre0, if_neg c1, if_neg c2, if_neg c3, if_neg c4, if_neg c6, if_neg c5]) hj
    · exact stop i hi
theorem rm.ev_j1 (b : Bool) : Ev (fun k => understudyref05_method.j1 k p (m.f5.length : Int) b m.f0 m.f1 m.f2 m.f3 m.f4 m.f5 m.f6 m.f7) (!b && m.f6.all (trapV p m.f5.length)) := by
  cases b with
  | true => exact Ev.step (f := fun _ => some false) (fun k => by simp only [understudyref05_method.j1]; rw [if_pos trivial]) (Ev.now _)
  | false =>
    have := rm.ev_l p hl m hm m.f6.length 0 (by omega)
    rw [List.drop_zero] at this
    rw [Bool.not_false, Bool.true_and]
    exact Ev.step (fun k => by simp only [understudyref05_method.j1]; rw [if_neg (by simp)]; rfl) this
theorem rm.ev_j0 (b : Bool) : Ev (fun k => understudyref05_method.j0 k p b m.f0 m.f1 m.f2 m.f3 m.f4 m.f5 m.f6 m.f7) (!b && (partB p m.f5.length m.f7.length && m.f6.all (trapV p m.f5.length))) := by
  have j1 := rm.ev_j1 p hl m hm
  have jt : Ev (fun k => understudyref05_method.j1 k p (m.f5.length : Int) true m.f0 m.f1 m.f2 m.f3 m.f4 m.f5 m.f6 m.f7) false := j1 true
  cases b with
  | true => exact Ev.step (f := fun _ => some false) (fun k => by simp only [understudyref05_method.j0]; rw [if_pos trivial]) (Ev.now _)
  | false =>
    rw [Bool.not_false, Bool.true_and]
    have no : ∀ {x : Bool}, x = false → (x && m.f6.all (trapV p m.f5.length)) = false := fun h => by rw [h, Bool.false_and]
    by_cases a1 : (m.f5.length : Int) < 1
    · rw [no (by unfold partB; rw [decide_eq_false (show ¬ (1 ≤ m.f5.length ∧ m.f5.length ≤ 4096) by omega)]; simp)]
      exact Ev.step (fun k => by simp only [understudyref05_method.j0]; rw [if_neg (by simp), if_pos a1]) jt
    by_cases a2 : (m.f5.length : Int) > 4096
    · rw [no (by unfold partB; rw [decide_eq_false (show ¬ (1 ≤ m.f5.length ∧ m.f5.length ≤ 4096) by omega)]; simp)]
      exact Ev.step (fun k => by simp only [understudyref05_method.j0]; rw [if_neg (by simp), if_neg a1, if_pos a2]) jt
    have a12 : decide (1 ≤ m.f5.length ∧ m.f5.length ≤ 4096) = true := decide_eq_true (by omega)
    by_cases a3 : (m.f7.length : Int) > 4096
    · rw [no (by unfold partB; rw [decide_eq_false (show ¬ m.f7.length ≤ 4096 by omega)]; simp)]
      exact Ev.step (fun k => by simp only [understudyref05_method.j0]; rw [if_neg (by simp), if_neg a1, if_neg a2, if_pos a3]) jt
    have a3b : decide (m.f7.length ≤ 4096) = true := decide_eq_true (by omega)
    have hnn := placeV_nonneg p sCode
    have hnm := placeV_nonneg p sMaps
    refine Ev.step (fun k => by simp only [understudyref05_method.j0]; rw [if_neg (by simp), if_neg a1, if_neg a2, if_neg a3]) (Ev.bind (reftext.ev p sCode hl) ?_)
    by_cases a4 : placeV p sCode = 0
    · rw [no (by unfold partB; rw [decide_eq_false (show ¬ placeV p sCode > 0 by omega)]; simp)]
      exact Ev.congr (fun k => if_pos a4) jt
    have a4b : decide (placeV p sCode > 0) = true := decide_eq_true (by omega)
    refine Ev.congr (fun k => if_neg a4) ?_
    by_cases a5 : (m.f7.length : Int) > 0
    · have a5b : decide (m.f7.length = 0) = false := decide_eq_false (by omega)
      refine Ev.congr (fun k => if_pos a5) (Ev.bind (reftext.ev p sMaps hl) ?_)
      have e : partB p m.f5.length m.f7.length = !(placeV p sMaps == 0) := by
        unfold partB
        rw [a12, a3b, a4b, a5b, Bool.true_and, Bool.true_and, Bool.true_and, Bool.false_or, Bool.eq_iff_iff]
        simp only [decide_eq_true_eq, Bool.not_eq_true', beq_eq_false_iff_ne]
        omega
      rw [e]
      exact j1 (placeV p sMaps == 0)
    · have a5b : decide (m.f7.length = 0) = true := decide_eq_true (by omega)
      have e : partB p m.f5.length m.f7.length = true := by unfold partB; rw [a12, a3b, a4b, a5b]; rfl
      rw [e]
      exact Ev.congr (fun k => if_neg a5) (j1 false)
theorem rm.ev : Ev (fun k => understudyref05_method.f k p m.f0 m.f1 m.f2 m.f3 m.f4 m.f5 m.f6 m.f7) (methV p m) := by
  have j0 := rm.ev_j0 p hl m hm
  have jt : Ev (fun k => understudyref05_method.j0 k p true m.f0 m.f1 m.f2 m.f3 m.f4 m.f5 m.f6 m.f7) false := j0 true
  have hV : methV p m = (flagsV m.f0 && ((txt p m.f1 && txt p m.f2) && (decide (0 ≤ m.f3 ∧ m.f3 ≤ 64) && (decide (0 ≤ m.f4 ∧ m.f4 ≤ 64) && (partB p m.f5.length m.f7.length && m.f6.all (trapV p m.f5.length)))))) := by
    unfold methV restV partB
    rw [Bool.and_comm]
    simp only [Bool.and_assoc]
  rw [hV]
  have chain : Ev (fun k => if txt p m.f1 = true then (if txt p m.f2 = true then (if m.f3 < 0 then (understudyref05_method.j0 k p true m.f0 m.f1 m.f2 m.f3 m.f4 m.f5 m.f6 m.f7) else (if m.f3 > 64 then (understudyref05_method.j0 k p true m.f0 m.f1 m.f2 m.f3 m.f4 m.f5 m.f6 m.f7) else (if m.f4 < 0 then (understudyref05_method.j0 k p true m.f0 m.f1 m.f2 m.f3 m.f4 m.f5 m.f6 m.f7) else (understudyref05_method.j0 k p (decide (m.f4 > 64)) m.f0 m.f1 m.f2 m.f3 m.f4 m.f5 m.f6 m.f7)))) else (understudyref05_method.j0 k p true m.f0 m.f1 m.f2 m.f3 m.f4 m.f5 m.f6 m.f7)) else (understudyref05_method.j0 k p true m.f0 m.f1 m.f2 m.f3 m.f4 m.f5 m.f6 m.f7))
      ((txt p m.f1 && txt p m.f2) && (decide (0 ≤ m.f3 ∧ m.f3 ≤ 64) && (decide (0 ≤ m.f4 ∧ m.f4 ≤ 64) && (partB p m.f5.length m.f7.length && m.f6.all (trapV p m.f5.length))))) := by
    by_cases t1 : txt p m.f1 = true
    · refine Ev.congr (fun k => if_pos t1) ?_
      rw [t1, Bool.true_and]
      by_cases t2 : txt p m.f2 = true
      · refine Ev.congr (fun k => if_pos t2) ?_
        rw [t2, Bool.true_and]
        by_cases b1 : m.f3 < 0
        · rw [decide_eq_false (show ¬ (0 ≤ m.f3 ∧ m.f3 ≤ 64) by omega), Bool.false_and]
          exact Ev.congr (fun k => if_pos b1) jt
        by_cases b2 : m.f3 > 64
        · rw [decide_eq_false (show ¬ (0 ≤ m.f3 ∧ m.f3 ≤ 64) by omega), Bool.false_and]
          exact Ev.congr (fun k => (if_neg b1).trans (if_pos b2)) jt
        rw [decide_eq_true (show 0 ≤ m.f3 ∧ m.f3 ≤ 64 by omega), Bool.true_and]
        by_cases b3 : m.f4 < 0
        · rw [decide_eq_false (show ¬ (0 ≤ m.f4 ∧ m.f4 ≤ 64) by omega), Bool.false_and]
          exact Ev.congr (fun k => (if_neg b1).trans ((if_neg b2).trans (if_pos b3))) jt
        have e : decide (0 ≤ m.f4 ∧ m.f4 ≤ 64) = !(decide (m.f4 > 64)) := by
          rw [Bool.eq_iff_iff]
          simp only [decide_eq_true_eq, Bool.not_eq_true', decide_eq_false_iff_not]
          omega
        rw [e]
        exact Ev.congr (fun k => (if_neg b1).trans ((if_neg b2).trans (if_neg b3))) (j0 (decide (m.f4 > 64)))
      · rw [Bool.eq_false_iff.2 t2, Bool.false_and]
        exact Ev.congr (fun k => if_neg (by simp)) jt
    · rw [Bool.eq_false_iff.2 t1, Bool.false_and, Bool.false_and]
      exact Ev.congr (fun k => if_neg (by simp)) jt
  unfold understudyref05_method.f
  simp only [utf.eq, Option.bind_some]
  by_cases f0 : m.f0 = 0
  · have e : flagsV m.f0 = true := decide_eq_true (Or.inl f0)
    rw [e, Bool.true_and]
    exact Ev.congr (fun k => if_pos f0) chain
  by_cases f8 : m.f0 = 8
  · have e : flagsV m.f0 = true := decide_eq_true (Or.inr f8)
    rw [e, Bool.true_and]
    exact Ev.congr (fun k => (if_neg f0).trans (if_pos f8)) chain
  · have e : flagsV m.f0 = false := decide_eq_false (by omega)
    rw [e, Bool.false_and]
    exact Ev.congr (fun k => (if_neg f0).trans (if_neg f8)) jt
end
section
variable (p : List Cst) (hl : p.length ≤ 1048576) (this super : Int) (fs : List Fld) (ms : List Mth) (hfl : fs.length ≤ 1048576) (hml : ms.length ≤ 1048576) (hf : ∀ f ∈ fs, FitF f) (hm : ∀ m ∈ ms, FitM m)
include hl hfl hml hf hm
theorem rc.ev_l2 : ∀ d (i : Nat), ms.length ≤ i + d → Ev (fun k => understudyref05_Check.l2 k (i : Int) p this super fs ms) (fineV ((ms.drop i).all (methV p))) := by
  have _u := And.intro hfl hf
  have stop : ∀ (i : Nat), ¬ i < ms.length → Ev (fun k => understudyref05_Check.l2 k (i : Int) p this super fs ms) (fineV ((ms.drop i).all (methV p))) := fun i hi => by
    rw [List.drop_eq_nil_of_le (by omega), List.all_nil]
    exact Ev.step (f := fun _ => some 0) (fun k => by simp only [understudyref05_Check.l2]; rw [if_neg (by omega)]) (Ev.now _)
  intro d
  induction d with
  | zero => intro i h; exact stop i (by omega)
  | succ d ih =>
    intro i h
    by_cases hi : i < ms.length
    · obtain ⟨m, he⟩ : ∃ m, m = rd_T37 ms (i : Int) := ⟨_, rfl⟩
      have hd : ms.drop i = m :: ms.drop (i + 1) := by
        rw [drop_getD (z := z37) i hi, he]
        unfold rd_T37
        rw [Int.toNat_natCast]
      have hmm : m ∈ ms := List.mem_of_mem_drop (hd ▸ List.mem_cons_self : m ∈ ms.drop i)
      rw [hd, List.all_cons]
      refine Ev.step (f := fun k => (understudyref05_method.f k p m.f0 m.f1 m.f2 m.f3 m.f4 m.f5 m.f6 m.f7).bind fun t259 => if t259 = true then understudyref05_Check.l2 k ((i + 1 : Nat) : Int) p this super fs ms else some 50) (fun k => ?_) (Ev.bind (rm.ev p hl m (hm m hmm)) ?_)
      · simp only [understudyref05_Check.l2, ← he]
        rw [if_pos (by omega), if_pos (by omega), w64 (by omega) (by omega)]
        rfl
      · by_cases hv : methV p m = true
        · rw [hv, Bool.true_and]
          exact Ev.congr (fun k => if_pos rfl) (ih (i + 1) (by omega))
        · rw [Bool.eq_false_iff.2 hv, Bool.false_and]
          exact Ev.congr (fun k => if_neg (by simp)) (Ev.now _)
    · exact stop i hi
theorem rc.ev_l1 : ∀ d (i : Nat), fs.length ≤ i + d → Ev (fun k => understudyref05_Check.l1 k (i : Int) p this super fs ms) (fineV ((fs.drop i).all (fieldV p) && ms.all (methV p))) := by
  have stop : ∀ (i : Nat), ¬ i < fs.length → Ev (fun k => understudyref05_Check.l1 k (i : Int) p this super fs ms) (fineV ((fs.drop i).all (fieldV p) && ms.all (methV p))) := fun i hi => by
    rw [List.drop_eq_nil_of_le (by omega), List.all_nil, Bool.true_and]
    have h2 := rc.ev_l2 p hl this super fs ms hfl hml hf hm ms.length 0 (by omega)
    exact Ev.step (fun k => by simp only [understudyref05_Check.l1]; rw [if_neg (by omega)]; rfl) h2
  intro d
  induction d with
  | zero => intro i h; exact stop i (by omega)
  | succ d ih =>
    intro i h
    by_cases hi : i < fs.length
    · obtain ⟨f, he⟩ : ∃ f, f = rd_T42 fs (i : Int) := ⟨_, rfl⟩
      have hd : fs.drop i = f :: fs.drop (i + 1) := by
        rw [drop_getD (z := z42) i hi, he]
        unfold rd_T42
        rw [Int.toNat_natCast]
      have j4 : ∀ b : Bool, Ev (fun k => understudyref05_Check.j4 k (i : Int) b p this super fs ms) (fineV (!b && ((fs.drop (i + 1)).all (fieldV p) && ms.all (methV p)))) := by
        intro b
        cases b with
        | true => exact Ev.step (f := fun _ => some 50) (fun k => by simp only [understudyref05_Check.j4]; rw [if_pos trivial]) (Ev.now _)
        | false =>
          rw [Bool.not_false, Bool.true_and]
          refine Ev.step (fun k => ?_) (ih (i + 1) (by omega))
          simp only [understudyref05_Check.j4]
          rw [if_neg (by simp), w64 (by omega) (by omega)]
          rfl
      rw [hd, List.all_cons, Bool.and_assoc]
      have chain : Ev (fun k => if txt p f.f1 = true then understudyref05_Check.j4 k (i : Int) (!(txt p f.f2)) p this super fs ms else understudyref05_Check.j4 k (i : Int) true p this super fs ms) (fineV ((txt p f.f1 && txt p f.f2) && ((fs.drop (i + 1)).all (fieldV p) && ms.all (methV p)))) := by
        by_cases t1 : txt p f.f1 = true
        · rw [t1, Bool.true_and]
          have := j4 (!(txt p f.f2))
          rw [Bool.not_not] at this
          exact Ev.congr (fun k => if_pos rfl) this
        · rw [Bool.eq_false_iff.2 t1, Bool.false_and]
          exact Ev.congr (fun k => if_neg (by simp)) (j4 true)
      by_cases f0 : f.f0 = 0
      · have e : fieldV p f = (txt p f.f1 && txt p f.f2) := by unfold fieldV flagsV; rw [decide_eq_true (Or.inl f0), Bool.true_and]
        rw [e]
        exact Ev.step (fun k => by simp only [understudyref05_Check.l1, ← he, utf.eq, Option.bind_some]; rw [if_pos (by omega), if_pos (by omega), if_pos f0]) chain
      by_cases f8 : f.f0 = 8
      · have e : fieldV p f = (txt p f.f1 && txt p f.f2) := by unfold fieldV flagsV; rw [decide_eq_true (Or.inr f8), Bool.true_and]
        rw [e]
        exact Ev.step (fun k => by simp only [understudyref05_Check.l1, ← he, utf.eq, Option.bind_some]; rw [if_pos (by omega), if_pos (by omega), if_neg f0, if_pos f8]) chain
      · have e : fieldV p f = false := by unfold fieldV flagsV; rw [decide_eq_false (by omega), Bool.false_and]
        rw [e]
        exact Ev.step (fun k => by simp only [understudyref05_Check.l1, ← he]; rw [if_pos (by omega), if_pos (by omega), if_neg f0, if_neg f8]) (j4 true)
    · exact stop i hi
theorem rc.ev_l0 : ∀ d (i : Nat), ms.length ≤ i + d → Ev (fun k => understudyref05_Check.l0 k (i : Int) p this super fs ms) (if (ms.drop i).any (fun m => decide ((m.f6.length : Int) > 64)) = true then 2 else fineV ((cl p this && cl p super) && fs.all (fieldV p) && ms.all (methV p))) := by
  have stop : ∀ (i : Nat), ¬ i < ms.length → Ev (fun k => understudyref05_Check.l0 k (i : Int) p this super fs ms) (if (ms.drop i).any (fun m => decide ((m.f6.length : Int) > 64)) = true then 2 else fineV ((cl p this && cl p super) && fs.all (fieldV p) && ms.all (methV p))) := fun i hi => by
    rw [List.drop_eq_nil_of_le (by omega), List.any_nil, if_neg (by simp), Bool.and_assoc]
    have h1 := rc.ev_l1 p hl this super fs ms hfl hml hf hm fs.length 0 (by omega)
    rw [List.drop_zero] at h1
    have j2 : ∀ b : Bool, Ev (fun k => understudyref05_Check.j2 k b p this super fs ms) (fineV (!b && (fs.all (fieldV p) && ms.all (methV p)))) := by
      intro b
      cases b with
      | true => exact Ev.step (f := fun _ => some 50) (fun k => by simp only [understudyref05_Check.j2]; rw [if_pos trivial]) (Ev.now _)
      | false =>
        rw [Bool.not_false, Bool.true_and]
        exact Ev.step (fun k => by simp only [understudyref05_Check.j2]; rw [if_neg (by simp)]; rfl) h1
    refine Ev.step (f := fun k => if cl p this = true then understudyref05_Check.j2 k (!(cl p super)) p this super fs ms else understudyref05_Check.j2 k true p this super fs ms) (fun k => by simp only [understudyref05_Check.l0, cls.eq, Option.bind_some]; rw [if_neg (by omega)]) ?_
    by_cases t1 : cl p this = true
    · rw [t1, Bool.true_and]
      have := j2 (!(cl p super))
      rw [Bool.not_not] at this
      exact Ev.congr (fun k => if_pos rfl) this
    · rw [Bool.eq_false_iff.2 t1, Bool.false_and]
      exact Ev.congr (fun k => if_neg (by simp)) (j2 true)
  intro d
  induction d with
  | zero => intro i h; exact stop i (by omega)
  | succ d ih =>
    intro i h
    by_cases hi : i < ms.length
    · obtain ⟨m, he⟩ : ∃ m, m = rd_T37 ms (i : Int) := ⟨_, rfl⟩
      have hd : ms.drop i = m :: ms.drop (i + 1) := by
        rw [drop_getD (z := z37) i hi, he]
        unfold rd_T37
        rw [Int.toNat_natCast]
      rw [hd, List.any_cons]
      by_cases hx : (m.f6.length : Int) > 64
      · rw [decide_eq_true hx, Bool.true_or, if_pos rfl]
        exact Ev.step (f := fun _ => some 2) (fun k => by simp only [understudyref05_Check.l0, ← he]; rw [if_pos (by omega), if_pos (by omega), if_pos hx]) (Ev.now _)
      · rw [decide_eq_false hx, Bool.false_or]
        exact Ev.step (fun k => by simp only [understudyref05_Check.l0, ← he]; rw [if_pos (by omega), if_pos (by omega), if_neg hx, w64 (by omega) (by omega)]; rfl) (ih (i + 1) (by omega))
    · exact stop i hi
theorem ref05_Check.ev (hp : ∀ c ∈ p, FitC c) : Ev (fun k => understudyref05_Check.f k p this super fs ms) (classCheckV p this super fs ms) := by
  unfold understudyref05_Check.f classCheckV
  refine Ev.bind (ref_Check.ev p hp) ?_
  by_cases h : checkV p = 0
  · rw [if_pos h]
    refine Ev.congr (fun k => if_pos h) ?_
    have h0 := rc.ev_l0 p hl this super fs ms hfl hml hf hm ms.length 0 (by omega)
    rw [List.drop_zero] at h0
    by_cases a1 : (fs.length : Int) > 64
    · have e : longV (mx (fs.length : Int) (ms.length : Int)) ms = true := by
        unfold longV
        rw [decide_eq_true (by unfold mx; split <;> omega), Bool.true_or]
      rw [e, if_pos rfl]
      exact Ev.congr (fun k => if_pos a1) (Ev.step (f := fun _ => some 2) (fun k => by simp only [understudyref05_Check.j0]; rw [if_pos trivial]) (Ev.now _))
    · refine Ev.congr (fun k => if_neg a1) ?_
      by_cases a2 : (ms.length : Int) > 64
      · have e : longV (mx (fs.length : Int) (ms.length : Int)) ms = true := by
          unfold longV
          rw [decide_eq_true (by unfold mx; split <;> omega), Bool.true_or]
        rw [e, if_pos rfl, decide_eq_true a2]
        exact Ev.step (f := fun _ => some 2) (fun k => by simp only [understudyref05_Check.j0]; rw [if_pos trivial]) (Ev.now _)
      · have e : longV (mx (fs.length : Int) (ms.length : Int)) ms = ms.any (fun m => decide ((m.f6.length : Int) > 64)) := by
          unfold longV
          rw [decide_eq_false (by unfold mx; split <;> omega), Bool.false_or]
        rw [e, decide_eq_false a2]
        exact Ev.step (fun k => by simp only [understudyref05_Check.j0]; rw [if_neg (by simp)]; rfl) h0
  · rw [if_neg h]
    exact Ev.congr (fun k => if_neg h) (Ev.now _)
end
end Go.Proofs.YtiolgmklpldpcaaDoor.Px
