/- class.Check comes to 'classCheckV'. -/
import Derived.Test.YtiolgmklpldpcaaDoorClassV
namespace Go.Proofs.YtiolgmklpldpcaaDoor.Px
open Go.RowKit Go.Proofs.YtiolgmklpldpcaaDoorW.PrintWords Go.Proofs.YtiolgmklpldpcaaDoorW.PrintLast Go.Proofs.YtiolgmklpldpcaaDoorW.PrintMore
set_option linter.unusedVariables false
set_option linter.unusedSimpArgs false

def FitM (m : Mth) : Prop := (Lit.int .i64 m.f0).wf = true ∧ m.f5.length ≤ 1048576 ∧ m.f6.length ≤ 1048576 ∧ m.f7.length ≤ 1048576
def FitF (f : Fld) : Prop := (Lit.int .i64 f.f0).wf = true
theorem rest.ev (p : List Cst) (hl : p.length ≤ 1048576) (m0 m1 m2 m3 m4 : Int) (n mn : Nat) (hw : (Lit.int .i64 m0).wf = true) (hn : n ≤ 1048576) (hm : mn ≤ 1048576) :
    Ev (fun k => (class_flags.f m0).bind fun t151 => (if t151 = true then ((class_rules_text.f k p (([m1, m2] : List Int))).bind fun t155 => (if t155 = true then ((class_within.f m3 64).bind fun t156 => (if t156 = true then ((class_within.f m4 64).bind fun t157 => (if t157 = true then ((class_within.f (wrap64 ((n : Int) - 1)) 4095).bind fun t158 => (if t158 = true then (if (mn : Int) ≤ 4096 then ((class_place.f k p (⟨#[67, 111, 100, 101]⟩ : ByteArray)).bind fun t159 => (if t159 > 0 then (if (mn : Int) = 0 then (some true) else ((class_place.f k p (⟨#[83, 116, 97, 99, 107, 77, 97, 112, 84, 97, 98, 108, 101]⟩ : ByteArray)).bind fun t160 => (some (decide (t160 > 0))))) else (some false))) else (some false)) else (some false))) else (some false))) else (some false))) else (some false))) else (some false))) (restV p m0 m1 m2 m3 m4 n mn) := by
  simp only [flags.eq _ hw, within.eq, Option.bind_some]
  have hwn : wrap64 ((n : Int) - 1) = (n : Int) - 1 := w64 (by omega) (by omega)
  rw [hwn]
  have no : ∀ {x : Bool}, x = false → Ev (fun _ => some false) x := fun h => h ▸ Ev.now _
  by_cases a : flagsV m0 = true
  · refine Ev.congr (fun k => if_pos a) (Ev.bind (rules_text.ev2 p m1 m2) ?_)
    by_cases b : (txt p m1 && txt p m2) = true
    · refine Ev.congr (fun k => if_pos b) ?_
      by_cases c : decide (0 ≤ m3 ∧ m3 ≤ 64) = true
      · refine Ev.congr (fun k => if_pos c) ?_
        by_cases d : decide (0 ≤ m4 ∧ m4 ≤ 64) = true
        · refine Ev.congr (fun k => if_pos d) ?_
          by_cases e : decide (0 ≤ (n : Int) - 1 ∧ (n : Int) - 1 ≤ 4095) = true
          · have e2 : decide (1 ≤ n ∧ n ≤ 4096) = true := by rw [decide_eq_true_eq] at e ⊢; omega
            refine Ev.congr (fun k => if_pos e) ?_
            by_cases f : (mn : Int) ≤ 4096
            · have f2 : decide (mn ≤ 4096) = true := decide_eq_true (by omega)
              refine Ev.congr (fun k => if_pos f) (Ev.bind (place.ev p _ hl) ?_)
              by_cases g : placeV p sCode > 0
              · refine Ev.congr (fun k => if_pos g) ?_
                by_cases h : (mn : Int) = 0
                · have h2 : decide (mn = 0) = true := decide_eq_true (by omega)
                  refine Ev.congr (fun k => if_pos h) ?_
                  have : restV p m0 m1 m2 m3 m4 n mn = true := by unfold restV; rw [a, b, c, d, e2, f2, h2, decide_eq_true g]; rfl
                  rw [this]; exact Ev.now _
                · have h2 : decide (mn = 0) = false := decide_eq_false (by omega)
                  refine Ev.congr (fun k => if_neg h) (Ev.bind (place.ev p _ hl) ?_)
                  have : restV p m0 m1 m2 m3 m4 n mn = decide (placeV p sMaps > 0) := by unfold restV; rw [a, b, c, d, e2, f2, h2, decide_eq_true g]; rfl
                  rw [this]; exact Ev.now _
              · exact Ev.congr (fun k => if_neg g) (no (by unfold restV; rw [decide_eq_false g]; simp))
            · exact Ev.congr (fun k => if_neg f) (no (by unfold restV; rw [decide_eq_false (show ¬ mn ≤ 4096 by omega)]; simp))
          · exact Ev.congr (fun k => if_neg e) (no (by unfold restV; rw [decide_eq_false (show ¬ (1 ≤ n ∧ n ≤ 4096) by rw [decide_eq_true_eq] at e; omega)]; simp))
        · exact Ev.congr (fun k => if_neg d) (no (by unfold restV; rw [Bool.eq_false_iff.2 d]; simp))
      · exact Ev.congr (fun k => if_neg c) (no (by unfold restV; rw [Bool.eq_false_iff.2 c]; simp))
    · exact Ev.congr (fun k => if_neg b) (no (by unfold restV; rw [Bool.eq_false_iff.2 b]; simp))
  · exact Ev.congr (fun k => if_neg a) (no (by unfold restV; rw [Bool.eq_false_iff.2 a]; simp))
section
variable (p : List Cst) (hl : p.length ≤ 1048576) (m : Mth) (hm : FitM m)
include hl hm
theorem meth.ev_l : ∀ d (i : Nat), m.f6.length ≤ i + d → Ev (fun k => class_rules_method.l0 k (m.f5.length : Int) m.f6 (m.f6.length : Int) (i : Int) p m.f0 m.f1 m.f2 m.f3 m.f4 m.f5 m.f6 m.f7) ((m.f6.drop i).all (trapV p m.f5.length) && restV p m.f0 m.f1 m.f2 m.f3 m.f4 m.f5.length m.f7.length) := by
  obtain ⟨hw, h5, h6, h7⟩ := hm
  have stop : ∀ i : Nat, ¬ i < m.f6.length → Ev (fun k => class_rules_method.l0 k (m.f5.length : Int) m.f6 (m.f6.length : Int) (i : Int) p m.f0 m.f1 m.f2 m.f3 m.f4 m.f5 m.f6 m.f7) ((m.f6.drop i).all (trapV p m.f5.length) && restV p m.f0 m.f1 m.f2 m.f3 m.f4 m.f5.length m.f7.length) := fun i hi => by
    rw [List.drop_eq_nil_of_le (by omega), List.all_nil, Bool.true_and]
    exact Ev.step (fun k => by simp only [class_rules_method.l0]; rw [if_neg (by omega)]) (rest.ev p hl m.f0 m.f1 m.f2 m.f3 m.f4 m.f5.length m.f7.length hw h5 h7)
  intro d
  induction d with
  | zero => intro i h; exact stop i (by omega)
  | succ d ih =>
    intro i h
    by_cases hi : i < m.f6.length
    · obtain ⟨t, ht⟩ : ∃ t, t = rd_T62 m.f6 (i : Int) := ⟨_, rfl⟩
      have hd : m.f6.drop i = t :: m.f6.drop (i + 1) := by
        rw [drop_getD (z := z62) i hi, ht]
        unfold rd_T62
        rw [Int.toNat_natCast]
      have j1 : ∀ b : Bool, Ev (fun k => class_rules_method.j1 k (m.f5.length : Int) m.f6 (m.f6.length : Int) (i : Int) b p m.f0 m.f1 m.f2 m.f3 m.f4 m.f5 m.f6 m.f7) (!b && ((m.f6.drop (i + 1)).all (trapV p m.f5.length) && restV p m.f0 m.f1 m.f2 m.f3 m.f4 m.f5.length m.f7.length)) := by
        intro b
        cases b with
        | true => exact Ev.step (f := fun _ => some false) (fun k => by simp only [class_rules_method.j1]; rw [if_pos trivial]) (Ev.now _)
        | false =>
          rw [Bool.not_false, Bool.true_and]
          refine Ev.step (fun k => ?_) (ih (i + 1) (by omega))
          simp only [class_rules_method.j1]
          rw [if_neg (by simp), w64 (by omega) (by omega)]
          rfl
      have hwn : wrap64 ((m.f5.length : Int) - 1) = (m.f5.length : Int) - 1 := w64 (by omega) (by omega)
      have pre : (i : Int) < (m.f6.length : Int) := by omega
      have pre0 : (0 : Int) ≤ (i : Int) := by omega
      rw [hd, List.all_cons, Bool.and_assoc]
      have bad : trapV p m.f5.length t = false → (∀ k, class_rules_method.l0 (k + 1) (m.f5.length : Int) m.f6 (m.f6.length : Int) (i : Int) p m.f0 m.f1 m.f2 m.f3 m.f4 m.f5 m.f6 m.f7 = class_rules_method.j1 k (m.f5.length : Int) m.f6 (m.f6.length : Int) (i : Int) true p m.f0 m.f1 m.f2 m.f3 m.f4 m.f5 m.f6 m.f7) → Ev (fun k => class_rules_method.l0 k (m.f5.length : Int) m.f6 (m.f6.length : Int) (i : Int) p m.f0 m.f1 m.f2 m.f3 m.f4 m.f5 m.f6 m.f7) (trapV p m.f5.length t && ((m.f6.drop (i + 1)).all (trapV p m.f5.length) && restV p m.f0 m.f1 m.f2 m.f3 m.f4 m.f5.length m.f7.length)) := by
        intro e hk
        rw [e, Bool.false_and]
        exact Ev.step hk (j1 true)
      by_cases c1 : t.f0 < 0
      · exact bad (by unfold trapV; rw [if_pos c1]) (fun k => by simp only [class_rules_method.l0, ← ht]; rw [if_pos pre, if_pos pre0, if_pos pre, if_pos c1])
      by_cases c2 : t.f0 ≥ t.f1
      · exact bad (by unfold trapV; rw [if_neg c1, if_pos c2]) (fun k => by simp only [class_rules_method.l0, ← ht]; rw [if_pos pre, if_pos pre0, if_pos pre, if_neg c1, if_pos c2])
      by_cases c3 : t.f1 > (m.f5.length : Int)
      · exact bad (by unfold trapV; rw [if_neg c1, if_neg c2, if_pos c3]) (fun k => by simp only [class_rules_method.l0, ← ht]; rw [if_pos pre, if_pos pre0, if_pos pre, if_neg c1, if_neg c2, if_pos c3])
      by_cases c4 : t.f2 < 0 ∨ t.f2 ≥ (m.f5.length : Int)
      · refine bad (by unfold trapV; rw [if_neg c1, if_neg c2, if_neg c3, if_pos c4]) (fun k => ?_)
        simp only [class_rules_method.l0, ← ht, within.eq, Option.bind_some, hwn]
        rw [if_pos pre, if_pos pre0, if_pos pre, if_neg c1, if_neg c2, if_neg c3, if_neg (by rw [decide_eq_true_eq]; omega)]
      have c4b : decide (0 ≤ t.f2 ∧ t.f2 ≤ (m.f5.length : Int) - 1) = true := decide_eq_true (by omega)
      by_cases c5 : t.f3 = 0
      · have e : trapV p m.f5.length t = true := by unfold trapV; rw [if_neg c1, if_neg c2, if_neg c3, if_neg c4, if_pos c5]
        rw [e]
        refine Ev.step (fun k => ?_) (j1 false)
        simp only [class_rules_method.l0, ← ht, within.eq, Option.bind_some, hwn]
        rw [if_pos pre, if_pos pre0, if_pos pre, if_neg c1, if_neg c2, if_neg c3, if_pos c4b, if_pos c5]
      · have e : trapV p m.f5.length t = cl p t.f3 := by unfold trapV; rw [if_neg c1, if_neg c2, if_neg c3, if_neg c4, if_neg c5]
        rw [e]
        have hj := j1 (!(cl p t.f3))
        rw [Bool.not_not] at hj
        refine Ev.step (f := fun k => (class_rules_class.f k p [t.f3]).bind fun t150 => class_rules_method.j1 k (m.f5.length : Int) m.f6 (m.f6.length : Int) (i : Int) (!t150) p m.f0 m.f1 m.f2 m.f3 m.f4 m.f5 m.f6 m.f7) (fun k => ?_) (Ev.bind (rules_class.ev1 p t.f3) hj)
        simp only [class_rules_method.l0, ← ht, within.eq, Option.bind_some, hwn]
        rw [if_pos pre, if_pos pre0, if_pos pre, if_neg c1, if_neg c2, if_neg c3, if_pos c4b, if_neg c5]
    · exact stop i hi
theorem meth.ev : Ev (fun k => class_rules_method.f k p m.f0 m.f1 m.f2 m.f3 m.f4 m.f5 m.f6 m.f7) (methV p m) := meth.ev_l p hl m hm m.f6.length 0 (by omega)
end
section
variable (p : List Cst) (hl : p.length ≤ 1048576) (this super : Int) (fs : List Fld) (ms : List Mth) (hfl : fs.length ≤ 1048576) (hml : ms.length ≤ 1048576) (hf : ∀ f ∈ fs, FitF f) (hm : ∀ m ∈ ms, FitM m)
include hl hfl hml hf hm
theorem cc.ev_l2 : ∀ d (i : Nat) (b : Bool), ms.length ≤ i + d → Ev (fun k => class_Check.l2 k b ms (ms.length : Int) (i : Int) p) (fineV (b && (ms.drop i).all (methV p))) := by
  have _u := And.intro hfl hf
  have stop : ∀ (i : Nat) (b : Bool), ¬ i < ms.length → Ev (fun k => class_Check.l2 k b ms (ms.length : Int) (i : Int) p) (fineV (b && (ms.drop i).all (methV p))) := fun i b hi => by
    rw [List.drop_eq_nil_of_le (by omega), List.all_nil, Bool.and_true]
    refine Ev.step (f := fun _ => some (fineV b)) (fun k => ?_) (Ev.now _)
    simp only [class_Check.l2]
    rw [if_neg (by omega)]
    cases b <;> rfl
  intro d
  induction d with
  | zero => intro i b h; exact stop i b (by omega)
  | succ d ih =>
    intro i b h
    by_cases hi : i < ms.length
    · obtain ⟨m, he⟩ : ∃ m, m = rd_T37 ms (i : Int) := ⟨_, rfl⟩
      have hd : ms.drop i = m :: ms.drop (i + 1) := by
        rw [drop_getD (z := z37) i hi, he]
        unfold rd_T37
        rw [Int.toNat_natCast]
      have hmm : m ∈ ms := List.mem_of_mem_drop (hd ▸ List.mem_cons_self : m ∈ ms.drop i)
      rw [hd, List.all_cons]
      cases b with
      | true =>
        refine Ev.step (f := fun k => (class_rules_method.f k p m.f0 m.f1 m.f2 m.f3 m.f4 m.f5 m.f6 m.f7).bind fun t179 => class_Check.l2 k t179 ms (ms.length : Int) ((i + 1 : Nat) : Int) p) (fun k => ?_) (Ev.bind (meth.ev p hl m (hm m hmm)) ?_)
        · simp only [class_Check.l2, ← he]
          rw [if_pos (by omega), if_pos (by omega), if_pos (by omega), if_pos trivial, w64 (by omega) (by omega)]
          rfl
        · have := ih (i + 1) (methV p m) (by omega)
          rw [Bool.true_and]
          exact this
      | false =>
        refine Ev.step (f := fun k => class_Check.l2 k false ms (ms.length : Int) ((i + 1 : Nat) : Int) p) (fun k => ?_) ?_
        · simp only [class_Check.l2]
          rw [if_pos (by omega), if_pos (by omega), if_pos (by omega), if_neg (by simp), w64 (by omega) (by omega)]
          rfl
        · have := ih (i + 1) false (by omega)
          rw [Bool.false_and] at this ⊢
          exact this
    · exact stop i b hi
theorem cc.ev_l1 : ∀ d (i : Nat) (b : Bool), fs.length ≤ i + d → Ev (fun k => class_Check.l1 k b fs (fs.length : Int) (i : Int) p this super fs ms p) (fineV (b && (fs.drop i).all (fieldV p) && ms.all (methV p))) := by
  have stop : ∀ (i : Nat) (b : Bool), ¬ i < fs.length → Ev (fun k => class_Check.l1 k b fs (fs.length : Int) (i : Int) p this super fs ms p) (fineV (b && (fs.drop i).all (fieldV p) && ms.all (methV p))) := fun i b hi => by
    rw [List.drop_eq_nil_of_le (by omega), List.all_nil, Bool.and_true]
    have h2 := cc.ev_l2 p hl fs ms hfl hml hf hm ms.length 0 b (by omega)
    exact Ev.step (fun k => by simp only [class_Check.l1]; rw [if_neg (by omega)]; rfl) h2
  intro d
  induction d with
  | zero => intro i b h; exact stop i b (by omega)
  | succ d ih =>
    intro i b h
    by_cases hi : i < fs.length
    · obtain ⟨f, he⟩ : ∃ f, f = rd_T42 fs (i : Int) := ⟨_, rfl⟩
      have hd : fs.drop i = f :: fs.drop (i + 1) := by
        rw [drop_getD (z := z42) i hi, he]
        unfold rd_T42
        rw [Int.toNat_natCast]
      have hff : f ∈ fs := List.mem_of_mem_drop (hd ▸ List.mem_cons_self : f ∈ fs.drop i)
      rw [hd, List.all_cons]
      have goF : ∀ k, class_Check.l1 (k + 1) false fs (fs.length : Int) (i : Int) p this super fs ms p = class_Check.l1 k false fs (fs.length : Int) ((i + 1 : Nat) : Int) p this super fs ms p := fun k => by
        simp only [class_Check.l1]
        rw [if_pos (by omega), if_pos (by omega), if_pos (by omega), if_neg (by simp), w64 (by omega) (by omega)]
        rfl
      cases b with
      | true =>
        rw [Bool.true_and]
        by_cases hfl2 : flagsV f.f0 = true
        · refine Ev.step (f := fun k => (class_rules_text.f k p [f.f1, f.f2]).bind fun t176 => class_Check.l1 k t176 fs (fs.length : Int) ((i + 1 : Nat) : Int) p this super fs ms p) (fun k => ?_) (Ev.bind (rules_text.ev2 p f.f1 f.f2) ?_)
          · simp only [class_Check.l1, ← he, flags.eq _ (hf f hff), Option.bind_some]
            rw [if_pos (by omega), if_pos (by omega), if_pos (by omega), if_pos trivial, if_pos hfl2, w64 (by omega) (by omega)]
            rfl
          · have := ih (i + 1) (txt p f.f1 && txt p f.f2) (by omega)
            have e : fieldV p f = (txt p f.f1 && txt p f.f2) := by unfold fieldV; rw [hfl2, Bool.true_and]
            rw [e]
            exact this
        · refine Ev.step (f := fun k => class_Check.l1 k false fs (fs.length : Int) ((i + 1 : Nat) : Int) p this super fs ms p) (fun k => ?_) ?_
          · simp only [class_Check.l1, ← he, flags.eq _ (hf f hff), Option.bind_some]
            rw [if_pos (by omega), if_pos (by omega), if_pos (by omega), if_pos trivial, if_neg hfl2, w64 (by omega) (by omega)]
            rfl
          · have := ih (i + 1) false (by omega)
            have e : fieldV p f = false := by unfold fieldV; rw [Bool.eq_false_iff.2 hfl2, Bool.false_and]
            rw [Bool.false_and] at this
            rw [e, Bool.false_and]
            exact this
      | false =>
        refine Ev.step goF ?_
        have := ih (i + 1) false (by omega)
        rw [Bool.false_and] at this ⊢
        exact this
    · exact stop i b hi
theorem cc.ev_l0 : ∀ d (i : Nat) (x : Int), ms.length ≤ i + d → Ev (fun k => class_Check.l0 k x ms (ms.length : Int) (i : Int) p this super fs ms) (if longV x (ms.drop i) = true then 2 else fineV ((cl p this && cl p super) && fs.all (fieldV p) && ms.all (methV p))) := by
  have stop : ∀ (i : Nat) (x : Int), ¬ i < ms.length → Ev (fun k => class_Check.l0 k x ms (ms.length : Int) (i : Int) p this super fs ms) (if longV x (ms.drop i) = true then 2 else fineV ((cl p this && cl p super) && fs.all (fieldV p) && ms.all (methV p))) := fun i x hi => by
    rw [List.drop_eq_nil_of_le (by omega)]
    unfold longV
    rw [List.any_nil, Bool.or_false]
    by_cases hx : x > 64
    · rw [decide_eq_true hx, if_pos rfl]
      exact Ev.step (f := fun _ => some 2) (fun k => by simp only [class_Check.l0]; rw [if_neg (by omega), if_pos hx]) (Ev.now _)
    · rw [decide_eq_false hx, if_neg (by simp)]
      refine Ev.step (f := fun k => (class_rules_class.f k p [this, super]).bind fun t169 => class_Check.l1 k t169 fs (fs.length : Int) ((0 : Nat) : Int) p this super fs ms p) (fun k => by simp only [class_Check.l0]; rw [if_neg (by omega), if_neg hx]; rfl) (Ev.bind (rules_class.ev2 p this super) ?_)
      have := cc.ev_l1 p hl this super fs ms hfl hml hf hm fs.length 0 (cl p this && cl p super) (by omega)
      rw [List.drop_zero] at this
      exact this
  intro d
  induction d with
  | zero => intro i x h; exact stop i x (by omega)
  | succ d ih =>
    intro i x h
    by_cases hi : i < ms.length
    · obtain ⟨m, he⟩ : ∃ m, m = rd_T37 ms (i : Int) := ⟨_, rfl⟩
      have hd : ms.drop i = m :: ms.drop (i + 1) := by
        rw [drop_getD (z := z37) i hi, he]
        unfold rd_T37
        rw [Int.toNat_natCast]
      have e : longV x (ms.drop i) = longV (mx x (m.f6.length : Int)) (ms.drop (i + 1)) := by
        unfold longV
        rw [hd, List.any_cons, ← Bool.or_assoc]
        congr 1
        rw [Bool.eq_iff_iff]
        simp only [Bool.or_eq_true, decide_eq_true_eq]
        unfold mx
        split <;> omega
      rw [e]
      refine Ev.step (fun k => ?_) (ih (i + 1) (mx x (m.f6.length : Int)) (by omega))
      simp only [class_Check.l0, ← he]
      rw [if_pos (by omega), if_pos (by omega), if_pos (by omega), w64 (by omega) (by omega)]
      rfl
    · exact stop i x hi
theorem class_Check.ev (hp : ∀ c ∈ p, FitC c) : Ev (fun k => class_Check.f k p this super fs ms) (classCheckV p this super fs ms) := by
  unfold class_Check.f classCheckV
  refine Ev.bind (pool_Check.ev p hp) ?_
  by_cases h : checkV p = 0
  · rw [if_pos h]
    refine Ev.congr (fun k => if_pos h) ?_
    have := cc.ev_l0 p hl this super fs ms hfl hml hf hm ms.length 0 (mx (fs.length : Int) (ms.length : Int)) (by omega)
    rw [List.drop_zero] at this
    exact this
  · rw [if_neg h]
    exact Ev.congr (fun k => if_neg h) (Ev.now _)
end
end Go.Proofs.YtiolgmklpldpcaaDoor.Px
