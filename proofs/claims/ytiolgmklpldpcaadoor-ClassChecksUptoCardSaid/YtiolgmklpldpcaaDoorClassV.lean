/- Plain law of class.Check: what the program's check comes to. -/
import Derived.Test.YtiolgmklpldpcaaDoorPoolCheckV
import Derived.Test.YtiolgmklpldpcaaDoorPx6
import Derived.Test.YtiolgmklpldpcaaDoorPx5
import Derived.Test.YtiolgmklpldpcaaDoorPx4
import Derived.Laws.BitsLemmas
namespace Go.Proofs.YtiolgmklpldpcaaDoor.Px
open Go.RowKit Go.Proofs.YtiolgmklpldpcaaDoorW.PrintWords Go.Proofs.YtiolgmklpldpcaaDoorW.PrintLast Go.Proofs.YtiolgmklpldpcaaDoorW.PrintMore
set_option linter.unusedVariables false
set_option linter.unusedSimpArgs false

abbrev Fld := S42
abbrev Mth := S37
abbrev Trp := S62
def classV (l : List Cst) (i : Int) : ByteArray × Bool := if isV l i 7 = true then textV l (rd_T51 l i).f3 else (noText, false)
theorem pool_Class.eq (l : List Cst) (i : Int) : pool_Class.f l i = some (classV l i) := by
  unfold pool_Class.f classV
  rw [pool_is.eq, Option.bind_some]
  by_cases h : isV l i 7 = true
  · have := isV_pos h
    rw [if_pos h, if_pos h, if_pos (by omega), if_pos this.2.1, pool_Text.eq, Option.bind_some]
  · rw [if_neg h, if_neg h]; rfl
def txt (p : List Cst) (i : Int) : Bool := (textV p i).2
def cl (p : List Cst) (i : Int) : Bool := (classV p i).2
def flagsV (n : Int) : Bool := decide (n = 0 ∨ n = 8)
def placeG : Nat → List Cst → ByteArray → Nat → Int
  | 0, _, _, _ => 0
  | n + 1, p, s, i => if i < p.length then (if isV p (i : Int) 1 = true ∧ (rd_T51 p (i : Int)).f1.toList = s.toList then (i : Int) else placeG n p s (i + 1)) else 0
/-- The earliest place of a text; 0. -/
def placeV (p : List Cst) (s : ByteArray) : Int := placeG p.length p s 1
abbrev sCode : ByteArray := ⟨#[67, 111, 100, 101]⟩
abbrev sMaps : ByteArray := ⟨#[83, 116, 97, 99, 107, 77, 97, 112, 84, 97, 98, 108, 101]⟩
def trapV (p : List Cst) (n : Int) (t : Trp) : Bool :=
  if t.f0 < 0 then false else if t.f0 ≥ t.f1 then false else if t.f1 > n then false else if t.f2 < 0 ∨ t.f2 ≥ n then false else if t.f3 = 0 then true else cl p t.f3
def restV (p : List Cst) (m0 m1 m2 m3 m4 : Int) (n mn : Nat) : Bool :=
  flagsV m0 && (txt p m1 && txt p m2) && decide (0 ≤ m3 ∧ m3 ≤ 64) && decide (0 ≤ m4 ∧ m4 ≤ 64) && decide (1 ≤ n ∧ n ≤ 4096) && decide (mn ≤ 4096) && decide (placeV p sCode > 0) && (decide (mn = 0) || decide (placeV p sMaps > 0))
def fieldV (p : List Cst) (f : Fld) : Bool := flagsV f.f0 && (txt p f.f1 && txt p f.f2)
def methV (p : List Cst) (m : Mth) : Bool := m.f6.all (trapV p m.f5.length) && restV p m.f0 m.f1 m.f2 m.f3 m.f4 m.f5.length m.f7.length
def longV (x : Int) (ms : List Mth) : Bool := decide (x > 64) || ms.any (fun m => decide ((m.f6.length : Int) > 64))
def fineV (fine : Bool) : Int := if fine = true then 0 else 50
def classCheckV (p : List Cst) (this super : Int) (fs : List Fld) (ms : List Mth) : Int :=
  if checkV p = 0 then (if longV (mx (fs.length : Int) (ms.length : Int)) ms = true then 2 else fineV ((cl p this && cl p super) && fs.all (fieldV p) && ms.all (methV p))) else checkV p

section
variable {α : Type} {xs : List α} {z : α}
theorem drop_getD (i : Nat) (h : i < xs.length) : xs.drop i = xs.getD i z :: xs.drop (i + 1) := by
  rw [List.drop_eq_getElem_cons h, List.getD_eq_getElem?_getD, List.getElem?_eq_getElem h]
  rfl
end
theorem flags_iff (a : Int) (h0 : -9223372036854775808 ≤ a) (h1 : a ≤ 9223372036854775807) : (Go.bits .andNot .i64 a 8 == 0) = decide (a = 0 ∨ a = 8) := by
  rw [Bool.eq_iff_iff, beq_iff_eq, decide_eq_true_eq]
  constructor
  · intro h
    have h2 : IntKind.i64.wrap ((BitVec.ofInt 64 a &&& ~~~BitVec.ofInt 64 8).toNat : Int) = 0 := h
    rw [i64_w] at h2
    have hlt := (BitVec.ofInt 64 a &&& ~~~BitVec.ofInt 64 8).isLt
    have h3 : (BitVec.ofInt 64 a &&& ~~~BitVec.ofInt 64 8).toNat = 0 := by unfold wrap64 at h2; omega
    have h4 : BitVec.ofInt 64 a &&& ~~~BitVec.ofInt 64 8 = 0#64 := BitVec.eq_of_toNat_eq h3
    have h8 : BitVec.ofInt 64 8 = BitVec.twoPow 64 3 := by decide
    have hx : ∀ x t : BitVec 64, x = (x &&& ~~~t) ||| (x &&& t) := by
      intro x t
      ext i hi
      simp only [BitVec.getElem_or, BitVec.getElem_and, BitVec.getElem_not]
      cases x[i] <;> cases t[i] <;> rfl
    have h5 := hx (BitVec.ofInt 64 a) (BitVec.ofInt 64 8)
    rw [h4, h8, BitVec.and_twoPow, BitVec.zero_or] at h5
    have h6 := congrArg BitVec.toNat h5
    rw [BitVec.toNat_ofInt] at h6
    split at h6
    · have : (BitVec.twoPow 64 3).toNat = 8 := by decide
      omega
    · have : (0#64).toNat = 0 := rfl
      omega
  · rintro (rfl | rfl) <;> decide
theorem flags.eq (n : Int) (h : (Lit.int .i64 n).wf = true) : class_flags.f n = some (flagsV n) := by
  simp [Lit.wf, IntKind.min, IntKind.max, IntKind.bits, IntKind.signed] at h
  unfold class_flags.f flagsV
  rw [flags_iff n (by omega) (by omega)]
theorem within.eq (a b : Int) : class_within.f a b = some (decide (0 ≤ a ∧ a ≤ b)) := by
  unfold class_within.f
  by_cases h : a ≥ 0
  · rw [if_pos h]
    congr 1
    rw [Bool.eq_iff_iff, decide_eq_true_eq, decide_eq_true_eq]
    omega
  · rw [if_neg h, decide_eq_false (by omega)]
theorem rules_text.ev_l (p : List Cst) (l : List Int) (hl : l.length ≤ 1048576) : ∀ n (i : Nat), l.length ≤ i + n → Ev (fun k => class_rules_text.l0 k l (l.length : Int) (i : Int) p) ((l.drop i).all (txt p)) := by
  have stop : ∀ i : Nat, ¬ i < l.length → Ev (fun k => class_rules_text.l0 k l (l.length : Int) (i : Int) p) ((l.drop i).all (txt p)) := fun i hi => by
    rw [List.drop_eq_nil_of_le (by omega)]
    exact Ev.step (f := fun _ => some true) (fun k => by simp only [class_rules_text.l0]; rw [if_neg (by omega)]) (Ev.now _)
  intro n
  induction n with
  | zero => intro i h; exact stop i (by omega)
  | succ n ih =>
    intro i h
    by_cases hi : i < l.length
    · rw [drop_getD (z := (0 : Int)) i hi, List.all_cons]
      have e : rd l (i : Int) = l.getD i 0 := by unfold rd; rw [Int.toNat_natCast]
      have et : (textV p (l.getD i 0)).2 = txt p (l.getD i 0) := rfl
      refine Ev.step (f := fun k => if txt p (l.getD i 0) = true then class_rules_text.l0 k l (l.length : Int) ((i + 1 : Nat) : Int) p else some false) (fun k => ?_) ?_
      · simp only [class_rules_text.l0, pool_Text.eq, Option.bind_some, e, et]
        rw [if_pos (by omega), if_pos (by omega), if_pos (by omega), w64 (by omega) (by omega)]
        rfl
      · cases ht : txt p (l.getD i 0)
        · exact Ev.congr (fun k => if_neg (by simp)) (Ev.now _)
        · exact Ev.congr (fun k => if_pos rfl) (ih (i + 1) (by omega))
    · exact stop i hi
theorem rules_text.ev2 (p : List Cst) (a b : Int) : Ev (fun k => class_rules_text.f k p [a, b]) (txt p a && txt p b) := by
  have h := rules_text.ev_l p [a, b] (by simp) 2 0 (by simp)
  simp only [List.drop_zero, List.all_cons, List.all_nil, Bool.and_true] at h
  exact h
theorem rules_class.ev_l (p : List Cst) (l : List Int) (hl : l.length ≤ 1048576) : ∀ n (i : Nat), l.length ≤ i + n → Ev (fun k => class_rules_class.l0 k l (l.length : Int) (i : Int) p) ((l.drop i).all (cl p)) := by
  have stop : ∀ i : Nat, ¬ i < l.length → Ev (fun k => class_rules_class.l0 k l (l.length : Int) (i : Int) p) ((l.drop i).all (cl p)) := fun i hi => by
    rw [List.drop_eq_nil_of_le (by omega)]
    exact Ev.step (f := fun _ => some true) (fun k => by simp only [class_rules_class.l0]; rw [if_neg (by omega)]) (Ev.now _)
  intro n
  induction n with
  | zero => intro i h; exact stop i (by omega)
  | succ n ih =>
    intro i h
    by_cases hi : i < l.length
    · rw [drop_getD (z := (0 : Int)) i hi, List.all_cons]
      have e : rd l (i : Int) = l.getD i 0 := by unfold rd; rw [Int.toNat_natCast]
      have et : (classV p (l.getD i 0)).2 = cl p (l.getD i 0) := rfl
      refine Ev.step (f := fun k => if cl p (l.getD i 0) = true then class_rules_class.l0 k l (l.length : Int) ((i + 1 : Nat) : Int) p else some false) (fun k => ?_) ?_
      · simp only [class_rules_class.l0, pool_Class.eq, Option.bind_some, e, et]
        rw [if_pos (by omega), if_pos (by omega), if_pos (by omega), w64 (by omega) (by omega)]
        rfl
      · cases ht : cl p (l.getD i 0)
        · exact Ev.congr (fun k => if_neg (by simp)) (Ev.now _)
        · exact Ev.congr (fun k => if_pos rfl) (ih (i + 1) (by omega))
    · exact stop i hi
theorem rules_class.ev2 (p : List Cst) (a b : Int) : Ev (fun k => class_rules_class.f k p [a, b]) (cl p a && cl p b) := by
  have h := rules_class.ev_l p [a, b] (by simp) 2 0 (by simp)
  simp only [List.drop_zero, List.all_cons, List.all_nil, Bool.and_true] at h
  exact h
theorem rules_class.ev1 (p : List Cst) (a : Int) : Ev (fun k => class_rules_class.f k p [a]) (cl p a) := by
  have h := rules_class.ev_l p [a] (by simp) 1 0 (by simp)
  simp only [List.drop_zero, List.all_cons, List.all_nil, Bool.and_true] at h
  exact h
theorem place.ev_l (p : List Cst) (s : ByteArray) (hl : p.length ≤ 1048576) : ∀ n (i : Nat), p.length ≤ i + n → Ev (fun k => class_place.l0 k p s (p.length : Int) (i : Int)) (placeG n p s i) := by
  have stop : ∀ i : Nat, ¬ i < p.length → Ev (fun k => class_place.l0 k p s (p.length : Int) (i : Int)) 0 := fun i hi => Ev.step (f := fun _ => some 0) (fun k => by simp only [class_place.l0]; rw [if_neg (by omega)]) (Ev.now _)
  intro n
  induction n with
  | zero => intro i h; exact stop i (by omega)
  | succ n ih =>
    intro i h
    show Ev _ (if i < p.length then _ else _)
    by_cases hi : i < p.length
    · rw [if_pos hi]
      refine Ev.step (f := fun k => if isV p (i : Int) 1 = true ∧ (rd_T51 p (i : Int)).f1.toList = s.toList then some (i : Int) else class_place.l0 k p s (p.length : Int) ((i + 1 : Nat) : Int)) (fun k => ?_) ?_
      · simp only [class_place.l0, pool_Text.eq, Option.bind_some]
        rw [if_pos (by omega), w64 (by omega) (by omega)]
        unfold textV
        by_cases hv : isV p (i : Int) 1 = true
        · rw [if_pos hv, if_pos rfl]
          by_cases hs : (rd_T51 p (i : Int)).f1.toList = s.toList
          · rw [if_pos hs, if_pos ⟨hv, hs⟩]
          · rw [if_neg hs, if_neg (fun h => hs h.2)]; rfl
        · rw [if_neg hv, if_neg (by simp), if_neg (fun h => hv h.1)]; rfl
      · by_cases hc : isV p (i : Int) 1 = true ∧ (rd_T51 p (i : Int)).f1.toList = s.toList
        · rw [if_pos hc]; exact Ev.congr (fun k => if_pos hc) (Ev.now _)
        · rw [if_neg hc]; exact Ev.congr (fun k => if_neg hc) (ih (i + 1) (by omega))
    · rw [if_neg hi]; exact stop i hi
theorem place.ev (p : List Cst) (s : ByteArray) (hl : p.length ≤ 1048576) : Ev (fun k => class_place.f k p s) (placeV p s) := by
  have h := place.ev_l p s hl (p.length + 1) 0 (by omega)
  have e : placeG (p.length + 1) p s 0 = placeV p s := by
    show (if 0 < p.length then (if isV p ((0 : Nat) : Int) 1 = true ∧ _ then _ else placeG p.length p s 1) else 0) = placeG p.length p s 1
    have hv : ¬ isV p ((0 : Nat) : Int) 1 = true := by unfold isV; simp
    by_cases h0 : 0 < p.length
    · rw [if_pos h0, if_neg (fun h => hv h.1)]
    · rw [if_neg h0, show p.length = 0 by omega]; rfl
  rw [e] at h
  exact h
end Go.Proofs.YtiolgmklpldpcaaDoor.Px
