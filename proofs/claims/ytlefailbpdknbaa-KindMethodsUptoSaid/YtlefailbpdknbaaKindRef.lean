/- Plain law of descriptors, the reference's side: its Field comes to 'FieldV', too. -/
import Derived.Test.YtlefailbpdknbaaKindMath
import Derived.Test.YtlefailbpdknbaaPx7
import Derived.Test.YtlefailbpdknbaaPx6
namespace Go.Proofs.Ytlefailbpdknbaa.Px
open Go.RowKit Go.Proofs.YtlefailbpdknbaaW.PrintWords Go.Proofs.YtlefailbpdknbaaW.PrintLast Go.Proofs.YtlefailbpdknbaaW.PrintMore
set_option linter.unusedVariables false
set_option linter.unusedSimpArgs false

theorem ref_Plain.ev_l (l : List UInt8) (hl : l.length ≤ 4294967280) : ∀ n i, l.length - i ≤ n → i ≤ l.length → Ev (fun k => understudyref08_Plain.l0 k (BA l) (i : Int)) (!(l.drop i).any badC) := by
  intro n
  induction n with
  | zero =>
    intro i h1 h2
    have e : i = l.length := by omega
    subst e
    refine Ev.step (f := fun _ => some true) (fun k => ?_) (by rw [List.drop_length]; exact Ev.now _)
    simp only [understudyref08_Plain.l0]
    rw [if_neg (by rw [BA_size]; omega)]
  | succ n ih =>
    intro i h1 h2
    by_cases hi : i < l.length
    · have hd : l.drop i = l[i] :: l.drop (i + 1) := List.drop_eq_getElem_cons hi
      refine Ev.step (f := fun k => if badC l[i] = true then some false else understudyref08_Plain.l0 k (BA l) ((i + 1 : Nat) : Int)) (fun k => ?_) ?_
      · simp only [understudyref08_Plain.l0]
        rw [if_pos (by rw [BA_size]; omega), if_pos (by omega), bt_BA l i hi, badC_if, w64s i (by omega)]
      · rw [hd, List.any_cons]
        by_cases hb : badC l[i] = true
        · simp only [hb, if_true, Bool.true_or, Bool.not_true]; exact Ev.now _
        · simp only [hb, if_false, Bool.false_or, Bool.false_eq_true]; exact ih (i + 1) (by omega) (by omega)
    · exact ih i (by omega) (by omega)
theorem ref_Plain.ev (l : List UInt8) (hl : l.length ≤ 4294967280) : Ev (fun k => understudyref08_Plain.f k (BA l)) (plainV l) := by
  unfold understudyref08_Plain.f
  cases l with
  | nil =>
    refine Ev.step (f := fun _ => some false) (fun k => ?_) (Ev.now _)
    rw [if_pos (by decide)]
    rfl
  | cons c t =>
    simp only [BA_size]
    rw [show plainV (c :: t) = (!(c :: t).any badC && decide ((c :: t).length ≤ 256)) by unfold plainV; simp]
    refine Ev.step (f := fun k => if decide (((c :: t).length : Int) > 256) = true then some false else understudyref08_Plain.l0 k (BA (c :: t)) 0) (fun k => ?_) ?_
    · rw [if_neg (by rw [List.length_cons]; omega)]
      rfl
    · by_cases h : (c :: t).length ≤ 256
      · rw [decide_eq_false (by omega), decide_eq_true h, Bool.and_true]
        simp only [Bool.false_eq_true, if_false]
        exact ref_Plain.ev_l _ hl _ 0 (Nat.le_refl _) (by omega)
      · rw [decide_eq_true (by omega), decide_eq_false h, Bool.and_false]
        simp only [if_true]
        exact Ev.now _

theorem until_all : ∀ t : List UInt8, ¬ (59 : UInt8) ∈ t → t.takeWhile (· != 59) = t
  | [], _ => rfl
  | c :: t, h => by
    have h1 : (c != 59) = true := by simpa using fun e => h (by rw [e]; exact List.mem_cons_self)
    rw [List.takeWhile_cons, if_pos h1, until_all t (fun e => h (List.mem_cons_of_mem _ e))]
theorem until_mem : ∀ (t : List UInt8) (c : UInt8), c ∈ t.takeWhile (· != 59) → c ≠ 59
  | [], _, h => by cases h
  | x :: t, c, h => by
    rw [List.takeWhile_cons] at h
    by_cases hx : (x != 59) = true
    · rw [if_pos hx] at h
      rcases List.mem_cons.1 h with rfl | h
      · simpa using hx
      · exact until_mem t c h
    · rw [if_neg hx] at h
      cases h
def rAns : Option (Ty × List UInt8) → Int × ByteArray × Int × Int × Int × ByteArray × Bool
  | none => (0, BA [], 0, 0, 0, BA [], false)
  | some (t, u) => (t.1, t.2.1, t.2.2.1, t.2.2.2.1, t.2.2.2.2, BA u, true)
/-- Behind 'L': the place of the first ';'. -/
theorem ref_j4.ev (t : List UInt8) (hl : t.length ≤ 4294967280) (d n : Nat) (hn : n = (t.takeWhile (· != 59)).length) :
    Ev (fun k => understudyref08_field.j4 k (BA (76 :: t)) (d : Int) ((n + 1 : Nat) : Int) 0 (BA []) 0 0 0) (rAns (if (59 : UInt8) ∈ t ∧ plainV (t.takeWhile (· != 59)) = true then some (tyV d 4 (BA (t.takeWhile (· != 59))), (t.dropWhile (· != 59)).drop 1) else none)) := by
  have hle := takeWhile_len (· != 59) t
  have hbad : ∀ m : Int, Ev (fun k => understudyref08_field.j5 k (BA (76 :: t)) (d : Int) m true 0 (BA []) 0 0 0) (rAns none) := by
    intro m
    refine Ev.step (f := fun _ => some (rAns none)) (fun k => ?_) (Ev.now _)
    simp [understudyref08_field.j5, rAns]
  by_cases hm : (59 : UInt8) ∈ t
  · have hu := until_len t hm
    have e1 : (BA (76 :: t)).extract 1 (((n + 1 : Nat) : Int)).toNat = BA (t.takeWhile (· != 59)) := by
      rw [BA_ext, Int.toNat_natCast]
      simp only [List.drop_succ_cons, List.drop_zero, Nat.add_sub_cancel]
      rw [hn, take_until]
    refine Ev.step (f := fun k => (understudyref08_Plain.f k (BA (t.takeWhile (· != 59)))).bind fun t199 => understudyref08_field.j5 k (BA (76 :: t)) (d : Int) ((n + 1 : Nat) : Int) (!t199) 0 (BA []) 0 0 0) (fun k => ?_) ?_
    · simp only [understudyref08_field.j4]
      rw [if_neg (by rw [BA_size, List.length_cons]; omega), if_pos (by omega), if_pos (by rw [BA_size, List.length_cons]; omega), e1]
    · refine Ev.bind (ref_Plain.ev _ (by omega)) ?_
      by_cases hp : plainV (t.takeWhile (· != 59)) = true
      · simp only [hp, Bool.not_true, hm, true_and, if_true]
        have e2 : (BA (76 :: t)).extract ((wrap64 (((n + 1 : Nat) : Int) + 1)) : Int).toNat (BA (76 :: t)).size = BA ((t.dropWhile (· != 59)).drop 1) := by
          rw [w64s _ (by omega), Int.toNat_natCast, BA_drop]
          simp only [List.drop_succ_cons]
          rw [hn, ← drop_until, List.drop_drop]
        have e4 := tyV_if d 4 (BA (t.takeWhile (· != 59))) (fun T => some (rAns (some (T, (t.dropWhile (· != 59)).drop 1))))
        refine Ev.step (f := fun _ => some (rAns (some (tyV d 4 (BA (t.takeWhile (· != 59))), (t.dropWhile (· != 59)).drop 1)))) (fun k => ?_) (Ev.now _)
        rw [← e4]
        simp only [understudyref08_field.j5]
        rw [if_neg (by simp), if_pos (by omega), if_pos (by rw [BA_size, List.length_cons]; omega), if_pos (by rw [w64s _ (by omega)]; omega), if_pos (by rw [w64s _ (by omega), BA_size, List.length_cons]; omega), e1, e2]
        rfl
      · simp only [hp, hm, true_and, if_false, Bool.false_eq_true, Bool.not_false]
        exact hbad _
  · rw [if_neg (fun h => hm h.1)]
    have hall : (t.takeWhile (· != 59)) = t := by
      exact until_all t hm
    rw [hall] at hn
    refine Ev.step (f := fun k => understudyref08_field.j5 k (BA (76 :: t)) (d : Int) ((n + 1 : Nat) : Int) true 0 (BA []) 0 0 0) (fun k => ?_) (hbad _)
    simp only [understudyref08_field.j4]
    rw [if_pos (by rw [BA_size, List.length_cons]; omega)]
theorem ref_l1.ev (t : List UInt8) (hl : t.length ≤ 4294967280) (d : Nat) : ∀ n i, n + i = (t.takeWhile (· != 59)).length →
    Ev (fun k => understudyref08_field.l1 k (BA (76 :: t)) (d : Int) ((i + 1 : Nat) : Int) 0 (BA []) 0 0 0) (rAns (if (59 : UInt8) ∈ t ∧ plainV (t.takeWhile (· != 59)) = true then some (tyV d 4 (BA (t.takeWhile (· != 59))), (t.dropWhile (· != 59)).drop 1) else none)) := by
  have hle := takeWhile_len (· != 59) t
  intro n
  induction n with
  | zero =>
    intro i hi
    have h4 := ref_j4.ev t hl d i (by omega)
    refine Ev.step (f := fun k => understudyref08_field.j4 k (BA (76 :: t)) (d : Int) ((i + 1 : Nat) : Int) 0 (BA []) 0 0 0) (fun k => ?_) h4
    simp only [understudyref08_field.l1]
    by_cases h : i < t.length
    · rw [if_pos (by rw [BA_size, List.length_cons]; omega), if_pos (by omega), if_pos]
      have hlt : i + 1 < (76 :: t).length := by rw [List.length_cons]; omega
      rw [bt_BA _ _ hlt]
      have h1 : t.drop i = t.dropWhile (· != 59) := by rw [show i = (t.takeWhile (· != 59)).length by omega, drop_until]
      have h2 : t.dropWhile (· != 59) ≠ [] := by rw [← h1]; intro e; have := congrArg List.length e; rw [List.length_drop] at this; simp at this; omega
      have h3 : t.drop i = t[i] :: t.drop (i + 1) := List.drop_eq_getElem_cons h
      have h5 := List.head_dropWhile_not (p := (· != (59 : UInt8))) (l := t) h2
      have h6 : (t.dropWhile (· != 59)).head h2 = t[i] := by simp only [← h1, h3, List.head_cons]
      rw [h6] at h5
      have h7 : t[i] = 59 := by simpa using h5
      simp only [List.getElem_cons_succ, h7]
      rfl
    · rw [if_neg (by rw [BA_size, List.length_cons]; omega)]
  | succ n ih =>
    intro i hi
    have h4 := ih (i + 1) (by omega)
    refine Ev.step (f := fun k => understudyref08_field.l1 k (BA (76 :: t)) (d : Int) ((i + 1 + 1 : Nat) : Int) 0 (BA []) 0 0 0) (fun k => ?_) h4
    simp only [understudyref08_field.l1]
    have hlt : i + 1 < (76 :: t).length := by rw [List.length_cons]; omega
    rw [if_pos (by rw [BA_size, List.length_cons]; omega), if_pos (by omega), if_neg, w64s _ (by omega)]
    rw [bt_BA _ _ hlt]
    simp only [List.getElem_cons_succ]
    intro e
    have e := (u8_int _ 59 (by decide)).1 e
    have hm : t[i]'(by omega) ∈ t.takeWhile (· != 59) := by
      have : t[i]'(by omega) = (t.takeWhile (· != 59))[i]'(by omega) := (List.IsPrefix.getElem (List.takeWhile_prefix _) (by omega)).symm
      rw [this]
      exact List.getElem_mem _
    have := until_mem t _ hm
    rw [e] at this
    exact this rfl
theorem ref_j1.ev (l : List UInt8) (hl : l.length ≤ 4294967280) (d : Nat) : Ev (fun k => understudyref08_field.j1 k (BA l) (d : Int)) (rAns (restV d l)) := by
  have hbad : Ev (fun k => understudyref08_field.j2 k (BA l) (d : Int) true) (rAns none) := by
    refine Ev.step (f := fun _ => some (rAns none)) (fun k => ?_) (Ev.now _)
    simp [understudyref08_field.j2, rAns]
  cases l with
  | nil =>
    refine Ev.step (f := fun k => understudyref08_field.j2 k (BA []) (d : Int) true) (fun k => ?_) hbad
    simp only [understudyref08_field.j1]
    rw [BA_list, if_pos rfl]
  | cons c t =>
    rw [List.length_cons] at hl
    by_cases hd : d > 4
    · refine Ev.step (f := fun k => understudyref08_field.j2 k (BA (c :: t)) (d : Int) true) (fun k => ?_) (by rw [show restV d (c :: t) = none from if_pos hd]; exact hbad)
      simp only [understudyref08_field.j1]
      rw [BA_list, if_neg (by simp), decide_eq_true (by omega)]
    · refine Ev.step (f := fun k => understudyref08_field.j2 k (BA (c :: t)) (d : Int) false) (fun k => ?_) ?_
      · simp only [understudyref08_field.j1]
        rw [BA_list, if_neg (by simp), decide_eq_false (by omega)]
      simp only [restV, if_neg hd]
      have hex : (BA (c :: t)).extract 1 (BA (c :: t)).size = BA t := by rw [BA_drop]; rfl
      refine Ev.step (f := fun k => if (c.toNat : Int) = 73 then some (rAns (some (tyV d 1 (BA []), t))) else if (c.toNat : Int) = 74 then some (rAns (some (tyV d 2 (BA []), t))) else if (c.toNat : Int) = 76 then understudyref08_field.l1 k (BA (c :: t)) d 1 0 (BA []) 0 0 0 else some (rAns none)) (fun k => ?_) ?_
      · simp only [understudyref08_field.j2]
        rw [if_neg (by simp), if_pos (by rw [BA_size, List.length_cons]; omega), bt_BA0]
        have e1 := tyV_if d 1 (BA []) (fun T => some (rAns (some (T, t))))
        have e2 := tyV_if d 2 (BA []) (fun T => some (rAns (some (T, t))))
        rw [← e1, ← e2, hex]
        simp only [if_pos (show (1 : Int) ≤ ((BA (c :: t)).size : Int) by rw [BA_size, List.length_cons]; omega)]
        rfl
      by_cases c1 : c = 73
      · subst c1
        simp only [if_true, show (((73 : UInt8).toNat : Int) = 73) from rfl]
        exact Ev.now _
      have c1' : ¬ (c.toNat : Int) = 73 := fun h => c1 ((u8_int c 73 (by decide)).1 h)
      simp only [if_neg c1, if_neg c1']
      by_cases c2 : c = 74
      · subst c2
        simp only [if_true, show (((74 : UInt8).toNat : Int) = 74) from rfl]
        exact Ev.now _
      have c2' : ¬ (c.toNat : Int) = 74 := fun h => c2 ((u8_int c 74 (by decide)).1 h)
      simp only [if_neg c2, if_neg c2']
      by_cases c3 : c = 76
      · subst c3
        simp only [if_true, show (((76 : UInt8).toNat : Int) = 76) from rfl]
        exact ref_l1.ev t (by omega) d _ 0 rfl
      have c3' : ¬ (c.toNat : Int) = 76 := fun h => c3 ((u8_int c 76 (by decide)).1 h)
      simp only [if_neg c3, if_neg c3']
      exact Ev.now _
theorem ref_l0.ev : ∀ (l : List UInt8) (d : Nat) (hl : d + l.length ≤ 4294967280), Ev (fun k => understudyref08_field.l0 k (BA l) (d : Int)) (rAns (restV (d + nb l) (l.drop (nb l))))
  | [], d, hl => by
    refine Ev.step (f := fun k => understudyref08_field.j1 k (BA []) (d : Int)) (fun k => ?_) (ref_j1.ev [] (by omega) d)
    simp only [understudyref08_field.l0]
    rw [if_neg (by decide)]
  | c :: t, d, hl => by
    rw [List.length_cons] at hl
    rw [nb_cons]
    by_cases hc : c = 91
    · rw [if_pos hc, List.drop_succ_cons]
      have h := ref_l0.ev t (d + 1) (by omega)
      rw [show d + 1 + nb t = d + (nb t + 1) by omega] at h
      refine Ev.step (f := fun k => understudyref08_field.l0 k (BA t) ((d + 1 : Nat) : Int)) (fun k => ?_) h
      simp only [understudyref08_field.l0]
      rw [if_pos (by rw [BA_size, List.length_cons]; omega), if_pos (by rw [BA_size, List.length_cons]; omega), if_pos (by rw [bt_BA0, hc]; rfl), if_pos (by rw [BA_size, List.length_cons]; omega), BA_drop, w64s d (by omega)]
      rfl
    · rw [if_neg hc]
      refine Ev.step (f := fun k => understudyref08_field.j1 k (BA (c :: t)) (d : Int)) (fun k => ?_) (ref_j1.ev (c :: t) (by rw [List.length_cons]; omega) d)
      simp only [understudyref08_field.l0]
      rw [if_pos (by rw [BA_size, List.length_cons]; omega), if_pos (by rw [BA_size, List.length_cons]; omega), if_neg (by rw [bt_BA0]; intro e; exact hc ((u8_int c 91 (by decide)).1 e))]
theorem ref_field.ev (l : List UInt8) (hl : l.length ≤ 4294967280) : Ev (fun k => understudyref08_field.f k (BA l)) (rAns (fieldV l)) := by
  have h := ref_l0.ev l 0 (by omega)
  unfold understudyref08_field.f fieldV
  simpa using h
end Go.Proofs.Ytlefailbpdknbaa.Px
