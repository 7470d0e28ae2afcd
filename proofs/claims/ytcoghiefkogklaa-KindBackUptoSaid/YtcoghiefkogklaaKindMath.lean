/- Plain law of descriptors: what a descriptor's beginning is ('fieldV'), and that the program's and the reference's Field both come to it. -/
import Derived.Test.YtcoghiefkogklaaBytesKit
import Derived.Test.YtcoghiefkogklaaPx3
import Derived.Test.YtcoghiefkogklaaPx4
import Derived.Test.YtcoghiefkogklaaPx2
namespace Go.Proofs.Ytcoghiefkogklaa.Px
open Go.RowKit Go.Proofs.YtcoghiefkogklaaW.PrintWords Go.Proofs.YtcoghiefkogklaaW.PrintLast Go.Proofs.YtcoghiefkogklaaW.PrintMore
set_option linter.unusedVariables false
set_option linter.unusedSimpArgs false

/-! ### names -/
def badC (c : UInt8) : Bool := c == 46 || c == 59 || c == 91 || c == 47 || c == 60 || c == 62
def plainV (l : List UInt8) : Bool := !l.any badC && !l.isEmpty && decide (l.length ≤ 256)
theorem badC_iff (c : UInt8) : badC c = true ↔ ((c.toNat : Int) = 46 ∨ (c.toNat : Int) = 59 ∨ (c.toNat : Int) = 91 ∨ (c.toNat : Int) = 47 ∨ (c.toNat : Int) = 60 ∨ (c.toNat : Int) = 62) := by
  unfold badC
  simp only [Bool.or_eq_true, beq_iff_eq, ← UInt8.toNat_inj, UInt8.reduceToNat]
  omega
theorem badC_if {α : Type} (c : UInt8) (x y : Option α) : (if (c.toNat : Int) = 46 then x else if (c.toNat : Int) = 59 then x else if (c.toNat : Int) = 91 then x else if (c.toNat : Int) = 47 then x else if (c.toNat : Int) = 60 then x else if (c.toNat : Int) = 62 then x else y) = if badC c = true then x else y := by
  by_cases h : badC c = true
  · rw [if_pos h]
    rw [badC_iff] at h
    by_cases h1 : (c.toNat : Int) = 46
    · rw [if_pos h1]
    rw [if_neg h1]
    by_cases h2 : (c.toNat : Int) = 59
    · rw [if_pos h2]
    rw [if_neg h2]
    by_cases h3 : (c.toNat : Int) = 91
    · rw [if_pos h3]
    rw [if_neg h3]
    by_cases h4 : (c.toNat : Int) = 47
    · rw [if_pos h4]
    rw [if_neg h4]
    by_cases h5 : (c.toNat : Int) = 60
    · rw [if_pos h5]
    rw [if_neg h5]
    by_cases h6 : (c.toNat : Int) = 62
    · rw [if_pos h6]
    omega
  · rw [if_neg h]
    rw [badC_iff] at h
    rw [if_neg (by omega), if_neg (by omega), if_neg (by omega), if_neg (by omega), if_neg (by omega), if_neg (by omega)]
theorem kind_plain.ev_l (l : List UInt8) (hl : l.length ≤ 4294967280) : ∀ n i, l.length - i ≤ n → i ≤ l.length → Ev (fun k => kind_plain.l0 k (BA l) (l.length : Int) (i : Int)) (!(l.drop i).any badC && !l.isEmpty && decide (l.length ≤ 256)) := by
  intro n
  induction n with
  | zero =>
    intro i h1 h2
    have e : i = l.length := by omega
    subst e
    refine Ev.step (f := fun _ => some (!l.isEmpty && decide (l.length ≤ 256))) (fun k => ?_) (by rw [List.drop_length]; exact Ev.now _)
    simp only [kind_plain.l0]
    rw [if_neg (by omega), BA_list, BA_size]
    cases l with
    | nil => rfl
    | cons c t =>
      rw [if_neg (by simp)]
      simp only [List.isEmpty_cons, Bool.not_false, Bool.true_and]
      exact congrArg some (decide_eq_decide.2 (by omega))
  | succ n ih =>
    intro i h1 h2
    by_cases hi : i < l.length
    · have hd : l.drop i = l[i] :: l.drop (i + 1) := List.drop_eq_getElem_cons hi
      refine Ev.step (f := fun k => if badC l[i] = true then some false else kind_plain.l0 k (BA l) (l.length : Int) ((i + 1 : Nat) : Int)) (fun k => ?_) ?_
      · simp only [kind_plain.l0]
        rw [if_pos (by omega), if_pos (by omega), if_pos (by rw [BA_size]; omega), bt_BA l i hi, badC_if, w64s i (by omega)]
      · rw [hd, List.any_cons]
        by_cases hb : badC l[i] = true
        · simp only [hb, if_true, Bool.true_or, Bool.not_true, Bool.false_and]; exact Ev.now _
        · simp only [hb, if_false, Bool.false_or, Bool.false_eq_true]; exact ih (i + 1) (by omega) (by omega)
    · exact ih i (by omega) (by omega)
theorem kind_plain.ev (l : List UInt8) (hl : l.length ≤ 4294967280) : Ev (fun k => kind_plain.f k (BA l)) (plainV l) := by
  have h := kind_plain.ev_l l hl l.length 0 (by omega) (by omega)
  unfold kind_plain.f plainV
  rw [BA_size]
  exact h
/-! ### types -/
abbrev Ty : Type := Int × ByteArray × Int × Int × Int
def tyV (d : Nat) (K : Int) (nm : ByteArray) : Ty := if d > 0 then (5, nm, d, K, 0) else (K, nm, 0, 0, 0)
/-- What follows the brackets. -/
def restV (d : Nat) : List UInt8 → Option (Ty × List UInt8)
  | [] => none
  | c :: t =>
    if d > 4 then none
    else if c = 73 then some (tyV d 1 (BA []), t)
    else if c = 74 then some (tyV d 2 (BA []), t)
    else if c = 76 then (if (59 : UInt8) ∈ t ∧ plainV (t.takeWhile (· != 59)) = true then some (tyV d 4 (BA (t.takeWhile (· != 59))), (t.dropWhile (· != 59)).drop 1) else none)
    else none
def nb (l : List UInt8) : Nat := (l.takeWhile (· == 91)).length
def fieldV (l : List UInt8) : Option (Ty × List UInt8) := restV (nb l) (l.drop (nb l))
/-- A whole text. -/
def FieldV (l : List UInt8) : Ty × Int := match fieldV l with | some (t, []) => (t, 0) | _ => ((0, BA [], 0, 0, 0), 80)
theorem nb_cons (c : UInt8) (t : List UInt8) : nb (c :: t) = if c = 91 then nb t + 1 else 0 := by
  unfold nb
  rw [List.takeWhile_cons]
  by_cases h : c = 91
  · simp [h]
  · simp [h]
theorem nb_nil : nb [] = 0 := rfl
theorem nb_le (l : List UInt8) : nb l ≤ l.length := by
  unfold nb
  exact (List.takeWhile_prefix _).length_le

theorem kind_left.eq (l : List UInt8) (a : Nat) (h : a ≤ l.length) : kind_scan_left.f (BA l) (a : Int) = some (BA (l.drop a), BA l, (a : Int)) := by
  unfold kind_scan_left.f
  rw [if_pos (by omega), if_pos (by rw [BA_size]; omega), Int.toNat_natCast, BA_drop]
theorem hasPrefix1.eq (l : List UInt8) (b : UInt8) : strings_HasPrefix.f (BA l) (BA [b]) = some (l.head? == some b) := by
  unfold strings_HasPrefix.f stringslite_HasPrefix.f
  rw [BA_size, BA_size]
  cases l with
  | nil => rfl
  | cons c t =>
    rw [if_pos (by simp only [List.length_cons, List.length_nil]; omega), if_pos (by simp only [List.length_cons, List.length_nil]; omega), if_pos (by simp only [List.length_cons, List.length_nil]; omega)]
    simp only [Option.bind_some, List.length_singleton]
    congr 1
    rw [show ((((1 : Nat) : Int) : Int).toNat) = 1 from rfl, BA_ext, BA_list, BA_list]
    simp
theorem c_iff (c : UInt8) (n : Nat) (h : n < 256) : ((c.toNat : Int) = (n : Int)) ↔ c = n.toUInt8 := u8_int c n h

/-- The answer of the program's field, behind the brackets. -/
def kAns (l : List UInt8) (a : Nat) : Option (Ty × List UInt8) → Int × ByteArray × Int × Int × Int × Bool × ByteArray × Int
  | none => (0, BA [], 0, 0, 0, false, BA l, (a : Int))
  | some (t, u) => (t.1, t.2.1, t.2.2.1, t.2.2.2.1, t.2.2.2.2, true, BA l, ((l.length - u.length : Nat) : Int))
theorem tyV_if {α : Type} (d : Nat) (K : Int) (nm : ByteArray) (f : Ty → α) : (if (d : Int) > 0 then f (5, nm, (d : Int), K, 0) else f (K, nm, 0, 0, 0)) = f (tyV d K nm) := by
  unfold tyV
  by_cases h : d > 0
  · rw [if_pos h, if_pos (by omega)]
  · rw [if_neg h, if_neg (by omega)]
theorem takeWhile_len (p : UInt8 → Bool) (l : List UInt8) : (l.takeWhile p).length ≤ l.length := (List.takeWhile_prefix _).length_le
theorem until_ne : ∀ t : List UInt8, (59 : UInt8) ∈ t → (t.dropWhile (· != 59)).length ≠ 0
  | [], h => by cases h
  | c :: t, h => by
    rw [List.dropWhile_cons]
    by_cases hc : c = 59
    · subst hc; simp
    · have h1 : (c != 59) = true := by simpa using hc
      rw [if_pos h1]
      exact until_ne t ((List.mem_cons.1 h).resolve_left (fun e => hc e.symm))
theorem until_len (t : List UInt8) (h : (59 : UInt8) ∈ t) : (t.takeWhile (· != 59)).length + 1 + ((t.dropWhile (· != 59)).drop 1).length = t.length := by
  have h1 : (t.takeWhile (· != 59)).length + (t.dropWhile (· != 59)).length = t.length := by
    rw [← List.length_append, List.takeWhile_append_dropWhile]
  have h2 := until_ne t h
  rw [List.length_drop]
  omega
theorem kind_j2.ev (l : List UInt8) (hl : l.length ≤ 4294967280) (a : Nat) (ha : a ≤ l.length) (d : Nat) (h : l.drop a ≠ []) (hd : d ≤ 4) :
    Ev (fun k => kind_scan_field.j2 k (d : Int) false (BA l) (a : Int)) (kAns l a (restV d (l.drop a))) := by
  obtain ⟨c, t, e⟩ : ∃ c t, l.drop a = c :: t := by
    cases hh : l.drop a with
    | nil => exact absurd hh h
    | cons c t => exact ⟨c, t, rfl⟩
  have hlen : l.length - a = t.length + 1 := by have := congrArg List.length e; rw [List.length_drop] at this; simpa using this
  have hj : ∀ k, kind_scan_field.j2 (k + 1) (d : Int) false (BA l) (a : Int) = (if (c.toNat : Int) = 73 then some (kAns l a (some (tyV d 1 (BA []), t))) else if (c.toNat : Int) = 74 then some (kAns l a (some (tyV d 2 (BA []), t))) else if (c.toNat : Int) = 76 then (strings_Cut.f (BA t) (BA [59])).bind fun q => (if q.2.2 = true then ((kind_plain.f k q.1).bind fun t182 => (kind_scan_field.j3 k d q.1 (!t182) (BA l) a 0 (BA []) 0 0 0)) else (kind_scan_field.j3 k d q.1 true (BA l) a 0 (BA []) 0 0 0)) else some (kAns l a none)) := by
    intro k
    simp only [kind_scan_field.j2]
    rw [if_neg (by simp), kind_left.eq l a ha, Option.bind_some, e]
    dsimp only
    rw [if_pos (by rw [BA_size, List.length_cons]; omega), bt_BA0]
    have ea : ((l.length - t.length : Nat) : Int) = wrap64 ((a : Int) + 1) := by rw [w64s a (by omega)]; omega
    have e1 := tyV_if d 1 (BA []) (fun T => some (kAns l a (some (T, t))))
    have e2 := tyV_if d 2 (BA []) (fun T => some (kAns l a (some (T, t))))
    rw [← e1, ← e2]
    simp only [kAns, ea]
    rw [kind_left.eq l a ha, Option.bind_some, e]
    dsimp only
    rw [if_pos (c := 1 ≤ _) (by rw [BA_size, List.length_cons]; omega), BA_drop]
    rfl
  have hcut : strings_Cut.f (BA t) (BA [59]) = some (if (59 : UInt8) ∈ t then (BA (t.takeWhile (· != 59)), BA ((t.dropWhile (· != 59)).drop 1), true) else (BA t, BA [], false)) := by
    unfold strings_Cut.f
    rw [if_pos (by rw [BA_size]; omega)]
    simp only [BA_data]
    rw [cut_until]
    by_cases hm : (59 : UInt8) ∈ t
    · rw [if_pos hm, if_pos hm]
    · rw [if_neg hm, if_neg hm]
  refine Ev.step (f := fun k => if (c.toNat : Int) = 73 then some (kAns l a (some (tyV d 1 (BA []), t))) else if (c.toNat : Int) = 74 then some (kAns l a (some (tyV d 2 (BA []), t))) else if (c.toNat : Int) = 76 then (strings_Cut.f (BA t) (BA [59])).bind fun q => (if q.2.2 = true then ((kind_plain.f k q.1).bind fun t182 => (kind_scan_field.j3 k d q.1 (!t182) (BA l) a 0 (BA []) 0 0 0)) else (kind_scan_field.j3 k d q.1 true (BA l) a 0 (BA []) 0 0 0)) else some (kAns l a none)) hj ?_
  rw [e]
  unfold restV
  simp only [if_neg (show ¬ d > 4 by omega)]
  by_cases c1 : c = 73
  · subst c1
    simp only [if_true, show (((73 : UInt8).toNat : Int) = 73) from rfl]
    exact Ev.now _
  have c1' : ¬ (c.toNat : Int) = 73 := fun h => c1 ((u8_int c 73 (by decide)).1 h)
  simp only [if_neg c1, if_neg c1']
  by_cases c2 : c = 74
  · subst c2
    simp only [if_true, show (((74 : UInt8).toNat : Int) = 74) from rfl]
    exact Ev.now _
  have c2' : ¬ (c.toNat : Int) = 74 := fun h => c2 ((u8_int c 74 (by decide)).1 h)
  simp only [if_neg c2, if_neg c2']
  by_cases c3 : c = 76
  · subst c3
    simp only [if_true, show (((76 : UInt8).toNat : Int) = 76) from rfl, hcut, Option.bind_some]
    by_cases hm : (59 : UInt8) ∈ t
    · simp only [if_pos hm, hm, true_and, if_true]
      have hu := until_len t hm
      have ht := takeWhile_len (· != 59) t
      refine Ev.bind (kind_plain.ev _ (by omega)) ?_
      by_cases hp : plainV (t.takeWhile (· != 59)) = true
      · simp only [hp, Bool.not_true, if_true]
        have e4 := tyV_if d 4 (BA (t.takeWhile (· != 59))) (fun T => some (kAns l a (some (T, (t.dropWhile (· != 59)).drop 1))))
        have ea : ((l.length - ((t.dropWhile (· != 59)).drop 1).length : Nat) : Int) = wrap64 ((wrap64 ((a : Int) + (wrap64 (((BA (t.takeWhile (· != 59))).size : Int) + 1)))) + 1) := by
          rw [BA_size, w64s _ (by omega), w64n _ _ (by omega), w64s _ (by omega)]
          omega
        refine Ev.step (f := fun _ => some (kAns l a (some (tyV d 4 (BA (t.takeWhile (· != 59))), (t.dropWhile (· != 59)).drop 1)))) (fun k => ?_) (Ev.now _)
        rw [← e4]
        simp only [kind_scan_field.j3, kAns, ea]
        simp
      · simp only [hp, if_false, Bool.false_eq_true]
        refine Ev.step (f := fun _ => some (kAns l a none)) (fun k => ?_) (Ev.now _)
        simp [kind_scan_field.j3, kAns]
    · simp only [if_neg hm, hm, false_and, if_false, Bool.false_eq_true]
      refine Ev.step (f := fun _ => some (kAns l a none)) (fun k => ?_) (Ev.now _)
      simp [kind_scan_field.j3, kAns]
  have c3' : ¬ (c.toNat : Int) = 76 := fun h => c3 ((u8_int c 76 (by decide)).1 h)
  simp only [if_neg c3, if_neg c3']
  exact Ev.now _
theorem kind_j1.ev (l : List UInt8) (hl : l.length ≤ 4294967280) (a : Nat) (ha : a ≤ l.length) (d : Nat) :
    Ev (fun k => kind_scan_field.j1 k (d : Int) (BA l) (a : Int)) (kAns l a (restV d (l.drop a))) := by
  refine Ev.step (f := fun k => if l.drop a = [] then kind_scan_field.j2 k (d : Int) true (BA l) (a : Int) else kind_scan_field.j2 k (d : Int) (decide ((d : Int) > 4)) (BA l) (a : Int)) (fun k => ?_) ?_
  · simp only [kind_scan_field.j1]
    rw [kind_left.eq l a ha, Option.bind_some]
    simp only [BA_list]
  · have hbad : Ev (fun k => kind_scan_field.j2 k (d : Int) true (BA l) (a : Int)) (kAns l a none) := by
      refine Ev.step (f := fun _ => some (kAns l a none)) (fun k => ?_) (Ev.now _)
      simp [kind_scan_field.j2, kAns]
    by_cases h : l.drop a = []
    · simp only [h, if_true, restV]; exact hbad
    · simp only [if_neg h]
      by_cases hd : d ≤ 4
      · rw [show decide ((d : Int) > 4) = false from decide_eq_false (by omega)]
        exact kind_j2.ev l hl a ha d h hd
      · rw [show decide ((d : Int) > 4) = true from decide_eq_true (by omega)]
        rw [show restV d (l.drop a) = none by cases l.drop a with | nil => rfl | cons c t => exact if_pos (by omega)]
        exact hbad
theorem kind_l0.ev (l : List UInt8) (hl : l.length ≤ 4294967280) : ∀ n a i d, nb (l.drop a) = n → i ≤ a → a ≤ l.length → d ≤ a →
    Ev (fun k => kind_scan_field.l0 k (d : Int) (l.length : Int) (i : Int) (BA l) (a : Int)) (kAns l (a + n) (restV (d + n) (l.drop (a + n)))) := by
  intro n
  induction n with
  | zero =>
    intro a i d hn hi ha hd
    by_cases h : (i : Int) < (l.length : Int)
    · refine Ev.step (f := fun k => kind_scan_field.j1 k (d : Int) (BA l) (a : Int)) (fun k => ?_) (kind_j1.ev l hl a ha d)
      simp only [kind_scan_field.l0]
      rw [if_pos h, kind_left.eq l a ha, Option.bind_some, hasPrefix1.eq, Option.bind_some, if_neg]
      intro hh
      cases e : l.drop a with
      | nil => rw [e] at hh; simp at hh
      | cons c t =>
        rw [e, nb_cons] at hn
        rw [e] at hh
        simp at hh
        rw [if_pos hh] at hn
        omega
    · refine Ev.step (f := fun k => kind_scan_field.j1 k (d : Int) (BA l) (a : Int)) (fun k => ?_) (kind_j1.ev l hl a ha d)
      simp only [kind_scan_field.l0]
      rw [if_neg h]
  | succ n ih =>
    intro a i d hn hi ha hd
    cases e : l.drop a with
    | nil => rw [e] at hn; cases hn
    | cons c t =>
      rw [e, nb_cons] at hn
      by_cases hc : c = 91
      · rw [if_pos hc] at hn
        have hlen : l.length - a = t.length + 1 := by have := congrArg List.length e; rw [List.length_drop] at this; simpa using this
        have et : l.drop (a + 1) = t := by rw [← List.drop_drop, e]; rfl
        have h := ih (a + 1) (i + 1) (d + 1) (by rw [et]; omega) (by omega) (by omega) (by omega)
        rw [show a + 1 + n = a + (n + 1) by omega, show d + 1 + n = d + (n + 1) by omega] at h
        refine Ev.step (f := fun k => kind_scan_field.l0 k ((d + 1 : Nat) : Int) (l.length : Int) ((i + 1 : Nat) : Int) (BA l) ((a + 1 : Nat) : Int)) (fun k => ?_) h
        simp only [kind_scan_field.l0]
        rw [if_pos (by omega), kind_left.eq l a ha, Option.bind_some, hasPrefix1.eq, Option.bind_some, e, if_pos (by simp [hc])]
        simp only []
        rw [w64s d (by omega), w64s i (by omega), w64s a (by omega)]
      · rw [if_neg hc] at hn
        cases hn
theorem kind_field.ev (l : List UInt8) (hl : l.length ≤ 4294967280) (a : Nat) (ha : a ≤ l.length) :
    Ev (fun k => kind_scan_field.f k (BA l) (a : Int)) (kAns l (a + nb (l.drop a)) (fieldV (l.drop a))) := by
  have h := kind_l0.ev l hl _ a 0 0 rfl (by omega) ha (by omega)
  unfold kind_scan_field.f fieldV
  rw [BA_size, List.drop_drop]
  simpa using h
theorem restV_len : ∀ (d : Nat) (l : List UInt8) (t : Ty) (u : List UInt8), restV d l = some (t, u) → u.length < l.length ∧ ∃ p, l = p ++ u := by
  intro d l t u h
  cases l with
  | nil => cases h
  | cons c l =>
    simp only [restV] at h
    split at h
    · cases h
    split at h
    · cases h; exact ⟨by simp, ⟨[c], rfl⟩⟩
    split at h
    · cases h; exact ⟨by simp, ⟨[c], rfl⟩⟩
    split at h
    · split at h
      · rename_i hm
        cases h
        have := until_len l hm.1
        refine ⟨by rw [List.length_cons]; omega, ⟨c :: l.take ((l.takeWhile (· != 59)).length + 1), ?_⟩⟩
        rw [← drop_until, List.drop_drop, List.cons_append, List.take_append_drop]
      · cases h
    · cases h
theorem fieldV_len (l : List UInt8) (t : Ty) (u : List UInt8) (h : fieldV l = some (t, u)) : u.length < l.length ∧ l.drop (l.length - u.length) = u := by
  obtain ⟨h1, p, hp⟩ := restV_len _ _ _ _ h
  rw [List.length_drop] at h1
  have hn := nb_le l
  refine ⟨by omega, ?_⟩
  obtain ⟨A, hA⟩ : ∃ A, l = A ++ u := ⟨l.take (nb l) ++ p, by rw [List.append_assoc, ← hp, List.take_append_drop]⟩
  rw [hA, List.length_append, Nat.add_sub_cancel]
  exact List.drop_left
/-- The answer of a whole text's Field. -/
def fAns (q : Ty × Int) : Int × ByteArray × Int × Int × Int × Int := (q.1.1, q.1.2.1, q.1.2.2.1, q.1.2.2.2.1, q.1.2.2.2.2, q.2)
theorem kind_Field.ev (l : List UInt8) (hl : l.length ≤ 4294967280) : Ev (fun k => kind_Field.f k (BA l)) (fAns (FieldV l)) := by
  unfold kind_Field.f
  have h := kind_field.ev l hl 0 (by omega)
  rw [List.drop_zero] at h
  refine Ev.bind h ?_
  unfold FieldV
  cases e : fieldV l with
  | none => simp only [kAns, Bool.false_eq_true, if_false]; exact Ev.now _
  | some q =>
    obtain ⟨t, u⟩ := q
    obtain ⟨h1, h2⟩ := fieldV_len l t u e
    simp only [kAns, if_true]
    rw [kind_left.eq l _ (by omega), Option.bind_some, h2]
    simp only [BA_list]
    cases u with
    | nil => simp only [if_true]; exact Ev.now _
    | cons c u => simp only [if_neg (List.cons_ne_nil c u)]; exact Ev.now _
end Go.Proofs.Ytcoghiefkogklaa.Px
