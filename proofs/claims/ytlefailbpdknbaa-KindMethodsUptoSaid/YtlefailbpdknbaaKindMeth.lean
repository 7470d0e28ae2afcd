/- Plain law of methods' descriptors: what a method's descriptor is ('methV'); the program's Method comes to it; what a descriptor made of right fields' descriptors is. -/
import Derived.Test.YtlefailbpdknbaaKindMath
import Derived.Test.YtlefailbpdknbaaPx5
namespace Go.Proofs.Ytlefailbpdknbaa.Px
open Go.RowKit Go.Proofs.YtlefailbpdknbaaW.PrintWords Go.Proofs.YtlefailbpdknbaaW.PrintLast Go.Proofs.YtlefailbpdknbaaW.PrintMore
set_option linter.unusedVariables false
set_option linter.unusedSimpArgs false

abbrev noTy : Ty := (0, BA [], 0, 0, 0)
abbrev tyS (t : Ty) : S24 := ⟨t.1, t.2.1, t.2.2.1, t.2.2.2.1, t.2.2.2.2⟩
abbrev Me : Type := List S24 × Ty × Int
def noMe : Me := ([], noTy, 80)
/-- Behind the fields. -/
def lastV (xs : List S24) (r : List UInt8) : Me :=
  if r = [] then noMe else if r = [41, 86] then (xs, (8, BA [], 0, 0, 0), 0) else if (FieldV (r.drop 1)).2 = 0 then (xs, (FieldV (r.drop 1)).1, 0) else ([], noTy, (FieldV (r.drop 1)).2)
def methL : Nat → List S24 → List UInt8 → Me
  | 0, _, _ => noMe
  | n + 1, xs, r => if r = [] ∨ r.head? = some 41 then lastV xs r else match fieldV r with
    | none => noMe
    | some (t, u) => if xs.length = 16 then noMe else methL n (xs ++ [tyS t]) u
def methV (l : List UInt8) : Me := if l.head? = some 40 then methL (l.length + 1) [] (l.drop 1) else noMe
def mAns (q : Me) : List S24 × Int × ByteArray × Int × Int × Int × Int := (q.1, q.2.1.1, q.2.1.2.1, q.2.1.2.2.1, q.2.1.2.2.2.1, q.2.1.2.2.2.2, q.2.2)

theorem kind_meth_last.ev (l : List UInt8) (hl : l.length ≤ 4294967280) (a : Nat) (ha : a ≤ l.length) (xs : List S24) :
    Ev (fun k => kind_Method.j1 k xs false (BA l) (a : Int)) (mAns (lastV xs (l.drop a))) := by
  refine Ev.step (f := fun k => if l.drop a = [] then some (mAns noMe) else if l.drop a = [41, 86] then some (mAns (xs, (8, BA [], 0, 0, 0), 0)) else (kind_Field.f k (BA ((l.drop a).drop 1))).bind fun q => if q.2.2.2.2.2 = 0 then some (xs, q.1, q.2.1, q.2.2.1, q.2.2.2.1, q.2.2.2.2.1, 0) else some ([], 0, BA [], 0, 0, 0, q.2.2.2.2.2)) (fun k => ?_) ?_
  · simp only [kind_Method.j1]
    rw [if_neg (by simp), kind_left.eq l a ha, Option.bind_some]
    simp only [BA_list]
    by_cases h1 : l.drop a = []
    · rw [if_pos h1, if_pos h1]; rfl
    · rw [if_neg h1, if_neg h1]
      by_cases h2 : l.drop a = [41, 86]
      · rw [if_pos h2, if_pos h2]; rfl
      · rw [if_neg h2, if_neg h2]
        rw [kind_left.eq l a ha, Option.bind_some]
        dsimp only
        rw [if_pos, BA_drop]
        rw [BA_size]
        cases e : l.drop a with
        | nil => exact absurd e h1
        | cons c t => rw [List.length_cons]; omega
  · unfold lastV
    by_cases h1 : l.drop a = []
    · simp only [if_pos h1]; exact Ev.now _
    · simp only [if_neg h1]
      by_cases h2 : l.drop a = [41, 86]
      · simp only [if_pos h2]; exact Ev.now _
      · simp only [if_neg h2]
        refine Ev.bind (kind_Field.ev _ (by rw [List.length_drop, List.length_drop]; omega)) ?_
        simp only [fAns]
        by_cases h3 : (FieldV ((l.drop a).drop 1)).2 = 0
        · rw [if_pos h3]
          refine Ev.congr (f := fun _ => some (xs, (FieldV ((l.drop a).drop 1)).1.1, (FieldV ((l.drop a).drop 1)).1.2.1, (FieldV ((l.drop a).drop 1)).1.2.2.1, (FieldV ((l.drop a).drop 1)).1.2.2.2.1, (FieldV ((l.drop a).drop 1)).1.2.2.2.2, 0)) (fun k => if_pos h3) (Ev.now _)
        · rw [if_neg h3]
          refine Ev.congr (f := fun _ => some ([], 0, BA [], 0, 0, 0, (FieldV ((l.drop a).drop 1)).2)) (fun k => if_neg h3) (Ev.now _)
theorem kind_meth_l0.ev (l : List UInt8) (hl : l.length ≤ 4294967280) : ∀ n a xs, l.length - a < n → a ≤ l.length → xs.length ≤ 16 →
    Ev (fun k => kind_Method.l0 k xs (BA l) (a : Int)) (mAns (methL n xs (l.drop a))) := by
  intro n
  induction n with
  | zero => intro a xs h; omega
  | succ n ih =>
    intro a xs h1 ha hx
    simp only [methL]
    cases e : l.drop a with
    | nil =>
      rw [if_pos (.inl rfl)]
      have h := kind_meth_last.ev l hl a ha xs
      rw [e] at h
      refine Ev.step (fun k => ?_) h
      simp only [kind_Method.l0]
      rw [kind_left.eq l a ha, Option.bind_some, e]
      simp only [BA_list]
      rfl
    | cons c t =>
      have hlen : l.length - a = t.length + 1 := by have := congrArg List.length e; rw [List.length_drop] at this; simpa using this
      have hstep : ∀ k, kind_Method.l0 (k + 1) xs (BA l) (a : Int) = kind_Method.j1 k xs (decide ((c.toNat : Int) ≠ 41)) (BA l) (a : Int) := by
        intro k
        simp only [kind_Method.l0]
        rw [kind_left.eq l a ha, Option.bind_some, e]
        simp only [BA_list]
        rw [if_neg (by simp), kind_left.eq l a ha, Option.bind_some, e]
        dsimp only
        rw [if_pos (by rw [BA_size, List.length_cons]; omega), bt_BA0]
        congr 1
        by_cases h : ((c.toNat : Int) = 41) <;> simp [h]
      by_cases hc : c = 41
      · rw [if_pos (.inr (by rw [hc]; rfl))]
        have h := kind_meth_last.ev l hl a ha xs
        rw [e] at h
        refine Ev.step (fun k => ?_) h
        rw [hstep, hc]
        rfl
      · have hc' : ¬ (c.toNat : Int) = 41 := fun h => hc ((u8_int c 41 (by decide)).1 h)
        rw [if_neg (by simp [hc])]
        refine Ev.step (f := fun k => kind_Method.j1 k xs true (BA l) (a : Int)) (fun k => ?_) ?_
        · rw [hstep, decide_eq_true hc']
        have hf := kind_field.ev l hl a ha
        refine Ev.step (f := fun k => (kind_scan_field.f k (BA l) (a : Int)).bind fun bt240 => (if bt240.2.2.2.2.2.1 = true then (if (xs.length : Int) = 16 then (some (([] : List (S24)), 0, (⟨#[]⟩ : ByteArray), 0, 0, 0, 80)) else (if xs.length < 2932031007402 then (kind_Method.l0 k (xs ++ [(⟨bt240.1, bt240.2.1, bt240.2.2.1, bt240.2.2.2.1, bt240.2.2.2.2.1⟩ : S24)]) bt240.2.2.2.2.2.2.1 bt240.2.2.2.2.2.2.2) else (none))) else (some (([] : List (S24)), 0, (⟨#[]⟩ : ByteArray), 0, 0, 0, 80)))) (fun k => ?_) ?_
        · simp only [kind_Method.j1, if_true]
        rw [e] at hf
        refine Ev.bind hf ?_
        cases ef : fieldV (c :: t) with
        | none => simp only [kAns, Bool.false_eq_true, if_false]; exact Ev.now _
        | some q =>
          obtain ⟨T, u⟩ := q
          obtain ⟨h2, h3⟩ := fieldV_len _ _ _ ef
          simp only [kAns, if_true]
          by_cases hx16 : xs.length = 16
          · simp only [hx16, if_pos (show ((16 : Nat) : Int) = 16 from rfl), if_true]; exact Ev.now _
          · simp only [if_neg hx16, if_neg (show ¬ (xs.length : Int) = 16 by omega), if_pos (show xs.length < 2932031007402 by omega)]
            rw [List.length_cons] at h2
            have h5 := ih (l.length - u.length) (xs ++ [tyS T]) (by omega) (by omega) (by rw [List.length_append, List.length_singleton]; omega)
            have h6 : l.drop (l.length - u.length) = u := by
              rw [← e, List.length_drop, List.drop_drop] at h3
              rw [show l.length - u.length = a + (l.length - a - u.length) by omega]
              exact h3
            rw [h6] at h5
            exact h5
theorem kind_Method.ev (l : List UInt8) (hl : l.length ≤ 4294967280) : Ev (fun k => kind_Method.f k (BA l)) (mAns (methV l)) := by
  unfold kind_Method.f
  rw [show ((⟨#[40]⟩ : ByteArray)) = BA [40] from rfl]
  simp only [hasPrefix1.eq, Option.bind_some]
  unfold methV
  cases l with
  | nil => simp only [List.head?_nil]; exact Ev.now _
  | cons c t =>
    by_cases hc : c = 40
    · simp only [List.head?_cons, hc, beq_self_eq_true, if_true]
      rw [← hc]
      exact kind_meth_l0.ev (c :: t) hl _ 1 [] (by omega) (by rw [List.length_cons]; omega) (by simp)
    · have h1 : ((some c : Option UInt8) == some 40) = false := by simpa using hc
      have h2 : ¬ (some c : Option UInt8) = some 40 := by simpa using hc
      rw [List.head?_cons, if_neg h2]
      simp only [h1, Bool.false_eq_true, if_false]
      exact Ev.now _

/-! ### what is made of right descriptors -/
theorem until_app : ∀ (t b : List UInt8), (59 : UInt8) ∈ t → (t ++ b).takeWhile (· != 59) = t.takeWhile (· != 59)
  | [], _, h => by cases h
  | c :: t, b, h => by
    rw [List.cons_append, List.takeWhile_cons, List.takeWhile_cons]
    by_cases hc : c = 59
    · subst hc; rfl
    · rw [until_app t b ((List.mem_cons.1 h).resolve_left (fun e => hc e.symm))]
theorem from_app : ∀ (t b : List UInt8), (59 : UInt8) ∈ t → (t ++ b).dropWhile (· != 59) = t.dropWhile (· != 59) ++ b
  | [], _, h => by cases h
  | c :: t, b, h => by
    rw [List.cons_append, List.dropWhile_cons, List.dropWhile_cons]
    by_cases hc : c = 59
    · subst hc; rfl
    · rw [from_app t b ((List.mem_cons.1 h).resolve_left (fun e => hc e.symm))]
      split <;> rfl
theorem restV_app (d : Nat) (l b : List UInt8) (T : Ty) (u : List UInt8) (h : restV d l = some (T, u)) : restV d (l ++ b) = some (T, u ++ b) := by
  cases l with
  | nil => cases h
  | cons c t =>
    simp only [restV, List.cons_append] at h ⊢
    split at h
    · cases h
    rename_i h1
    rw [if_neg h1]
    split at h
    · rename_i h2; rw [if_pos h2]; cases h; rfl
    rename_i h2
    rw [if_neg h2]
    split at h
    · rename_i h3; rw [if_pos h3]; cases h; rfl
    rename_i h3
    rw [if_neg h3]
    split at h
    · rename_i h4
      rw [if_pos h4]
      split at h
      · rename_i h5
        have e1 : (t ++ b).takeWhile (· != 59) = t.takeWhile (· != 59) := until_app t b h5.1
        have e2 : (t ++ b).dropWhile (· != 59) = t.dropWhile (· != 59) ++ b := from_app t b h5.1
        rw [e1, e2, if_pos ⟨List.mem_append_left _ h5.1, h5.2⟩]
        have h6 := until_ne t h5.1
        cases h
        cases hh : t.dropWhile (· != 59) with
        | nil => rw [hh] at h6; exact absurd rfl h6
        | cons x y => rfl
      · cases h
    · cases h
theorem nb_app (l b : List UInt8) (h : l.drop (nb l) ≠ []) : nb (l ++ b) = nb l := by
  induction l with
  | nil => exact absurd rfl h
  | cons c t ih =>
    rw [List.cons_append, nb_cons, nb_cons]
    rw [nb_cons] at h
    by_cases hc : c = 91
    · rw [if_pos hc] at h ⊢
      rw [if_pos hc, ih h]
    · rw [if_neg hc, if_neg hc]
theorem fieldV_app (l b : List UInt8) (T : Ty) (u : List UInt8) (h : fieldV l = some (T, u)) : fieldV (l ++ b) = some (T, u ++ b) := by
  unfold fieldV at h ⊢
  have hne : l.drop (nb l) ≠ [] := by intro e; rw [e] at h; cases h
  rw [nb_app l b hne, List.drop_append_of_le_length (nb_le l)]
  exact restV_app _ _ _ _ _ h
theorem FieldV_ok (l : List UInt8) (h : (FieldV l).2 = 0) : fieldV l = some ((FieldV l).1, []) := by
  unfold FieldV at h ⊢
  split at h
  · rename_i e; rw [e]
  · cases h
theorem fieldV_head (l : List UInt8) (T : Ty) (u : List UInt8) (h : fieldV l = some (T, u)) : l ≠ [] ∧ l.head? ≠ some 41 := by
  cases l with
  | nil => cases h
  | cons c t =>
    refine ⟨by simp, ?_⟩
    intro e
    have e : c = 41 := by simpa using e
    subst e
    cases h
/-- The texts, one behind the other; their types. -/
def catV (ls : List (List UInt8)) : List UInt8 := ls.flatten
def tysV (ls : List (List UInt8)) : List S24 := ls.map fun l => tyS (FieldV l).1
theorem methL_cat (r : List UInt8) (hr : r.head? = some 41) : ∀ (ls : List (List UInt8)) (n : Nat) (xs : List S24), (∀ l ∈ ls, (FieldV l).2 = 0) → xs.length ≤ 16 → (catV ls ++ r).length < n →
    methL n xs (catV ls ++ r) = if xs.length + ls.length ≤ 16 then lastV (xs ++ tysV ls) r else noMe
  | [], n, xs, _, hx, hn => by
    cases n with
    | zero => omega
    | succ n =>
      simp only [catV, tysV, List.flatten_nil, List.nil_append, List.map_nil, List.append_nil, List.length_nil, Nat.add_zero]
      simp only [methL]
      rw [if_pos (.inr hr), if_pos hx]
  | l :: ls, n, xs, h, hx, hn => by
    cases n with
    | zero => omega
    | succ n =>
      have hl := h l List.mem_cons_self
      have hf := FieldV_ok l hl
      have he : catV (l :: ls) ++ r = l ++ (catV ls ++ r) := by simp [catV]
      rw [he] at hn ⊢
      have hfa := fieldV_app l (catV ls ++ r) _ _ hf
      obtain ⟨h1, h2⟩ := fieldV_head _ _ _ hfa
      have hlen := (fieldV_len _ _ _ hf).1
      simp only [methL]
      rw [if_neg (by rintro (e | e); exact h1 e; exact h2 e), hfa]
      simp only [List.nil_append]
      by_cases hx16 : xs.length = 16
      · rw [if_pos hx16, if_neg (by rw [List.length_cons]; omega)]
      · rw [if_neg hx16, methL_cat r hr ls n (xs ++ [tyS (FieldV l).1]) (fun x hx => h x (List.mem_cons_of_mem _ hx)) (by rw [List.length_append, List.length_singleton]; omega) (by rw [List.length_append] at hn; omega)]
        simp only [List.length_append, List.length_singleton, List.length_cons, tysV, List.map_cons, List.append_assoc, List.singleton_append]
        have e3 : xs.length + (([] : List S24).length + 1) + ls.length = xs.length + (ls.length + 1) := by simp only [List.length_nil]; omega
        rw [e3]
theorem methV_cat (r : List UInt8) (hr : r.head? = some 41) (ls : List (List UInt8)) (h : ∀ l ∈ ls, (FieldV l).2 = 0) :
    methV (40 :: (catV ls ++ r)) = if ls.length ≤ 16 then lastV (tysV ls) r else noMe := by
  unfold methV
  rw [if_pos (show (40 :: (catV ls ++ r)).head? = some 40 from rfl), List.drop_succ_cons, List.drop_zero, methL_cat r hr ls _ [] h (by simp) (by rw [List.length_cons]; omega)]
  simp
end Go.Proofs.Ytlefailbpdknbaa.Px
