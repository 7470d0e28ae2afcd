/- The pure statement of KindMethods. -/
import Derived.Test.YtlefailbpdknbaaKindMeth
import Derived.Test.YtlefailbpdknbaaKindRefField
import Derived.Test.YtlefailbpdknbaaKindAwake
import Derived.Test.YtlefailbpdknbaaKindSame
import Derived.Test.YtlefailbpdknbaaPx8
import Derived.Test.YtlefailbpdknbaaPx9
namespace Go.Proofs.Ytlefailbpdknbaa.Px
open Go.RowKit Go.Proofs.YtlefailbpdknbaaW.PrintWords Go.Proofs.YtlefailbpdknbaaW.PrintLast Go.Proofs.YtlefailbpdknbaaW.PrintMore
set_option linter.unusedVariables false
set_option linter.unusedSimpArgs false

theorem FieldV_err (l : List UInt8) : (FieldV l).2 = 0 ∨ (FieldV l).2 = 80 := by
  unfold FieldV
  split
  · exact .inl rfl
  · exact .inr rfl
theorem ref_meth_last.ev (l : List UInt8) (hl : l.length ≤ 4294967280) (xs : List S24) :
    Ev (fun k => understudyref08_Method.j2 k (BA l) xs false) (mAns (lastV xs l)) := by
  refine Ev.step (f := fun k => if l = [41, 86] then some (mAns (xs, (8, BA [], 0, 0, 0), 0)) else if l = [] then some (mAns noMe) else (understudyref08_Field.f k (BA (l.drop 1))).bind fun q => if q.2.2.2.2.2 = 0 then some (xs, q.1, q.2.1, q.2.2.1, q.2.2.2.1, q.2.2.2.2.1, 0) else some ([], 0, BA [], 0, 0, 0, 80)) (fun k => ?_) ?_
  · simp only [understudyref08_Method.j2]
    rw [if_neg (by simp)]
    simp only [BA_list]
    by_cases h2 : l = [41, 86]
    · rw [if_pos h2, if_pos h2]; rfl
    · rw [if_neg h2, if_neg h2]
      by_cases h1 : l = []
      · rw [if_pos h1, if_pos h1]; rfl
      · rw [if_neg h1, if_neg h1, if_pos, BA_drop]
        rw [BA_size]
        cases l with
        | nil => exact absurd rfl h1
        | cons c t => rw [List.length_cons]; omega
  · unfold lastV
    by_cases h2 : l = [41, 86]
    · subst h2
      exact Ev.now _
    · by_cases h1 : l = []
      · subst h1
        exact Ev.now _
      · refine Ev.congr (fun k => (if_neg h2).trans (if_neg h1)) ?_
        rw [if_neg h1, if_neg h2]
        refine Ev.bind (ref_Field.ev _ (by rw [List.length_drop]; omega)) ?_
        simp only [fAns]
        by_cases h3 : (FieldV (l.drop 1)).2 = 0
        · rw [if_pos h3]
          exact Ev.congr (fun k => if_pos h3) (Ev.now _)
        · rw [if_neg h3]
          refine Ev.congr (f := fun _ => some ([], 0, BA [], 0, 0, 0, 80)) (fun k => if_neg h3) ?_
          have e := (FieldV_err (l.drop 1)).resolve_left h3
          rw [show mAns ([], noTy, (FieldV (l.drop 1)).2) = (([], 0, BA [], 0, 0, 0, 80) : List S24 × Int × ByteArray × Int × Int × Int × Int) by simp only [mAns, e]]
          exact Ev.now _
theorem ref_meth_l0.ev : ∀ n (l : List UInt8) xs, l.length ≤ 4294967280 → l.length < n → xs.length ≤ 16 →
    Ev (fun k => understudyref08_Method.l0 k (BA l) xs) (mAns (methL n xs l)) := by
  intro n
  induction n with
  | zero => intro l xs _ h; omega
  | succ n ih =>
    intro l xs hl h1 hx
    simp only [methL]
    cases l with
    | nil =>
      rw [if_pos (.inl rfl)]
      refine Ev.step (fun k => ?_) (ref_meth_last.ev [] hl xs)
      simp only [understudyref08_Method.l0]
      rw [BA_list, if_pos rfl]
    | cons c t =>
      have hstep : ∀ k, understudyref08_Method.l0 (k + 1) (BA (c :: t)) xs = understudyref08_Method.j2 k (BA (c :: t)) xs (decide ((c.toNat : Int) ≠ 41)) := by
        intro k
        simp only [understudyref08_Method.l0]
        simp only [BA_list]
        rw [if_neg (by simp), if_pos (by rw [BA_size, List.length_cons]; omega), bt_BA0]
        congr 1
        by_cases h : ((c.toNat : Int) = 41) <;> simp [h]
      by_cases hc : c = 41
      · rw [if_pos (.inr (by rw [hc]; rfl))]
        refine Ev.step (fun k => ?_) (ref_meth_last.ev (c :: t) hl xs)
        rw [hstep, hc]
        rfl
      · have hc' : ¬ (c.toNat : Int) = 41 := fun h => hc ((u8_int c 41 (by decide)).1 h)
        rw [if_neg (by simp [hc])]
        refine Ev.step (f := fun k => understudyref08_Method.j2 k (BA (c :: t)) xs true) (fun k => ?_) ?_
        · rw [hstep, decide_eq_true hc']
        refine Ev.step (f := fun k => (understudyref08_field.f k (BA (c :: t))).bind fun bt182 => (if bt182.2.2.2.2.2.2 = true then (if (xs.length : Int) ≥ 16 then (some (([] : List (S24)), 0, (⟨#[]⟩ : ByteArray), 0, 0, 0, 80)) else (if xs.length < 2932031007402 then (understudyref08_Method.l0 k bt182.2.2.2.2.2.1 (xs ++ [(⟨bt182.1, bt182.2.1, bt182.2.2.1, bt182.2.2.2.1, bt182.2.2.2.2.1⟩ : S24)])) else (none))) else (some (([] : List (S24)), 0, (⟨#[]⟩ : ByteArray), 0, 0, 0, 80)))) (fun k => ?_) ?_
        · simp only [understudyref08_Method.j2, if_true]
        refine Ev.bind (ref_field.ev _ hl) ?_
        cases ef : fieldV (c :: t) with
        | none => simp only [rAns, Bool.false_eq_true, if_false]; exact Ev.now _
        | some q =>
          obtain ⟨T, u⟩ := q
          obtain ⟨h2, h3⟩ := fieldV_len _ _ _ ef
          simp only [rAns, if_true]
          by_cases hx16 : xs.length = 16
          · simp only [hx16, if_pos (show ((16 : Nat) : Int) ≥ 16 by omega), if_true]; exact Ev.now _
          · simp only [if_neg hx16, if_neg (show ¬ (xs.length : Int) ≥ 16 by omega), if_pos (show xs.length < 2932031007402 by omega)]
            exact ih u (xs ++ [tyS T]) (by omega) (by omega) (by rw [List.length_append, List.length_singleton]; omega)
theorem ref_Method.ev (l : List UInt8) (hl : l.length ≤ 4294967280) : Ev (fun k => understudyref08_Method.f k (BA l)) (mAns (methV l)) := by
  unfold understudyref08_Method.f
  have hbad : Ev (fun k => understudyref08_Method.j0 k (BA l) true) (mAns noMe) := by
    refine Ev.step (f := fun _ => some (mAns noMe)) (fun k => ?_) (Ev.now _)
    simp only [understudyref08_Method.j0, if_true]
    rfl
  unfold methV
  cases l with
  | nil => exact Ev.congr (fun k => if_pos (BA_list [])) hbad
  | cons c t =>
    refine Ev.congr (f := fun k => understudyref08_Method.j0 k (BA (c :: t)) (decide ((c.toNat : Int) ≠ 40))) (fun k => ?_) ?_
    · rw [if_neg (by rw [BA_list]; simp), if_pos (by rw [BA_size, List.length_cons]; omega), bt_BA0]
      congr 1
      by_cases h : ((c.toNat : Int) = 40) <;> simp [h]
    · by_cases hc : c = 40
      · subst hc
        rw [if_pos (show ((40 : UInt8) :: t).head? = some 40 from rfl)]
        rw [List.length_cons] at hl
        have h := ref_meth_l0.ev ((40 :: t).length + 1) t [] (by omega) (by rw [List.length_cons]; omega) (by simp)
        refine Ev.step (f := fun k => understudyref08_Method.l0 k (BA t) []) (fun k => ?_) h
        simp only [understudyref08_Method.j0]
        rw [if_neg (by decide), if_pos (by rw [BA_size, List.length_cons]; omega), BA_drop]
        rfl
      · have hc' : (c.toNat : Int) ≠ 40 := fun h => hc ((u8_int c 40 (by decide)).1 h)
        rw [if_neg (by simpa using hc), decide_eq_true hc']
        exact hbad
theorem methL_len (n : Nat) : ∀ xs l, xs.length ≤ 16 → (methL n xs l).1.length ≤ 16 := by
  induction n with
  | zero => intro xs l h; exact Nat.zero_le _
  | succ n ih =>
    intro xs l h
    simp only [methL]
    split
    · unfold lastV
      split
      · exact Nat.zero_le _
      split
      · exact h
      split
      · exact h
      · exact Nat.zero_le _
    · split
      · exact Nat.zero_le _
      · split
        · exact Nat.zero_le _
        · exact ih _ _ (by rw [List.length_append, List.length_singleton]; omega)
theorem methV_len (l : List UInt8) : (methV l).1.length ≤ 16 := by
  unfold methV
  split
  · exact methL_len _ _ _ (by simp)
  · exact Nat.zero_le _
theorem KindMethods_pure (a0 : ByteArray) (h : a0.size ≤ 4294967280) : ∃ k, understudylaw08_KindMethods.f k a0 = some true := by
  obtain ⟨l, rfl⟩ : ∃ l, a0 = BA l := ⟨_, (BA_eta a0).symm⟩
  rw [BA_size] at h
  refine Ev.rounds ?_
  unfold understudylaw08_KindMethods.f
  refine Ev.bind (kind_Method.ev l h) (Ev.bind (ref_Method.ev l h) (Ev.bind (same.ev _ (by have := methV_len l; simp only [mAns]; omega)) ?_))
  simp only [beq_self_eq_true, Bool.and_self, if_true]
  exact Ev.bind kind_awake.ev (Ev.now _)
end Go.Proofs.Ytlefailbpdknbaa.Px
