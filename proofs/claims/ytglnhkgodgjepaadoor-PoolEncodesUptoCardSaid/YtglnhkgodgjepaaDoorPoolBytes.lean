/- Plain law of pool.Encode: the bytes of a pool that may be. -/
import Derived.Test.YtglnhkgodgjepaaDoorPoolCheckV
import Derived.Test.YtglnhkgodgjepaaDoorEPoolEncode
namespace Go.Proofs.YtglnhkgodgjepaaDoor.Px
open Go.RowKit Go.Proofs.YtglnhkgodgjepaaDoorW.PrintWords Go.Proofs.YtglnhkgodgjepaaDoorW.PrintLast Go.Proofs.YtglnhkgodgjepaaDoorW.PrintMore
set_option linter.unusedVariables false
set_option linter.unusedSimpArgs false

/-- A constant's bytes behind its tag; a constant's; a pool's. -/
def bodyL (c : Cst) : List Int :=
  if c.f0 = 1 then beN 2 ((encV c.f1).1.length : Int) ++ (encV c.f1).1 else if c.f0 = 3 then beN 4 c.f2 else if c.f0 = 5 then beN 8 c.f2 else if c.f0 = 7 then beN 2 c.f3 else beN 2 c.f3 ++ beN 2 c.f4
def constL (c : Cst) : List Int := beN 1 c.f0 ++ bodyL c
def poolL (p : List Cst) : List Int := beN 2 (p.length : Int) ++ (p.drop 1).flatMap constL

theorem chkV_all {p : List Cst} : ∀ n i, chkV n p i = 0 → p.length ≤ i + n → ∀ j, i ≤ j → j < p.length → oneV p (rd_T33 p (j : Int)) = 0
  | 0, i, _, hl, j, h1, h2 => by omega
  | n + 1, i, h, hl, j, h1, h2 => by
    have hi : i < p.length := by omega
    unfold chkV at h
    rw [if_pos hi] at h
    by_cases h0 : oneV p (rd_T33 p (i : Int)) = 0
    · rw [if_pos h0] at h
      by_cases e : j = i
      · subst e; exact h0
      · exact chkV_all n (i + 1) h (by omega) j (by omega) h2
    · rw [if_neg h0] at h
      exact absurd h h0
/-- What a pool that may be is like. -/
theorem checkV_ok {p : List Cst} (h : checkV p = 0) : 0 < p.length ∧ p.length ≤ 1024 ∧ zeroV (rd_T33 p 0) = true ∧ ∀ j : Nat, 1 ≤ j → j < p.length → oneV p (rd_T33 p (j : Int)) = 0 := by
  unfold checkV at h
  by_cases c1 : p.length > 1024
  · rw [if_pos c1] at h; omega
  rw [if_neg c1] at h
  by_cases c2 : p.length = 0
  · rw [if_pos c2] at h; omega
  rw [if_neg c2] at h
  by_cases c3 : zeroV (rd_T33 p 0) = true
  · rw [if_pos c3] at h
    exact ⟨by omega, by omega, c3, chkV_all p.length 1 h (by omega)⟩
  · rw [if_neg c3] at h; omega
/-- What a constant that may be is like. -/
structure OkC (c : Cst) : Prop where
  tag : c.f0 = 1 ∨ c.f0 = 3 ∨ c.f0 = 5 ∨ c.f0 = 7 ∨ c.f0 = 9 ∨ c.f0 = 10 ∨ c.f0 = 12
  bare : bareV c = true
  txt : c.f0 = 1 → (encV c.f1).2 = 0 ∧ (encV c.f1).1.length ≤ 256
  num : c.f0 = 3 → -2147483648 ≤ c.f2 ∧ c.f2 ≤ 2147483647
  a : c.f0 ≠ 1 → c.f0 ≠ 3 → c.f0 ≠ 5 → 0 < c.f3 ∧ c.f3 < 1024
  b : c.f0 ≠ 1 → c.f0 ≠ 3 → c.f0 ≠ 5 → c.f0 ≠ 7 → 0 < c.f4 ∧ c.f4 < 1024
theorem oneV_ok {p : List Cst} {c : Cst} (hl : p.length ≤ 1024) (h : oneV p c = 0) : OkC c := by
  unfold oneV at h
  by_cases hb : bareV c = true ∧ leadsV p c = true
  · rw [if_pos hb] at h
    have ht : ¬ (c.f0 = 1 ∧ ¬ ((encV c.f1).2 = 0 ∧ (encV c.f1).1.length ≤ 256)) := by
      intro hc
      rw [if_pos hc] at h
      omega
    have hL := hb.2
    unfold leadsV at hL
    have is2 : ∀ {i t}, isV p i t = true → 0 < i ∧ i < 1024 := fun h => by have := isV_pos h; omega
    refine ⟨?_, hb.1, fun h1 => ?_, fun h3 => ?_, fun h1 h3 h5 => ?_, fun h1 h3 h5 h7 => ?_⟩
    · by_cases h1 : c.f0 = 1 ∨ c.f0 = 5
      · omega
      · rw [if_neg h1] at hL
        by_cases h3 : c.f0 = 3
        · omega
        rw [if_neg h3] at hL
        by_cases h7 : c.f0 = 7
        · omega
        rw [if_neg h7] at hL
        by_cases h12 : c.f0 = 12
        · omega
        rw [if_neg h12] at hL
        by_cases h9 : c.f0 = 9 ∨ c.f0 = 10
        · omega
        rw [if_neg h9] at hL
        cases hL
    · exact Classical.byContradiction fun hn => ht ⟨h1, hn⟩
    · rw [if_neg (by omega), if_pos h3] at hL
      exact of_decide_eq_true hL
    · rw [if_neg (by omega), if_neg h3] at hL
      by_cases h7 : c.f0 = 7
      · rw [if_pos h7] at hL
        exact is2 hL
      rw [if_neg h7] at hL
      by_cases h12 : c.f0 = 12
      · rw [if_pos h12, Bool.and_eq_true] at hL
        exact is2 hL.1
      rw [if_neg h12] at hL
      by_cases h9 : c.f0 = 9 ∨ c.f0 = 10
      · rw [if_pos h9, Bool.and_eq_true] at hL
        exact is2 hL.1
      rw [if_neg h9] at hL
      cases hL
    · rw [if_neg (by omega), if_neg h3, if_neg h7] at hL
      by_cases h12 : c.f0 = 12
      · rw [if_pos h12, Bool.and_eq_true] at hL
        exact is2 hL.2
      rw [if_neg h12] at hL
      by_cases h9 : c.f0 = 9 ∨ c.f0 = 10
      · rw [if_pos h9, Bool.and_eq_true] at hL
        exact is2 hL.2
      rw [if_neg h9] at hL
      cases hL
  · rw [if_neg hb] at h
    omega
theorem bodyL_len {c : Cst} (h : OkC c) : (bodyL c).length ≤ 258 := by
  unfold bodyL
  by_cases h1 : c.f0 = 1
  · rw [if_pos h1, List.length_append, beN_length]
    have := (h.txt h1).2
    omega
  rw [if_neg h1]
  repeat' split
  all_goals simp only [List.length_append, beN_length]
  all_goals omega
theorem constL_len {c : Cst} (h : OkC c) : (constL c).length ≤ 259 := by
  unfold constL
  have := bodyL_len h
  rw [List.length_append, beN_length]
  omega
theorem i32_top {x : Int} (h0 : -2147483648 ≤ x) (h1 : x ≤ 2147483647) : x / 2 ^ (8 * 4 - 1) = 0 ∨ x / 2 ^ (8 * 4 - 1) = -1 := by omega
theorem wU_ok {n : Nat} {x : Int} {bs : List Int} (h : bs.length + n ≤ 1048576 ∧ 0 ≤ x ∧ x < 2 ^ (8 * n)) : wU n x bs = some (bs ++ beN n x) := by unfold wU; rw [if_pos h]
theorem pool_Encode.ev_one {c : Cst} (hf : FitC c) (h : OkC c) (bs : List Int) (hl : bs.length + 259 ≤ 1048576) : Ev (fun k => pool_Encode.one k c bs) (bs ++ constL c) := by
  have htag : 0 ≤ c.f0 ∧ c.f0 < 2 ^ (8 * 1) := by have := h.tag; omega
  have e1 : wU 1 c.f0 bs = some (bs ++ beN 1 c.f0) := wU_ok ⟨by omega, htag⟩
  have hl1 : (bs ++ beN 1 c.f0).length = bs.length + 1 := by rw [List.length_append, beN_length]
  unfold pool_Encode.one constL bodyL
  rw [e1]
  simp only [Option.bind_some]
  by_cases h1 : c.f0 = 1
  · have ht := h.txt h1
    simp only [if_pos h1]
    refine Ev.bind (text_Encode.ev c.f1 hf.1) ?_
    rw [wU_ok (by rw [hl1]; omega)]
    simp only [Option.bind_some]
    unfold wB
    rw [if_pos (by rw [List.length_append, hl1, beN_length]; omega)]
    simp only [List.append_assoc]
    exact Ev.now _
  simp only [if_neg h1]
  by_cases h3 : c.f0 = 3
  · simp only [if_pos h3]
    unfold wI
    rw [if_pos ⟨by rw [hl1]; omega, fun _ => i32_top (h.num h3).1 (h.num h3).2⟩]
    simp only [List.append_assoc]
    exact Ev.now _
  simp only [if_neg h3]
  by_cases h5 : c.f0 = 5
  · simp only [if_pos h5]
    unfold wI
    rw [if_pos ⟨by rw [hl1]; omega, fun h => by omega⟩]
    simp only [List.append_assoc]
    exact Ev.now _
  simp only [if_neg h5]
  have ha := h.a h1 h3 h5
  rw [wU_ok (by rw [hl1]; omega)]
  simp only [Option.bind_some]
  by_cases h7 : c.f0 = 7
  · simp only [if_pos h7, List.append_assoc]
    exact Ev.now _
  simp only [if_neg h7]
  have hb := h.b h1 h3 h5 h7
  rw [wU_ok (by rw [List.length_append, hl1, beN_length]; omega)]
  simp only [List.append_assoc]
  exact Ev.now _
theorem drop_rd {p : List Cst} {i : Nat} (h : i < p.length) : p.drop i = rd_T33 p (i : Int) :: p.drop (i + 1) := by
  rw [List.drop_eq_getElem_cons h]
  congr 1
  unfold rd_T33
  rw [Int.toNat_natCast, List.getD_eq_getElem?_getD, List.getElem?_eq_getElem h]
  rfl
theorem pool_Encode.ev_l {p : List Cst} (hp : ∀ c ∈ p, FitC c) (hl : p.length ≤ 1024) (h1 : ∀ j : Nat, 1 ≤ j → j < p.length → oneV p (rd_T33 p (j : Int)) = 0) :
    ∀ n i (bs : List Int), p.length ≤ i + 1 + n → bs.length ≤ 2 + 259 * i → i ≤ 1024 → Ev (fun k => pool_Encode.l0 k p i bs) (bs ++ (p.drop (i + 1)).flatMap constL) := by
  have stop : ∀ i (bs : List Int), ¬ i + 1 < p.length → bs.length ≤ 1048576 → Ev (fun k => pool_Encode.l0 k p i bs) (bs ++ (p.drop (i + 1)).flatMap constL) := by
    intro i bs hi hb
    refine Ev.step (f := fun _ => some bs) (fun k => by simp only [pool_Encode.l0]; rw [if_neg hi, if_pos hb]) ?_
    rw [List.drop_eq_nil_of_le (by omega), List.flatMap_nil, List.append_nil]
    exact Ev.now _
  intro n
  induction n with
  | zero => intro i bs h hb hi; exact stop i bs (by omega) (by omega)
  | succ n ih =>
    intro i bs h hb hi
    by_cases hlt : i + 1 < p.length
    · have ok := oneV_ok hl (h1 (i + 1) (by omega) hlt)
      have hc := constL_len ok
      have hfit : FitC (rd_T33 p ((i + 1 : Nat) : Int)) := fit_rd hp _
      refine Ev.step (f := fun k => (pool_Encode.one k (rd_T33 p ((i + 1 : Nat) : Int)) bs).bind fun b => pool_Encode.l0 k p (i + 1) b) (fun k => by simp only [pool_Encode.l0]; rw [if_pos hlt]; rfl) ?_
      rw [drop_rd hlt, List.flatMap_cons, ← List.append_assoc]
      exact Ev.bind (pool_Encode.ev_one hfit ok bs (by omega)) (ih (i + 1) _ (by omega) (by rw [List.length_append]; omega) (by omega))
    · exact stop i bs hlt (by omega)
/-- WHAT THE PROGRAM's ENCODE COMES TO. -/
def encPV (p : List Cst) : List Int × Int := if checkV p = 0 then (poolL p, 0) else ([], checkV p)
theorem pool_Encode.ev (p : List Cst) (hp : ∀ c ∈ p, FitC c) : Ev (fun k => pool_Encode.f k p) (encPV p) := by
  unfold pool_Encode.f encPV
  refine Ev.bind (pool_Check.ev p hp) ?_
  by_cases h : checkV p = 0
  · obtain ⟨h0, hl, hz, h1⟩ := checkV_ok h
    simp only [if_pos h]
    refine Ev.congr (fun k => if_pos ⟨h0, hl⟩) ?_
    rw [wU_ok (by simp only [List.length_nil]; omega)]
    simp only [Option.bind_some, List.nil_append]
    refine Ev.bind (pool_Encode.ev_l hp hl h1 p.length 0 (beN 2 (p.length : Int)) (by omega) (by rw [beN_length]; omega) (by omega)) ?_
    exact Ev.now _
  · simp only [if_neg h]
    exact Ev.now _
theorem flat_len {l : List Cst} : (∀ c ∈ l, OkC c) → (l.flatMap constL).length ≤ 259 * l.length := by
  induction l with
  | nil => intro _; simp
  | cons c l ih =>
    intro h
    have h1 := constL_len (h c List.mem_cons_self)
    have h2 := ih (fun d hd => h d (List.mem_cons_of_mem _ hd))
    rw [List.flatMap_cons, List.length_append, List.length_cons]
    omega
theorem ok_drop {p : List Cst} (h : checkV p = 0) : ∀ c ∈ p.drop 1, OkC c := by
  obtain ⟨h0, hl, hz, h1⟩ := checkV_ok h
  intro c hc
  obtain ⟨j, hj⟩ := List.getElem?_of_mem hc
  rw [List.getElem?_drop] at hj
  have hlt : 1 + j < p.length := (List.getElem?_eq_some_iff.1 hj).1
  have := oneV_ok hl (h1 (1 + j) (by omega) hlt)
  unfold rd_T33 at this
  rw [Int.toNat_natCast, List.getD_eq_getElem?_getD, hj] at this
  exact this
theorem poolL_len {p : List Cst} (h : checkV p = 0) : (poolL p).length ≤ 265000 := by
  obtain ⟨h0, hl, hz, h1⟩ := checkV_ok h
  have := flat_len (ok_drop h)
  unfold poolL
  rw [List.length_append, beN_length]
  rw [List.length_drop] at this
  omega
end Go.Proofs.YtglnhkgodgjepaaDoor.Px
