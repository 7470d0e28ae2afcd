/- Plain law of pool.Check: what the program's check comes to. -/
import Derived.Test.YtglnhkgodgjepaaDoorEPoolCheck
import Derived.Test.YtglnhkgodgjepaaDoorTextEnc
import Derived.Test.YtglnhkgodgjepaaDoorPoolIs
import Derived.Test.YtglnhkgodgjepaaDoorPx3
import Derived.Test.YtglnhkgodgjepaaDoorPx4
namespace Go.Proofs.YtglnhkgodgjepaaDoor.Px
open Go.RowKit Go.Proofs.YtglnhkgodgjepaaDoorW.PrintWords Go.Proofs.YtglnhkgodgjepaaDoorW.PrintLast Go.Proofs.YtglnhkgodgjepaaDoorW.PrintMore
set_option linter.unusedVariables false
set_option linter.unusedSimpArgs false

def fieldsV (c : Cst) : Int × ByteArray × Int × Int × Int :=
  if c.f0 = 1 then (c.f0, c.f1, 0, 0, 0) else if c.f0 = 3 ∨ c.f0 = 5 then (c.f0, ⟨#[]⟩, c.f2, 0, 0) else if c.f0 = 9 ∨ c.f0 = 10 ∨ c.f0 = 12 then (c.f0, ⟨#[]⟩, 0, c.f3, c.f4) else if c.f0 = 7 then (c.f0, ⟨#[]⟩, 0, c.f3, 0) else (c.f0, ⟨#[]⟩, 0, 0, 0)
/-- Does a constant lead where it must? -/
def leadsV (p : List Cst) (c : Cst) : Bool :=
  if c.f0 = 1 ∨ c.f0 = 5 then true else if c.f0 = 3 then decide (-2147483648 ≤ c.f2 ∧ c.f2 ≤ 2147483647) else if c.f0 = 7 then isV p c.f3 1 else if c.f0 = 12 then isV p c.f3 1 && isV p c.f4 1 else if c.f0 = 9 ∨ c.f0 = 10 then isV p c.f3 7 && isV p c.f4 12 else false
/-- Are the fields that its tag has not zero? -/
def bareV (c : Cst) : Bool :=
  if c.f0 = 1 then decide (c.f2 = 0 ∧ c.f3 = 0 ∧ c.f4 = 0) else if c.f0 = 3 ∨ c.f0 = 5 then decide (c.f1.toList = [] ∧ c.f3 = 0 ∧ c.f4 = 0) else if c.f0 = 7 then decide (c.f1.toList = [] ∧ c.f2 = 0 ∧ c.f4 = 0) else decide (c.f1.toList = [] ∧ c.f2 = 0)
/-- What is wrong with a constant. -/
def oneV (p : List Cst) (c : Cst) : Int :=
  if bareV c = true ∧ leadsV p c = true then (if c.f0 = 1 ∧ ¬ ((encV c.f1).2 = 0 ∧ (encV c.f1).1.length ≤ 256) then 20 else 0) else 40
def chkV : Nat → List Cst → Nat → Int
  | 0, _, _ => 0
  | n + 1, p, i => if i < p.length then (if oneV p (rd_T33 p (i : Int)) = 0 then chkV n p (i + 1) else oneV p (rd_T33 p (i : Int))) else 0
def zeroV (c : Cst) : Bool := decide (c.f0 = 0 ∧ c.f1.toList = [] ∧ c.f2 = 0 ∧ c.f3 = 0 ∧ c.f4 = 0)
/-- WHAT CHECK COMES TO. -/
def checkV (p : List Cst) : Int := if p.length > 1024 then 2 else if p.length = 0 then 40 else if zeroV (rd_T33 p 0) = true then chkV p.length p 1 else 40

theorem noBytes : (⟨#[]⟩ : ByteArray).toList = [] := by rw [Lib.toList_data]
theorem pool_fields.at2 (c : Cst) : pool_fields.f 2 c.f0 c.f1 c.f2 c.f3 c.f4 = some (fieldsV c) := by
  unfold fieldsV pool_fields.f
  simp only [pool_fields.j0, pool_fields.j1, beq_iff_eq]
  repeat' split
  all_goals first | rfl | (exfalso; omega)
theorem pool_fields.ev (c : Cst) : Ev (fun k => pool_fields.f k c.f0 c.f1 c.f2 c.f3 c.f4) (fieldsV c) := Ev.of (fun k => pool_fields.mono _ _ _ _ _ k) (pool_fields.at2 c)
theorem wraps (x : Int) (h : (Lit.int .i64 x).wf = true) : (wrap64 (wrap32 x) == x) = decide (-2147483648 ≤ x ∧ x ≤ 2147483647) := by
  simp [Lit.wf, IntKind.min, IntKind.max, IntKind.bits, IntKind.signed] at h
  rw [Bool.eq_iff_iff, beq_iff_eq, decide_eq_true_eq]
  unfold wrap64 wrap32
  omega
theorem pool_leads.at2 (p : List Cst) (c : Cst) (hw : (Lit.int .i64 c.f2).wf = true) : pool_leads.f 2 p c.f0 c.f1 c.f2 c.f3 c.f4 = some (leadsV p c) := by
  unfold leadsV pool_leads.f
  simp only [pool_leads.j0, pool_leads.j1, beq_iff_eq, pool_is.eq, Option.bind_some, wraps _ hw]
  by_cases h1 : c.f0 = 1
  · rw [if_pos h1, if_pos h1, if_pos (by omega)]
  rw [if_neg h1]
  by_cases h5 : c.f0 = 5
  · rw [if_pos h5, if_pos (by omega)]
  rw [if_neg h5, if_neg (show ¬ (c.f0 = 1 ∨ c.f0 = 5) by omega)]
  by_cases h3 : c.f0 = 3
  · rw [if_pos h3, if_pos h3]
  rw [if_neg h3, if_neg h3]
  by_cases h7 : c.f0 = 7
  · rw [if_pos h7, if_pos h7]
  rw [if_neg h7, if_neg h7]
  by_cases h12 : c.f0 = 12
  · rw [if_pos h12, if_pos h12]
    cases isV p c.f3 1 <;> simp
  rw [if_neg h12, if_neg h12]
  by_cases h9 : c.f0 = 9
  · rw [if_pos h9, if_pos h9, if_pos (show c.f0 = 9 ∨ c.f0 = 10 by omega)]
    cases isV p c.f3 7 <;> simp
  rw [if_neg h9]
  by_cases h10 : c.f0 = 10
  · rw [if_pos h10, if_pos (show c.f0 = 9 ∨ c.f0 = 10 by omega)]
    cases isV p c.f3 7 <;> simp
  rw [if_neg h10, if_neg (by omega)]
theorem pool_leads.ev (p : List Cst) (c : Cst) (hw : (Lit.int .i64 c.f2).wf = true) : Ev (fun k => pool_leads.f k p c.f0 c.f1 c.f2 c.f3 c.f4) (leadsV p c) := Ev.of (fun k => pool_leads.mono _ _ _ _ _ _ k) (pool_leads.at2 p c hw)
theorem sameC_iff (c : Cst) (x : Int × ByteArray × Int × Int × Int) : sameC c x = true ↔ c.f0 = x.1 ∧ c.f1.toList = x.2.1.toList ∧ c.f2 = x.2.2.1 ∧ c.f3 = x.2.2.2.1 ∧ c.f4 = x.2.2.2.2 := by
  unfold sameC
  simp only [Bool.and_eq_true, beq_iff_eq]
/-- Of a constant that leads: its fields are the same just if it is bare. -/
theorem same_bare (p : List Cst) (c : Cst) (h : leadsV p c = true) : sameC c (fieldsV c) = true ↔ bareV c = true := by
  rw [sameC_iff]
  unfold fieldsV bareV
  unfold leadsV at h
  by_cases h1 : c.f0 = 1
  · simp [h1]
  · by_cases h35 : c.f0 = 3 ∨ c.f0 = 5
    · rw [if_neg h1, if_neg h1, if_pos h35, if_pos h35]
      simp [noBytes]
    · by_cases h9 : c.f0 = 9 ∨ c.f0 = 10 ∨ c.f0 = 12
      · rw [if_neg h1, if_neg h1, if_neg h35, if_neg h35, if_pos h9, if_neg (by omega)]
        simp [noBytes]
      · by_cases h7 : c.f0 = 7
        · rw [if_neg h1, if_neg h1, if_neg h35, if_neg h35, if_neg h9, if_pos h7, if_pos h7]
          simp [noBytes]
        · rw [if_neg (by omega), if_neg (by omega), if_neg (by omega), if_neg (by omega), if_neg (by omega)] at h
          cases h
theorem bare_text (c : Cst) (h : bareV c = true) (h1 : c.f0 ≠ 1) : encV c.f1 = ([], 0) := by
  have ht : c.f1.toList = [] := by
    unfold bareV at h
    rw [if_neg h1] at h
    split at h
    · exact (of_decide_eq_true h).1
    · split at h
      · exact (of_decide_eq_true h).1
      · exact (of_decide_eq_true h).1
  rw [Lib.toList_data] at ht
  unfold encV
  rw [ht]
  rfl
def codeOf (r : Option (Int × Int)) : Int := match r with | none => 0 | some (_, y) => y
/-- Texts that are no longer than this, and numbers that are ints. -/
def FitC (c : Cst) : Prop := c.f1.size ≤ 1099511627776 ∧ (Lit.int .i64 c.f2).wf = true
theorem fit_zero : FitC z33 := ⟨by decide, by decide⟩
theorem fit_rd {p : List Cst} (h : ∀ c ∈ p, FitC c) (i : Int) : FitC (rd_T33 p i) := by
  unfold rd_T33
  rw [List.getD_eq_getElem?_getD]
  cases e : p[i.toNat]? with
  | none => exact fit_zero
  | some x => exact h x (List.mem_of_getElem? e)
theorem pool_check.ev_l (p : List Cst) (hp : ∀ c ∈ p, FitC c) : ∀ n i, p.length ≤ i + 1 + n → ∃ r, Ev (fun k => pool_check.l0 k p i) r ∧ codeOf r = chkV n p (i + 1) := by
  have stop : ∀ i, ¬ i + 1 < p.length → Ev (fun k => pool_check.l0 k p i) none := fun i hi => Ev.step (f := fun _ => some none) (fun k => by simp only [pool_check.l0]; rw [if_neg hi]) (Ev.now _)
  intro n
  induction n with
  | zero => intro i h; exact ⟨none, stop i (by omega), rfl⟩
  | succ n ih =>
    intro i h
    by_cases hi : i + 1 < p.length
    · obtain ⟨c, hc⟩ : ∃ c, c = rd_T33 p ((i : Int) + 1) := ⟨_, rfl⟩
      have hfit : FitC c := hc ▸ fit_rd hp _
      have hV : chkV (n + 1) p (i + 1) = if oneV p c = 0 then chkV n p (i + 2) else oneV p c := by
        rw [hc]
        show (if i + 1 < p.length then _ else _) = _
        rw [if_pos hi]
        rfl
      rw [hV]
      have step : ∀ r, Ev (fun k => (pool_fields.f k c.f0 c.f1 c.f2 c.f3 c.f4).bind fun x => if sameC c x = true then (pool_leads.f k p c.f0 c.f1 c.f2 c.f3 c.f4).bind fun t => if t = true then (text_Encode.f k c.f1).bind fun b => if b.2 = 0 then (if (b.1.length : Int) > 256 then some (some ((i : Int) + 1, 20)) else pool_check.l0 k p (i + 1)) else some (some ((i : Int) + 1, 20)) else some (some ((i : Int) + 1, 40)) else some (some ((i : Int) + 1, 40))) r → Ev (fun k => pool_check.l0 k p i) r := fun r hr => Ev.step (fun k => by simp only [pool_check.l0]; rw [if_pos hi, ← hc]) hr
      by_cases hs : sameC c (fieldsV c) = true
      · by_cases hl : leadsV p c = true
        · have hb := (same_bare p c hl).1 hs
          by_cases he : (encV c.f1).2 = 0 ∧ (encV c.f1).1.length ≤ 256
          · obtain ⟨r, hr, hrc⟩ := ih (i + 1) (by omega)
            have h1 : oneV p c = 0 := by unfold oneV; rw [if_pos ⟨hb, hl⟩, if_neg (fun h => h.2 he)]
            rw [if_pos h1]
            refine ⟨r, step r (Ev.bind (pool_fields.ev c) (Ev.congr (fun k => if_pos hs) (Ev.bind (pool_leads.ev p c hfit.2) (Ev.congr (fun k => if_pos hl) (Ev.bind (text_Encode.ev c.f1 hfit.1) (Ev.congr (fun k => (if_pos he.1).trans (if_neg (by omega))) hr)))))), hrc⟩
          · have hf1 : c.f0 = 1 := by
              apply Classical.byContradiction
              intro h
              rw [bare_text c hb h] at he
              exact he ⟨rfl, by simp⟩
            have h1 : oneV p c = 20 := by unfold oneV; rw [if_pos ⟨hb, hl⟩, if_pos ⟨hf1, he⟩]
            rw [h1, if_neg (by decide)]
            refine ⟨some ((i : Int) + 1, 20), step _ (Ev.bind (pool_fields.ev c) (Ev.congr (fun k => if_pos hs) (Ev.bind (pool_leads.ev p c hfit.2) (Ev.congr (fun k => if_pos hl) (Ev.bind (text_Encode.ev c.f1 hfit.1) ?_))))), rfl⟩
            by_cases h0 : (encV c.f1).2 = 0
            · exact Ev.congr (fun k => (if_pos h0).trans (if_pos (by omega))) (Ev.now _)
            · exact Ev.congr (fun k => if_neg h0) (Ev.now _)
        · have h1 : oneV p c = 40 := by unfold oneV; rw [if_neg (fun h => hl h.2)]
          rw [h1, if_neg (by decide)]
          exact ⟨some ((i : Int) + 1, 40), step _ (Ev.bind (pool_fields.ev c) (Ev.congr (fun k => if_pos hs) (Ev.bind (pool_leads.ev p c hfit.2) (Ev.congr (fun k => if_neg hl) (Ev.now _))))), rfl⟩
      · have h1 : oneV p c = 40 := by
          unfold oneV
          rw [if_neg (fun h => hs ((same_bare p c h.2).2 h.1))]
        rw [h1, if_neg (by decide)]
        exact ⟨some ((i : Int) + 1, 40), step _ (Ev.bind (pool_fields.ev c) (Ev.congr (fun k => if_neg hs) (Ev.now _))), rfl⟩
    · refine ⟨none, stop i hi, ?_⟩
      show (0 : Int) = if i + 1 < p.length then _ else 0
      rw [if_neg hi]
theorem zeroV_iff (c : Cst) : sameC c (0, ⟨#[]⟩, 0, 0, 0) = zeroV c := by
  rw [Bool.eq_iff_iff, sameC_iff]
  unfold zeroV
  rw [decide_eq_true_eq, noBytes]
theorem pool_Check.ev (p : List Cst) (hp : ∀ c ∈ p, FitC c) : Ev (fun k => pool_Check.f k p) (checkV p) := by
  have key : ∀ r, Ev (fun k => pool_check.f k p) r → Ev (fun k => pool_Check.f k p) (codeOf r) := fun r hr => Ev.bind hr (Ev.now _)
  unfold checkV
  by_cases c1 : p.length > 1024
  · rw [if_pos c1]
    exact key (some (0, 2)) (Ev.congr (f := fun _ => some (some (0, 2))) (fun k => by unfold pool_check.f; rw [if_pos c1]) (Ev.now _))
  rw [if_neg c1]
  by_cases c2 : p.length = 0
  · rw [if_pos c2]
    exact key (some (0, 40)) (Ev.congr (f := fun _ => some (some (0, 40))) (fun k => by unfold pool_check.f; rw [if_neg c1, if_pos c2]) (Ev.now _))
  rw [if_neg c2]
  by_cases c3 : zeroV (rd_T33 p 0) = true
  · rw [if_pos c3]
    obtain ⟨r, hr, hrc⟩ := pool_check.ev_l p hp p.length 0 (by omega)
    have := key r (Ev.congr (f := fun k => pool_check.l0 k p 0) (fun k => by unfold pool_check.f; rw [if_neg c1, if_neg c2, zeroV_iff, if_pos c3]) hr)
    rw [hrc] at this
    exact this
  · rw [if_neg c3]
    exact key (some (0, 40)) (Ev.congr (f := fun _ => some (some (0, 40))) (fun k => by unfold pool_check.f; rw [if_neg c1, if_neg c2, zeroV_iff, if_neg c3]) (Ev.now _))
end Go.Proofs.YtglnhkgodgjepaaDoor.Px
