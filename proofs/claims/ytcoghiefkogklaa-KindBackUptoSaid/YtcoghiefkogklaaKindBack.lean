/- The pure statement of KindBack: a descriptor that is right is the text of its type, and the other way round. -/
import Derived.Test.YtcoghiefkogklaaKindMath
import Derived.Test.YtcoghiefkogklaaKindAwake
import Derived.Test.YtcoghiefkogklaaERepeat
import Derived.Test.YtcoghiefkogklaaPx6
import Derived.Test.YtcoghiefkogklaaPx5
import Derived.Test.YtcoghiefkogklaaPx7
namespace Go.Proofs.Ytcoghiefkogklaa.Px
open Go.RowKit Go.Proofs.YtcoghiefkogklaaW.PrintWords Go.Proofs.YtcoghiefkogklaaW.PrintLast Go.Proofs.YtcoghiefkogklaaW.PrintMore
set_option linter.unusedVariables false
set_option linter.unusedSimpArgs false

def letterV (k : Int) (nm : List UInt8) : List UInt8 := if k = 1 then [73] else if k = 2 then [74] else if k = 4 then 76 :: (nm ++ [59]) else []
theorem letterV_len (k : Int) (nm : List UInt8) : (letterV k nm).length ≤ nm.length + 2 := by
  unfold letterV
  split
  · simp
  · split
    · simp
    · split <;> simp
theorem kind_letter.eq (k : Int) (nm : List UInt8) (h : nm.length ≤ 4294967000) : kind_letter.f k (BA nm) = some (BA (letterV k nm)) := by
  unfold kind_letter.f letterV
  by_cases c1 : k = 1
  · rw [if_pos c1, if_pos c1]
  rw [if_neg c1, if_neg c1]
  by_cases c2 : k = 2
  · rw [if_pos c2, if_pos c2]
  rw [if_neg c2, if_neg c2]
  by_cases c4 : k = 4
  · have e1 : (⟨#[76]⟩ : ByteArray) ++ BA nm = BA (76 :: nm) := BA_append [76] nm
    have e2 : BA (76 :: nm) ++ (⟨#[59]⟩ : ByteArray) = BA (76 :: (nm ++ [59])) := BA_append (76 :: nm) [59]
    rw [if_pos c4, if_pos c4, e1, e2, BA_size, BA_size, if_pos (by omega), if_pos (by rw [List.length_cons]; omega)]
  · rw [if_neg c4, if_neg c4]
def coreV (s : List UInt8) (t : Ty) : List UInt8 := if (FieldV s).2 = 0 ∧ (FieldV s).1 = t then s else []
theorem BA_inj (q : ByteArray) (nm : List UInt8) (h : q.toList = (BA nm).toList) : q = BA nm := by
  rw [BA_list, Lib.toList_data] at h
  rw [← BA_eta q, h]
theorem core.ev (s nm : List UInt8) (hs : s.length ≤ 4294967280) (K d e a : Int) : Ev (fun k => (kind_Field.f k (BA s)).bind fun bt146 => (if bt146.2.2.2.2.2 = 0 then (if (!(bt146.1 == K) || (!(bt146.2.1.toList == (BA nm).toList) || (!(bt146.2.2.1 == d) || (!(bt146.2.2.2.1 == e) || (!(bt146.2.2.2.2.1 == a)))))) = true then (some (⟨#[]⟩ : ByteArray)) else (some (BA s))) else (some (⟨#[]⟩ : ByteArray)))) (BA (coreV s (K, BA nm, d, e, a))) := by
  refine Ev.bind (kind_Field.ev s hs) ?_
  by_cases h0 : (FieldV s).2 = 0
  · by_cases ht : (FieldV s).1 = (K, BA nm, d, e, a)
    · have hV : coreV s (K, BA nm, d, e, a) = s := if_pos ⟨h0, ht⟩
      rw [hV]
      refine Ev.congr (fun k => (if_pos h0).trans (if_neg ?_)) (Ev.now _)
      unfold fAns
      rw [ht]
      simp
    · have hV : coreV s (K, BA nm, d, e, a) = [] := if_neg (fun h => ht h.2)
      rw [hV]
      refine Ev.congr (fun k => (if_pos h0).trans (if_pos ?_)) (Ev.now _)
      apply Classical.byContradiction
      intro hb
      have hb := Bool.eq_false_iff.2 hb
      unfold fAns at hb
      simp only [Bool.or_eq_false_iff, Bool.not_eq_false', beq_iff_eq] at hb
      obtain ⟨h1, h2, h3, h4, h5⟩ := hb
      exact ht (Prod.ext h1 (Prod.ext (BA_inj _ nm h2) (Prod.ext h3 (Prod.ext h4 h5))))
  · have hV : coreV s (K, BA nm, d, e, a) = [] := if_neg (fun h => h0 h.1)
    rw [hV]
    exact Ev.congr (fun k => if_neg h0) (Ev.now _)
def brackets (d : Int) : List UInt8 := List.replicate d.toNat 91
def TextV (K : Int) (nm : List UInt8) (d e a : Int) : List UInt8 :=
  if K = 8 then (if nm = [] ∧ d = 0 ∧ e = 0 ∧ a = 0 then [86] else []) else if K = 5 then (if d < 1 ∨ d > 4 then [] else coreV (brackets d ++ letterV e nm) (K, BA nm, d, e, a)) else coreV (letterV K nm) (K, BA nm, d, e, a)
theorem repeat.eq (d : Int) (h1 : 1 ≤ d) (h4 : d ≤ 4) : strings_Repeat.f (⟨#[91]⟩ : ByteArray) d = some (BA (brackets d)) := by
  unfold strings_Repeat.f
  by_cases h : d = 1
  · subst h; rfl
  · rw [if_neg h, if_pos ⟨rfl, by omega, h4⟩]
    rfl
theorem kind_Text.ev (K : Int) (nm : List UInt8) (d e a : Int) (h : nm.length ≤ 4294967000) : Ev (fun k => kind_Text.f k K (BA nm) d e a) (BA (TextV K nm d e a)) := by
  unfold kind_Text.f TextV
  by_cases c8 : K = 8
  · refine Ev.congr (fun k => if_pos c8) ?_
    rw [if_pos c8]
    by_cases hz : nm = [] ∧ d = 0 ∧ e = 0 ∧ a = 0
    · rw [if_pos hz]
      refine Ev.congr (fun k => if_pos ?_) (Ev.now _)
      obtain ⟨rfl, rfl, rfl, rfl⟩ := hz
      rw [BA_list]
      rfl
    · rw [if_neg hz]
      refine Ev.congr (fun k => if_neg ?_) (Ev.now _)
      intro hb
      simp only [Bool.and_eq_true, beq_iff_eq, BA_list] at hb
      exact hz hb
  rw [if_neg c8]
  refine Ev.congr (fun k => if_neg c8) ?_
  by_cases c5 : K = 5
  · refine Ev.congr (fun k => if_pos c5) ?_
    rw [if_pos c5]
    have j0t : Ev (fun k => kind_Text.j0 k true K (BA nm) d e a) (BA []) := Ev.step (f := fun _ => some (BA [])) (fun k => by simp only [kind_Text.j0]; rw [if_pos trivial]) (Ev.now _)
    by_cases d1 : d < 1
    · rw [if_pos (Or.inl d1)]
      exact Ev.congr (fun k => if_pos d1) j0t
    · refine Ev.congr (fun k => if_neg d1) ?_
      by_cases d4 : d > 4
      · rw [if_pos (Or.inr d4), decide_eq_true d4]
        exact j0t
      · rw [if_neg (by omega), decide_eq_false d4]
        have hbl : (brackets d).length ≤ 4 := by unfold brackets; rw [List.length_replicate]; omega
        have hll := letterV_len e nm
        have hc := core.ev (brackets d ++ letterV e nm) nm (by rw [List.length_append]; omega) K d e a
        refine Ev.step (fun k => ?_) hc
        simp only [kind_Text.j0]
        rw [if_neg (by simp), repeat.eq d (by omega) (by omega), Option.bind_some, kind_letter.eq e nm h, Option.bind_some, BA_size, BA_size, if_pos (by omega), BA_append]
  · rw [if_neg c5]
    have hll := letterV_len K nm
    have hc := core.ev (letterV K nm) nm (by omega) K d e a
    exact Ev.congr (fun k => by rw [if_neg c5, kind_letter.eq K nm h, Option.bind_some]) hc
theorem FieldV_zero {l : List UInt8} {t : Ty} (h : FieldV l = (t, 0)) : fieldV l = some (t, []) := by
  unfold FieldV at h
  split at h
  · rename_i e
    cases h
    exact e
  · cases h
theorem tyV_name (d : Nat) (K : Int) (nm : ByteArray) : (tyV d K nm).2.1 = nm := by unfold tyV; split <;> rfl
theorem restV_name (d : Nat) (m : List UInt8) (t : Ty) (u : List UInt8) (h : restV d m = some (t, u)) : t.2.1.size ≤ m.length := by
  cases m with
  | nil => simp [restV] at h
  | cons c v =>
    simp only [restV] at h
    have h0 : (BA []).size ≤ (c :: v).length := by rw [BA_size]; simp
    split at h
    · cases h
    · split at h
      · cases h; rw [tyV_name]; exact h0
      · split at h
        · cases h; rw [tyV_name]; exact h0
        · split at h
          · split at h
            · cases h
              rw [tyV_name, BA_size]
              have := takeWhile_len (· != 59) v
              rw [List.length_cons]
              omega
            · cases h
          · cases h
theorem field_name (l : List UInt8) (t : Ty) (h : FieldV l = (t, 0)) : t.2.1.size ≤ l.length := by
  have := restV_name _ _ _ _ (FieldV_zero h)
  rw [List.length_drop] at this
  omega
theorem brackets_split (l : List UInt8) : l = List.replicate (nb l) 91 ++ l.drop (nb l) := by
  unfold nb
  rw [drop_until]
  have : l.takeWhile (· == 91) = List.replicate (l.takeWhile (· == 91)).length 91 := by
    apply List.eq_replicate_of_mem
    intro b hb
    have := List.all_eq_true.1 (List.all_takeWhile (p := (· == (91 : UInt8))) (l := l)) b hb
    simpa using this
  rw [← this, List.takeWhile_append_dropWhile]
theorem letter_split (t : List UInt8) (h : (59 : UInt8) ∈ t) (he : (t.dropWhile (· != 59)).drop 1 = []) : t = t.takeWhile (· != 59) ++ [59] := by
  have h1 : t = t.takeWhile (· != 59) ++ t.dropWhile (· != 59) := List.takeWhile_append_dropWhile.symm
  cases hd : t.dropWhile (· != 59) with
  | nil => exact absurd (by rw [hd]; rfl) (until_ne t h)
  | cons c u =>
    rw [hd] at he h1
    have hc : c = 59 := by
      have := List.head?_dropWhile_not (· != (59 : UInt8)) t
      rw [hd] at this
      simpa using this
    simp only [List.drop_succ_cons, List.drop_zero] at he
    rw [hc, he] at h1
    exact h1
/-- A descriptor that is right is the text of its type. -/
theorem text_back (l nm : List UInt8) (K d e a : Int) (h : FieldV l = ((K, BA nm, d, e, a), 0)) : TextV K nm d e a = l := by
  have hf := FieldV_zero h
  have hs := brackets_split l
  unfold fieldV at hf
  have core : ∀ s, s = l → coreV s (K, BA nm, d, e, a) = l := by
    rintro s rfl
    unfold coreV
    rw [h, if_pos ⟨rfl, rfl⟩]
  obtain ⟨n, hn⟩ : ∃ n, n = nb l := ⟨_, rfl⟩
  rw [← hn] at hf hs
  obtain ⟨m, hm⟩ : ∃ m, m = l.drop n := ⟨_, rfl⟩
  rw [← hm] at hf hs
  cases m with
  | nil => simp [restV] at hf
  | cons c t =>
    have fin : ∀ (K0 : Int) (nm0 : List UInt8), (K0 = 1 ∨ K0 = 2 ∨ K0 = 4) → n ≤ 4 → tyV n K0 (BA nm0) = (K, BA nm, d, e, a) → letterV K0 nm0 = c :: t → TextV K nm d e a = l := by
      intro K0 nm0 hK hn4 ht hl
      unfold tyV at ht
      by_cases h0 : n > 0
      · rw [if_pos h0] at ht
        simp only [Prod.mk.injEq] at ht
        obtain ⟨rfl, hnm, rfl, rfl, rfl⟩ := ht
        replace hnm : BA nm0 = BA nm := by first | exact hnm | exact congrArg BA hnm | (simp at hnm; rw [hnm])
        have hnm : nm0 = nm := by have := congrArg (fun b : ByteArray => b.data.toList) hnm; simpa using this
        subst hnm
        unfold TextV
        rw [if_neg (by decide), if_pos rfl, if_neg (by omega)]
        refine core _ ?_
        unfold brackets
        rw [Int.toNat_natCast, hl]
        exact hs.symm
      · rw [if_neg h0] at ht
        simp only [Prod.mk.injEq] at ht
        obtain ⟨rfl, hnm, rfl, rfl, rfl⟩ := ht
        replace hnm : BA nm0 = BA nm := by first | exact hnm | exact congrArg BA hnm | (simp at hnm; rw [hnm])
        have hnm : nm0 = nm := by have := congrArg (fun b : ByteArray => b.data.toList) hnm; simpa using this
        subst hnm
        unfold TextV
        rw [if_neg (by omega), if_neg (by omega)]
        refine core _ ?_
        rw [hl, hs, show n = 0 by omega]
        rfl
    simp only [restV] at hf
    by_cases g4 : n > 4
    · rw [if_pos g4] at hf; cases hf
    rw [if_neg g4] at hf
    by_cases c73 : c = 73
    · rw [if_pos c73] at hf
      have hh := Option.some.inj hf
      obtain ⟨h1, h2⟩ := Prod.mk.inj hh
      exact fin 1 [] (Or.inl rfl) (by omega) h1 (by rw [c73, h2]; rfl)
    rw [if_neg c73] at hf
    by_cases c74 : c = 74
    · rw [if_pos c74] at hf
      have hh := Option.some.inj hf
      obtain ⟨h1, h2⟩ := Prod.mk.inj hh
      exact fin 2 [] (Or.inr (Or.inl rfl)) (by omega) h1 (by rw [c74, h2]; rfl)
    rw [if_neg c74] at hf
    by_cases c76 : c = 76
    · rw [if_pos c76] at hf
      by_cases hp : (59 : UInt8) ∈ t ∧ plainV (t.takeWhile (· != 59)) = true
      · rw [if_pos hp] at hf
        have hh := Option.some.inj hf
        obtain ⟨h1, h2⟩ := Prod.mk.inj hh
        refine fin 4 (t.takeWhile (· != 59)) (Or.inr (Or.inr rfl)) (by omega) h1 ?_
        rw [c76]
        show 76 :: (t.takeWhile (· != 59) ++ [59]) = 76 :: t
        rw [← letter_split t hp.1 h2]
      · rw [if_neg hp] at hf; cases hf
    · rw [if_neg c76] at hf; cases hf
/-- A type that has a text is that text's. -/
theorem back_text (nm : List UInt8) (K d e a : Int) (h0 : TextV K nm d e a ≠ []) (h86 : TextV K nm d e a ≠ [86]) : FieldV (TextV K nm d e a) = ((K, BA nm, d, e, a), 0) := by
  have core : ∀ s, coreV s (K, BA nm, d, e, a) ≠ [] → FieldV (coreV s (K, BA nm, d, e, a)) = ((K, BA nm, d, e, a), 0) := by
    intro s hs
    unfold coreV at hs ⊢
    by_cases hc : (FieldV s).2 = 0 ∧ (FieldV s).1 = (K, BA nm, d, e, a)
    · rw [if_pos hc]
      exact Prod.ext hc.2 hc.1
    · rw [if_neg hc] at hs; exact absurd rfl hs
  unfold TextV at *
  by_cases c8 : K = 8
  · rw [if_pos c8] at h0 h86
    by_cases hz : nm = [] ∧ d = 0 ∧ e = 0 ∧ a = 0
    · rw [if_pos hz] at h86; exact absurd rfl h86
    · rw [if_neg hz] at h0; exact absurd rfl h0
  rw [if_neg c8] at *
  by_cases c5 : K = 5
  · rw [if_pos c5] at *
    by_cases hd : d < 1 ∨ d > 4
    · rw [if_pos hd] at h0; exact absurd rfl h0
    · rw [if_neg hd] at *
      exact core _ h0
  · rw [if_neg c5] at *
    exact core _ h0
theorem KindBack_pure (a0 : ByteArray) (K : Int) (b0 : ByteArray) (d e a : Int) (h : a0.size ≤ 4294967000) (hb : b0.size ≤ 4294967000) : ∃ k, understudylaw08_KindBack.f k a0 K b0 d e a = some true := by
  obtain ⟨l, rfl⟩ : ∃ l, a0 = BA l := ⟨_, (BA_eta a0).symm⟩
  obtain ⟨nm, rfl⟩ : ∃ l, b0 = BA l := ⟨_, (BA_eta b0).symm⟩
  rw [BA_size] at h hb
  refine Ev.rounds ?_
  have aw : Ev (fun k => (understudylaw08_awake.f k).bind fun t => some t) true := Ev.bind kind_awake.ev (Ev.now _)
  have hTl : (TextV K nm d e a).length ≤ 4294967280 := by
    have l1 := letterV_len e nm
    have l2 := letterV_len K nm
    have core : ∀ (s : List UInt8) (t : Ty), s.length ≤ 4294967280 → (coreV s t).length ≤ 4294967280 := by
      intro s t hs
      unfold coreV
      split
      · exact hs
      · simp
    unfold TextV
    split
    · split <;> simp
    · split
      · split
        · simp
        · refine core _ _ ?_
          rw [List.length_append]
          unfold brackets
          rw [List.length_replicate]
          omega
      · exact core _ _ (by omega)
  have j1 : ∀ b : Bool, (b = false → TextV K nm d e a ≠ [] ∧ TextV K nm d e a ≠ [86]) → Ev (fun k => understudylaw08_KindBack.j1 k (BA (TextV K nm d e a)) b K (BA nm) d e a) true := by
    intro b hbb
    cases b with
    | true => exact Ev.step (fun k => by simp only [understudylaw08_KindBack.j1]; rw [if_pos trivial]) aw
    | false =>
      obtain ⟨h0, h86⟩ := hbb rfl
      refine Ev.step (fun k => by simp only [understudylaw08_KindBack.j1]; rw [if_neg (by simp)]) (Ev.bind (kind_Field.ev _ hTl) ?_)
      rw [back_text nm K d e a h0 h86]
      unfold fAns
      simp only [beq_self_eq_true, Bool.and_self, if_true]
      exact aw
  have j0 : Ev (fun k => understudylaw08_KindBack.j0 k false K (BA nm) d e a) true := by
    refine Ev.step (fun k => by simp only [understudylaw08_KindBack.j0]; rw [if_neg (by simp)]) (Ev.bind (kind_Text.ev K nm d e a hb) ?_)
    simp only [BA_list]
    by_cases h0 : TextV K nm d e a = []
    · exact Ev.congr (fun k => if_pos h0) (j1 true (fun hh => by cases hh))
    · exact Ev.congr (fun k => if_neg h0) (j1 _ (fun hh => ⟨h0, fun h86 => by rw [h86] at hh; cases hh⟩))
  unfold understudylaw08_KindBack.f
  refine Ev.bind (kind_Field.ev l (by omega)) ?_
  unfold fAns
  by_cases he : (FieldV l).2 = 0
  · refine Ev.congr (fun k => if_pos he) ?_
    obtain ⟨⟨⟨q1, q2, q3, q4, q5⟩, er⟩, hq⟩ : ∃ q : Ty × Int, q = FieldV l := ⟨_, rfl⟩
    rw [← hq] at he ⊢
    simp only at he ⊢
    subst he
    obtain ⟨qn, rfl⟩ : ∃ l, q2 = BA l := ⟨_, (BA_eta q2).symm⟩
    have hb := text_back l qn q1 q3 q4 q5 hq.symm
    have hqn : qn.length ≤ 4294967000 := by
      have := field_name l _ hq.symm
      simp only [BA_size] at this
      omega
    refine Ev.bind (kind_Text.ev q1 qn q3 q4 q5 hqn) ?_
    rw [hb]
    rw [show ((BA l).toList != (BA l).toList) = false by simp]
    exact j0
  · exact Ev.congr (fun k => if_neg he) j0
end Go.Proofs.Ytcoghiefkogklaa.Px
