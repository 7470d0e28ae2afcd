/- The pure statement of KindParams. -/
import Derived.Test.YtmmhajoadplgcaaRKindMeth
import Derived.Test.YtmmhajoadplgcaaRKindAwake
import Derived.Test.YtmmhajoadplgcaaRKindSame
import Derived.Test.YtmmhajoadplgcaaRPx7
import Derived.Test.YtmmhajoadplgcaaRFits
namespace Go.Proofs.YtmmhajoadplgcaaR.Px
open Go.RowKit Go.Proofs.YtmmhajoadplgcaaRW.PrintWords Go.Proofs.YtmmhajoadplgcaaRW.PrintLast Go.Proofs.YtmmhajoadplgcaaRW.PrintMore
set_option linter.unusedVariables false
set_option linter.unusedSimpArgs false

theorem lastV_void (xs : List S30) : lastV xs [41, 86] = (xs, (8, BA [], 0, 0, 0), 0) := by
  unfold lastV
  rw [if_neg (by simp), if_pos rfl]
theorem lastV_field (xs : List S30) (rl : List UInt8) (h : rl ≠ [86]) : lastV xs (41 :: rl) = if (FieldV rl).2 = 0 then (xs, (FieldV rl).1, 0) else ([], noTy, (FieldV rl).2) := by
  unfold lastV
  rw [if_neg (by simp), if_neg (by simpa using h)]
  rfl
theorem KindParams_end (x0 : List ByteArray) (i : Int) (ps : List (List UInt8)) (rl : List UInt8) (hps : ∀ l ∈ ps, (FieldV l).2 = 0) (h40 : ps.length ≤ 40) (hsz : (catV ps).length + rl.length ≤ 4294967000) :
    Ev (fun k => understudylaw08_KindParams.j1 k x0 (BA rl) (BA (40 :: catV ps)) (tysV ps) i false) true := by
  have htl : (tysV ps).length = ps.length := by unfold tysV; rw [List.length_map]
  have e1 : (BA (40 :: catV ps) ++ (⟨#[41]⟩ : ByteArray)) ++ BA rl = BA (40 :: (catV ps ++ (41 :: rl))) := by
    rw [show (⟨#[41]⟩ : ByteArray) = BA [41] from rfl, BA_append, BA_append]
    simp
  have e2 : BA (40 :: catV ps) ++ (⟨#[41, 86]⟩ : ByteArray) = BA (40 :: (catV ps ++ [41, 86])) := by
    rw [show (⟨#[41, 86]⟩ : ByteArray) = BA [41, 86] from rfl, BA_append]
    simp
  have m1 := kind_Method.ev (40 :: (catV ps ++ (41 :: rl))) (by rw [List.length_cons, List.length_append, List.length_cons]; omega)
  have m2 := kind_Method.ev (40 :: (catV ps ++ [41, 86])) (by rw [List.length_cons, List.length_append, List.length_cons, List.length_cons, List.length_nil]; omega)
  rw [methV_cat (41 :: rl) rfl ps hps] at m1
  rw [methV_cat [41, 86] rfl ps hps] at m2
  refine Ev.step (f := fun k => (kind_Field.f k (BA rl)).bind fun bt280 => ((kind_Method.f k (BA (40 :: (catV ps ++ (41 :: rl))))).bind fun bt287 => ((kind_Method.f k (BA (40 :: (catV ps ++ [41, 86])))).bind fun bt297 => (if ((tysV ps).length : Int) > 16 then (if bt287.2.2.2.2.2.2 = 80 then (some (bt297.2.2.2.2.2.2 == 80)) else (some false)) else (if bt297.2.2.2.2.2.2 = 0 then ((understudylaw08_same.f k bt297.1 (tysV ps)).bind fun t307 => (if t307 = true then (understudylaw08_KindParams.j2 k (BA rl) (tysV ps) bt280.2.2.2.2.2 bt287.1 bt287.2.2.2.2.2.2 (!(bt297.2.1 == 8) || (!(bt297.2.2.1.toList == ([] : List UInt8)) || (!(bt297.2.2.2.1 == 0) || (!(bt297.2.2.2.2.1 == 0) || (!(bt297.2.2.2.2.2.1 == 0)))))) bt280.1 bt280.2.1 bt280.2.2.1 bt280.2.2.2.1 bt280.2.2.2.2.1 bt287.2.1 bt287.2.2.1 bt287.2.2.2.1 bt287.2.2.2.2.1 bt287.2.2.2.2.2.1) else (understudylaw08_KindParams.j2 k (BA rl) (tysV ps) bt280.2.2.2.2.2 bt287.1 bt287.2.2.2.2.2.2 true bt280.1 bt280.2.1 bt280.2.2.1 bt280.2.2.2.1 bt280.2.2.2.2.1 bt287.2.1 bt287.2.2.1 bt287.2.2.2.1 bt287.2.2.2.2.1 bt287.2.2.2.2.2.1))) else (understudylaw08_KindParams.j2 k (BA rl) (tysV ps) bt280.2.2.2.2.2 bt287.1 bt287.2.2.2.2.2.2 true bt280.1 bt280.2.1 bt280.2.2.1 bt280.2.2.2.1 bt280.2.2.2.2.1 bt287.2.1 bt287.2.2.1 bt287.2.2.2.1 bt287.2.2.2.2.1 bt287.2.2.2.2.2.1)))))) (fun k => ?_) ?_
  · simp only [understudylaw08_KindParams.j1]
    have b1 : (BA (40 :: catV ps)).size + 1 ≤ 9223372036854775807 := by rw [BA_size, List.length_cons]; omega
    have b2 : (BA (40 :: catV ps) ++ (⟨#[41]⟩ : ByteArray)).size + (BA rl).size ≤ 9223372036854775807 := by
      rw [show (⟨#[41]⟩ : ByteArray) = BA [41] from rfl, BA_append, BA_size, BA_size, List.length_append, List.length_cons, List.length_singleton]; omega
    have b3 : (BA (40 :: catV ps)).size + 2 ≤ 9223372036854775807 := by rw [BA_size, List.length_cons]; omega
    simp only [if_pos b1, if_pos b2, if_pos b3, Bool.false_eq_true, if_false, e1, e2]
  · refine Ev.bind (kind_Field.ev rl (by omega)) (Ev.bind m1 (Ev.bind m2 ?_))
    by_cases h16 : ps.length ≤ 16
    · simp only [if_pos h16, if_neg (show ¬ ((tysV ps).length : Int) > 16 by omega), lastV_void, mAns, if_true]
      refine Ev.bind (same.ev (tysV ps) (by omega)) ?_
      simp only [if_true, BA_list, beq_self_eq_true, Bool.not_true, Bool.or_self]
      by_cases hv : rl = [86]
      · subst hv
        refine Ev.step (f := fun _ => some true) (fun k => ?_) (Ev.now _)
        simp only [understudylaw08_KindParams.j2]
        rw [if_neg (by simp), BA_list, if_pos rfl, lastV_void]
        rfl
      · rw [lastV_field _ _ hv]
        by_cases hz : (FieldV rl).2 = 0
        · simp only [if_pos hz]
          refine Ev.step (f := fun k => (understudylaw08_same.f k (tysV ps) (tysV ps)).bind fun t308 => if t308 = true then some true else some false) (fun k => ?_) (Ev.bind (same.ev (tysV ps) (by omega)) (by simp only [if_true]; exact Ev.now _))
          simp only [understudylaw08_KindParams.j2]
          rw [if_neg (by simp), BA_list, if_neg hv, if_pos (by simp [fAns, hz]), if_pos trivial]
          simp [fAns]
        · simp only [if_neg hz]
          refine Ev.step (f := fun _ => some true) (fun k => ?_) (Ev.now _)
          simp only [understudylaw08_KindParams.j2]
          rw [if_neg (by simp), BA_list, if_neg hv, if_pos (by simp [fAns]), if_neg hz]
    · simp only [if_neg h16, if_pos (show ((tysV ps).length : Int) > 16 by omega), mAns, noMe, if_true]
      exact Ev.now _
theorem catV_snoc (ls : List (List UInt8)) (i : Nat) (h : i < ls.length) : catV (ls.take (i + 1)) = catV (ls.take i) ++ ls[i] := by
  unfold catV
  rw [List.take_succ_eq_append_getElem h, List.flatten_append]
  simp
theorem tysV_snoc (ls : List (List UInt8)) (i : Nat) (h : i < ls.length) : tysV (ls.take (i + 1)) = tysV (ls.take i) ++ [tyS (FieldV ls[i]).1] := by
  unfold tysV
  rw [List.take_succ_eq_append_getElem h, List.map_append]
  rfl
theorem KindParams_l0 (ls : List (List UInt8)) (rl : List UInt8) (B : Nat) (hB : ∀ l ∈ ls, l.length ≤ B) (hb : 40 * B + rl.length ≤ 4294967000) (hn : ls.length ≤ 1099511627776) : ∀ n i, ls.length - i ≤ n → i ≤ ls.length → i ≤ 40 → (∀ l ∈ ls.take i, (FieldV l).2 = 0) → (catV (ls.take i)).length ≤ i * B →
    Ev (fun k => understudylaw08_KindParams.l0 k (ls.map BA) (BA rl) (BA (40 :: catV (ls.take i))) (tysV (ls.take i)) (i : Int)) true := by
  have fin : ∀ i, i ≤ ls.length → i ≤ 40 → (∀ l ∈ ls.take i, (FieldV l).2 = 0) → (catV (ls.take i)).length ≤ i * B → Ev (fun k => understudylaw08_KindParams.j1 k (ls.map BA) (BA rl) (BA (40 :: catV (ls.take i))) (tysV (ls.take i)) (i : Int) false) true := by
    intro i h1 h2 h3 h4
    have h5 : i * B ≤ 40 * B := Nat.mul_le_mul_right _ h2
    exact KindParams_end _ _ _ _ h3 (by rw [List.length_take]; omega) (by omega)
  intro n
  induction n with
  | zero =>
    intro i h1 h2 h3 h4 h5
    refine Ev.step (fun k => ?_) (fin i h2 h3 h4 h5)
    simp only [understudylaw08_KindParams.l0]
    rw [if_neg (by rw [List.length_map]; omega)]
  | succ n ih =>
    intro i h1 h2 h3 h4 h5
    by_cases hi : i < ls.length
    · by_cases h40 : i = 40
      · refine Ev.step (fun k => ?_) (fin i h2 h3 h4 h5)
        simp only [understudylaw08_KindParams.l0]
        rw [if_pos (by rw [List.length_map]; omega), decide_eq_false (by omega)]
      · have hrd : rdOf ByteArray.empty (ls.map BA) (i : Int) = BA ls[i] := by
          unfold rdOf
          rw [Int.toNat_natCast, List.getD_eq_getElem?_getD, List.getElem?_map, List.getElem?_eq_getElem hi]
          rfl
        have hlb := hB ls[i] (List.getElem_mem _)
        have h6 : i * B ≤ 40 * B := Nat.mul_le_mul_right _ h3
        refine Ev.step (f := fun k => understudylaw08_KindParams.j1 k (ls.map BA) (BA rl) (BA (40 :: catV (ls.take i))) (tysV (ls.take i)) (i : Int) true) (fun k => ?_) ?_
        · simp only [understudylaw08_KindParams.l0]
          rw [if_pos (by rw [List.length_map]; omega), decide_eq_true (by omega)]
        refine Ev.step (f := fun k => (kind_Field.f k (BA ls[i])).bind fun bt268 => (if bt268.2.2.2.2.2 = 0 then understudylaw08_KindParams.l0 k (ls.map BA) (BA rl) (BA (40 :: catV (ls.take (i + 1)))) (tysV (ls.take i) ++ [(⟨bt268.1, bt268.2.1, bt268.2.2.1, bt268.2.2.2.1, bt268.2.2.2.2.1⟩ : S30)]) ((i + 1 : Nat) : Int) else ((understudylaw08_awake.f k).bind fun t279 => (some t279)))) (fun k => ?_) ?_
        · simp only [understudylaw08_KindParams.j1]
          have b1 : (tysV (ls.take i)).length < 2932031007402 := by unfold tysV; rw [List.length_map, List.length_take]; omega
          have b2 : (BA (40 :: catV (ls.take i))).size + (BA ls[i]).size ≤ 9223372036854775807 := by rw [BA_size, BA_size, List.length_cons]; omega
          simp only [if_true, hrd]
          rw [if_pos (by omega), if_pos (by rw [List.length_map]; omega)]
          simp only [if_pos b1, if_pos b2, BA_append, List.cons_append, ← catV_snoc ls i hi, w64s i (by omega)]
        · refine Ev.bind (kind_Field.ev _ (by omega)) ?_
          simp only [fAns]
          by_cases hz : (FieldV ls[i]).2 = 0
          · refine Ev.congr (fun k => if_pos hz) ?_
            have h7 := ih (i + 1) (by omega) (by omega) (by omega) (by
              intro l hl
              rw [List.take_succ_eq_append_getElem hi, List.mem_append, List.mem_singleton] at hl
              rcases hl with hl | rfl
              · exact h4 l hl
              · exact hz) (by rw [catV_snoc ls i hi, List.length_append, Nat.add_mul]; omega)
            rw [tysV_snoc ls i hi] at h7
            exact h7
          · exact Ev.congr (fun k => if_neg hz) (Ev.bind kind_awake.ev (Ev.now _))
    · exact ih i (by omega) h2 h3 h4 h5
theorem KindParams_pure (l0 : List ByteArray) (a1 : ByteArray) (h0 : QAll Qstr 1048576 l0) (h1 : a1.size ≤ 1048576) : ∃ k, understudylaw08_KindParams.f k l0 a1 = some true := by
  obtain ⟨ls, rfl⟩ : ∃ ls : List (List UInt8), l0 = ls.map BA := ⟨l0.map (·.data.toList), by rw [List.map_map]; exact ((List.map_congr_left fun x _ => BA_eta x).trans (List.map_id _)).symm⟩
  obtain ⟨rl, rfl⟩ : ∃ l, a1 = BA l := ⟨_, (BA_eta a1).symm⟩
  rw [BA_size] at h1
  obtain ⟨h2, h3⟩ := h0
  rw [List.length_map] at h2
  refine Ev.rounds ?_
  have h := KindParams_l0 ls rl 1048576 (fun l hl => by have := h3 (BA l) (List.mem_map_of_mem hl); unfold Qstr at this; rw [BA_size] at this; omega) (by omega) (by omega) _ 0 (Nat.le_refl _) (by omega) (by omega) (by simp) (by simp [catV])
  unfold understudylaw08_KindParams.f
  exact h
end Go.Proofs.YtmmhajoadplgcaaR.Px
