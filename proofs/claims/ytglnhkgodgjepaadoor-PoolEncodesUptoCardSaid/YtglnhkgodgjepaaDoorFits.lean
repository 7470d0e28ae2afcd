/- What a type's reading as data gives of a value: a value of the printed kinds, well formed, no bulkier than the datum. -/
import Derived.Test.YtglnhkgodgjepaaDoorRowBulk
import Derived.Test.YtglnhkgodgjepaaDoorWSized
import Derived.Test.YtglnhkgodgjepaaDoorPx0
import Derived.ChangeArms
import Derived.ChangeOld
import Derived.ProofKit
namespace Go.Proofs.YtglnhkgodgjepaaDoor.Px
open Go.RowKit Go.ChangeShapes Go.WideShapes Go.ChangeAt Go.Proofs.YtglnhkgodgjepaaDoorW.PrintWords Go.Proofs.YtglnhkgodgjepaaDoorW.PrintLast Go.Proofs.YtglnhkgodgjepaaDoorW.PrintMore
set_option linter.unusedVariables false

/-- A type's reading is a value of the kind, of which Q holds at the datum's bulk. -/
def Fits {α : Type} {H : Type} (enc : TypeId × Value → H) (P : Program) (W : World) (t : TypeId) (d : Kd α) (Q : Nat → α → Prop) : Prop :=
  ∀ (fuel : Nat) (cs : List Value) (x : DataW H) (p : List MemPlace), DataW.trod enc P W 0 (fun _ => true) true fuel t cs = some (x, p) → ∃ a : α, d.K W a cs ∧ Q (Rows.uptoBulk x) a
section
variable {α β : Type} {H : Type} {enc : TypeId × Value → H} {P : Program} {W : World} {t e : TypeId}

def Qint (k : IntKind) (_ : Nat) (a : Int) : Prop := (Lit.int k a).wf = true
def Qbool (_ : Nat) (_ : Bool) : Prop := True
def Qstr (b : Nat) (a : ByteArray) : Prop := a.size < b
theorem Qint.mono (k : IntKind) : ∀ b b' a, b ≤ b' → Qint k b a → Qint k b' a := fun _ _ _ _ h => h
theorem Qbool.mono : ∀ b b' a, b ≤ b' → Qbool b a → Qbool b' a := fun _ _ _ _ h => h
theorem Qstr.mono : ∀ b b' a, b ≤ b' → Qstr b a → Qstr b' a := fun _ _ _ h1 h2 => Nat.lt_of_lt_of_le h2 h1
theorem Fits.int {k : IntKind} (ht : P.underlying t = some (.int k)) : Fits enc P W t (Kd.int k) (Qint k) := by
  intro fuel cs x p h
  obtain ⟨n, hc, hx, hw⟩ := DataW.trod_int ht h
  exact ⟨n, hc, hw⟩
theorem Fits.bool (ht : P.underlying t = some .bool) : Fits enc P W t Kd.bool Qbool := by
  intro fuel cs x p h
  obtain ⟨b, hc, hx⟩ := DataW.trod_bool ht h
  exact ⟨b, hc, trivial⟩
theorem Fits.string (ht : P.underlying t = some .string) : Fits enc P W t Kd.string Qstr := by
  intro fuel cs x p h
  obtain ⟨s, hc, hx⟩ := DataW.trod_string ht h
  refine ⟨s, hc, ?_⟩
  unfold Qstr
  have hx := (Prod.mk.inj hx.1).1
  subst hx
  simp only [Rows.uptoBulk]
  have e : s.data.toList.length = s.size := by rw [Array.length_toList]; rfl
  omega
theorem fits_add (a : Addr) (x j : Nat) : (a.add x).add j = a.add (x + j) := by
  unfold Addr.add
  by_cases h1 : x = 0 <;> by_cases h2 : j = 0 <;> simp [h1, h2, Nat.add_assoc]
/-- The elements of a row. -/
def QAll (Q : Nat → α → Prop) (b : Nat) (l : List α) : Prop := l.length < b ∧ ∀ x ∈ l, Q b x
theorem QAll.mono {Q : Nat → α → Prop} (hQ : ∀ b b' a, b ≤ b' → Q b a → Q b' a) : ∀ b b' l, b ≤ b' → QAll Q b l → QAll Q b' l := fun b b' l h hq => ⟨Nat.lt_of_lt_of_le hq.1 h, fun x hx => hQ _ _ _ h (hq.2 x hx)⟩
theorem Fits.slice {d : Kd α} {Q : Nat → α → Prop} (hQ : ∀ b b' a, b ≤ b' → Q b a → Q b' a) (ht : P.underlying t = some (.slice e)) (hsz : P.cellsOf e = d.sz) (hd : Fits enc P W e d Q) : Fits enc P W t (Kd.slice e d) (QAll Q) := by
  intro fuel cs x p h
  rcases DataW.trod_slice ht h with ⟨hcs, hx⟩ | ⟨a, len, cap, elems, rest, n, _, hcs, hx, _, hl, hm, hlen, hel, _, _⟩
  · refine ⟨[], ⟨none, 0, hcs, Nat.le_refl _, rfl, by simp, fun hh => absurd hh (by simp)⟩, ?_, fun y hy => by cases hy⟩
    exact bulk_one x
  · have hx1 := (Prod.mk.inj hx).1
    have each : ∀ i, i < len → ∃ y : α, ∃ c : List Value, d.K W y c ∧ c.length = d.sz ∧ (∀ j u, c[j]? = some u → W.cell? (a.add (i * d.sz + j)) = some u) ∧ Q (Rows.uptoBulk x) y := by
      intro i hi
      have h1 := hel i hi
      obtain ⟨z, hz⟩ : ∃ z, elems[i]? = some z := ⟨elems[i]'(by omega), List.getElem?_eq_getElem (by omega)⟩
      rw [hz] at h1
      obtain ⟨c, hc, hk⟩ := Option.bind_eq_some_iff.1 h1
      obtain ⟨_, hcl, hcc⟩ := World.cells?_some hc
      obtain ⟨y, hy, hq⟩ := hd n c z.1 z.2 hk
      refine ⟨y, c, hy, by rw [hcl, hsz], ?_, hQ _ _ _ ?_ hq⟩
      · intro j u hj
        have hjl : j < c.length := (List.getElem?_eq_some_iff.1 hj).1
        have := hcc j (by omega)
        rw [hj] at this
        rw [← this, hsz, fits_add]
      · rw [hx1]
        simp only [Rows.uptoBulk]
        have : z.1 ∈ elems.map (·.1) := List.mem_map_of_mem (List.mem_of_getElem? hz)
        have := bulk_part_le this
        omega
    have hf : ∀ i : Fin len, ∃ c : List Value, d.K W (Classical.choose (each i.1 i.2)) c ∧ c.length = d.sz ∧ (∀ j u, c[j]? = some u → W.cell? (a.add (i.1 * d.sz + j)) = some u) ∧ Q (Rows.uptoBulk x) (Classical.choose (each i.1 i.2)) := fun i => Classical.choose_spec (each i.1 i.2)
    generalize hF : (fun i : Fin len => Classical.choose (each i.1 i.2)) = f at hf
    replace hf : ∀ i : Fin len, ∃ c : List Value, d.K W (f i) c ∧ c.length = d.sz ∧ (∀ j u, c[j]? = some u → W.cell? (a.add (i.1 * d.sz + j)) = some u) ∧ Q (Rows.uptoBulk x) (f i) := fun i => by
      have := hf i
      rw [← hF]
      exact this
    have hxs : (List.ofFn f).length = len := by simp
    refine ⟨List.ofFn f, ⟨some a, cap, by rw [hxs]; exact hcs, by rw [hxs]; exact hl, rfl, ?_, fun _ => ⟨a, rfl, ?_⟩⟩, ?_, ?_⟩
    · rw [hxs]; unfold maxLen at hm; omega
    · intro j q hj
      have hjl : j < len := by
        have := (List.getElem?_eq_some_iff.1 hj).1
        omega
      have hq : f ⟨j, hjl⟩ = q := by
        rw [List.getElem?_ofFn, dif_pos hjl] at hj
        exact Option.some.inj hj
      obtain ⟨c, h1, h2, h3, _⟩ := hf ⟨j, hjl⟩
      subst hq
      exact ⟨c, h2, h1, h3⟩
    · rw [hxs, hx1]
      simp only [Rows.uptoBulk]
      have := bulk_length (elems.map (·.1))
      rw [List.length_map] at this
      omega
    · intro y hy
      obtain ⟨i, rfl⟩ := (List.mem_ofFn).1 hy
      obtain ⟨_, _, _, _, hq⟩ := hf i
      exact hq
end
end Go.Proofs.YtglnhkgodgjepaaDoor.Px
