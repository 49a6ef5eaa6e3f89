/- Tunes: codes of tunes, of a frame and a tune. No conditions. -/
import Derived.Test.YtfefclngfeihiaaTv
import Derived.Test.YtfefclngfeihiaaLc
import Derived.Outline
namespace Go.Proofs.Ytfefclngfeihiaa
open Go.RowKit
set_option linter.unusedVariables false
set_option linter.unusedSimpArgs false

/-- tunes that lie side by side -/
def TuneSAt (w : World) (b : Option Addr) (m : Nat) (a : Nat → Option Addr) (n c : Nat → Nat) (A P : Nat → Nat → Int) : Prop :=
  0 < m → ∃ g off, b = some ⟨g, off, none⟩ ∧ g < w.heap.size ∧ ∀ i, i < m → w.cell? ⟨g, off + i, none⟩ = some (.slice (a i) (n i) (c i)) ∧ NoteAt w (a i) (n i) (A i) (P i)
theorem TuneSAt.get {w : World} {b : Option Addr} {m : Nat} {a : Nat → Option Addr} {n c : Nat → Nat} {A P : Nat → Nat → Int} (h : TuneSAt w b m a n c A P) (hm : 0 < m) :
    ∃ g off, b = some ⟨g, off, none⟩ ∧ g < w.heap.size ∧ ∀ i, i < m → w.cell? ⟨g, off + i, none⟩ = some (.slice (a i) (n i) (c i)) ∧ NoteAt w (a i) (n i) (A i) (P i) := h hm
theorem TuneSAt.below {w w' : World} {b : Option Addr} {m : Nat} {a : Nat → Option Addr} {n c : Nat → Nat} {A P : Nat → Nat → Int} (h : TuneSAt w b m a n c A P) (hb : Below w.heap.size w w') : TuneSAt w' b m a n c A P := by
  intro hm
  obtain ⟨g, off, rfl, hg, hc⟩ := h hm
  refine ⟨g, off, rfl, Nat.lt_of_lt_of_le hg hb.size, fun i hi => ⟨?_, (hc i hi).2.below hb⟩⟩
  rw [hb.cell (p := ⟨g, off + i, none⟩) hg]
  exact (hc i hi).1
theorem kp_tunes {w : World} {b : Option Addr} {m : Nat} {a : Nat → Option Addr} {n c : Nat → Nat} {A P : Nat → Nat → Int} (h : TuneSAt w b m a n c A P) : Kp w (fun V => TuneSAt V b m a n c A P) := Kp.mk fun _ hb => h.below hb
/-- all tunes are valid -/
def tAll (m : Nat) (n : Nat → Nat) (A P : Nat → Nat → Int) : Bool := !anyB (fun i => !vTune (n i) (A i) (P i)) m
theorem tAll_iff {m : Nat} {n : Nat → Nat} {A P : Nat → Nat → Int} : tAll m n A P = true ↔ ∀ i, i < m → vTune (n i) (A i) (P i) = true := by
  unfold tAll
  constructor
  · intro h i hi
    cases hv : vTune (n i) (A i) (P i)
    · rw [anyB_iff.2 ⟨i, hi, by simp only [hv]; rfl⟩] at h; cases h
    · rfl
  · intro h
    rw [anyB_false fun i hi => by simp only [h i hi]; rfl]; rfl
theorem tAll_not (m : Nat) (n : Nat → Nat) (A P : Nat → Nat → Int) : anyB (fun i => !vTune (n i) (A i) (P i)) m = !tAll m n A P := by unfold tAll; rw [Bool.not_not]
theorem tAll_one (n : Nat) (A P : Nat → Int) : tAll 1 (fun _ => n) (fun _ => A) (fun _ => P) = vTune n A P := by
  rw [Bool.eq_iff_iff, tAll_iff]
  exact ⟨fun h => h 0 (by omega), fun h i _ => h⟩
attribute [irreducible] tAll
/-- the code of a frame, drums, a tune and a budget -/
def toC (ok v : Bool) (s len budget : Int) : Int := if ok && v then unl (decide (len ≤ s) && inB budget 0 20000) 2 else 1
theorem toC_no {ok v : Bool} {s len budget : Int} (h : (ok && v) = false) : toC ok v s len budget = 1 := by unfold toC; rw [h]; rfl
theorem toC_yes {s len budget : Int} : toC true true s len budget = unl (decide (len ≤ s) && inB budget 0 20000) 2 := rfl
theorem toC_zero {ok v : Bool} {s len budget : Int} (h : toC ok v s len budget = 0) : ok = true ∧ v = true ∧ len ≤ s ∧ 0 ≤ budget ∧ budget ≤ 20000 := by
  cases ok
  · rw [toC_no rfl] at h; exact absurd h (by decide)
  · cases v
    · rw [toC_no rfl] at h; exact absurd h (by decide)
    · rw [toC_yes] at h
      by_cases h1 : len ≤ s
      · rw [decide_eq_true h1, Bool.true_and] at h
        cases h2 : inB budget 0 20000
        · rw [h2, unl_false] at h; exact absurd h (by decide)
        · exact ⟨rfl, rfl, h1, inB_iff.1 h2⟩
      · rw [decide_eq_false h1, Bool.false_and, unl_false] at h; exact absurd h (by decide)
theorem firstL_to (ok v : Bool) : firstL [unl ok 1, unl v 1] = unl (ok && v) 1 := by
  cases ok
  · rw [firstL_at _ (by rw [unl_false]; simp)]; rfl
  · rw [firstL_zero _ (unl_true 1)]
    cases v
    · rw [firstL_at _ (by rw [unl_false]; simp)]; rfl
    · rw [firstL_zero _ (unl_true 1), firstL_nil, Bool.and_self, unl_true]
attribute [irreducible] toC
theorem okAll_none (s : Int) (n : Nat) (P R : Nat → Int) (L : Nat → Nat → Nat) : okAll s n P R 0 L = vFrame s n P R := by
  rw [Bool.eq_iff_iff, okAll_iff]
  exact ⟨fun h => h.1, fun h => ⟨h, fun i hi => absurd hi (by omega)⟩⟩
theorem drumsNone (w : World) (L : Nat → Nat → Nat) : DrumsAt w none 0 L := fun h => absurd h (by omega)
end Go.Proofs.Ytfefclngfeihiaa
