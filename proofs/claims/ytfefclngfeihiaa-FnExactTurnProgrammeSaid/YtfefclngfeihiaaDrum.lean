/- When a drum is valid for a valid frame; the codes of a frame and drums, by the reference and by the program. No conditions. -/
import Derived.Test.YtfefclngfeihiaaFrame2
import Derived.Test.YtfefclngfeihiaaDrums
import Derived.Outline
namespace Go.Proofs.Ytfefclngfeihiaa
open Go.RowKit
set_option linter.unusedVariables false
set_option linter.unusedSimpArgs false

/-- a drum is valid for a valid frame with s steps and n hammers -/
def vDrum (s : Int) (n : Nat) (D : Nat → Nat) : Bool := (List.range 96).all fun k => decide (D k / 2 ^ n = 0 ∧ (s ≤ (k : Int) → D k = 0))
theorem vDrum_iff {s : Int} {n : Nat} {D : Nat → Nat} : vDrum s n D = true ↔ ∀ k, k < 96 → D k / 2 ^ n = 0 ∧ (s ≤ (k : Int) → D k = 0) := by
  simp only [vDrum, List.all_eq_true, List.mem_range, decide_eq_true_eq]
theorem vDrum_false {s : Int} {n : Nat} {D : Nat → Nat} (k : Nat) (hk : k < 96) (h : ¬ (D k / 2 ^ n = 0 ∧ (s ≤ (k : Int) → D k = 0))) : vDrum s n D = false := by
  rw [← Bool.not_eq_true, vDrum_iff]
  exact fun H => h (H k hk)
attribute [irreducible] vDrum
theorem ne0_false {x n : Nat} (h : x / 2 ^ n = 0) : ((x : Int) / 2 ^ n != 0) = false := by rw [bne_eq_false_iff_eq]; exact_mod_cast h
theorem ne0_true {x n : Nat} (h : ¬ x / 2 ^ n = 0) : ((x : Int) / 2 ^ n != 0) = true := by rw [bne_iff_ne]; exact_mod_cast h
theorem z0_false {x : Nat} (h : x = 0) : ((x : Int) != 0) = false := by rw [bne_eq_false_iff_eq]; exact_mod_cast h
theorem z0_true {x : Nat} (h : ¬ x = 0) : ((x : Int) != 0) = true := by rw [bne_iff_ne]; exact_mod_cast h

/-- a frame and drums are valid -/
def okAll (s : Int) (n : Nat) (P R : Nat → Int) (m : Nat) (L : Nat → Nat → Nat) : Bool := vFrame s n P R && (List.range m).all fun i => vDrum s n (L i)
theorem okAll_iff {s : Int} {n : Nat} {P R : Nat → Int} {m : Nat} {L : Nat → Nat → Nat} : okAll s n P R m L = true ↔ vFrame s n P R = true ∧ ∀ i, i < m → vDrum s n (L i) = true := by
  simp only [okAll, Bool.and_eq_true, List.all_eq_true, List.mem_range]
attribute [irreducible] okAll
end Go.Proofs.Ytfefclngfeihiaa
