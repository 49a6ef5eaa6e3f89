/- Tunes: when they are valid, how long they are. No conditions. -/
import Derived.Test.YtlcfjeofphncgaaNote
import Derived.Test.YtlcfjeofphncgaaFrame2
import Derived.Test.YtlcfjeofphncgaaHeld2
import Derived.Deep.RegionWith
import Derived.Outline
namespace Go.Proofs.Ytlcfjeofphncgaa
open Go.RowKit
set_option linter.unusedVariables false
set_option linter.unusedSimpArgs false

/-- there may be such a note -/
def noteB (a p : Int) : Bool := inB a 0 199 && inB p 0 47
theorem noteB_def (a p : Int) : noteB a p = (inB a 0 199 && inB p 0 47) := rfl
theorem noteB_iff {a p : Int} : noteB a p = true ↔ (0 ≤ a ∧ a ≤ 199) ∧ 0 ≤ p ∧ p ≤ 47 := by unfold noteB; rw [Bool.and_eq_true, inB_iff, inB_iff]
attribute [irreducible] noteB
/-- a note comes before another -/
def befB (a p b q : Int) : Bool := decide (a < b) || (decide (a = b) && decide (p < q))
theorem befB_def (a p b q : Int) : befB a p b q = (decide (a < b) || (decide (a = b) && decide (p < q))) := rfl
theorem befB_iff {a p b q : Int} : befB a p b q = true ↔ a < b ∨ a = b ∧ p < q := by unfold befB; simp
attribute [irreducible] befB
/-- how two notes compare -/
def cmpN (a p b q : Int) : Int := if a < b then -1 else if b < a then 1 else if p < q then -1 else if q < p then 1 else 0
def cmp1 (a b : Int) : Int := if a < b then -1 else if b < a then 1 else 0
theorem cmp1_def (a b : Int) : cmp1 a b = if a < b then -1 else if b < a then 1 else 0 := rfl
theorem cmp1_lt {a b : Int} (h : a < b) : cmp1 a b = -1 := if_pos h
theorem cmp1_gt {a b : Int} (h : b < a) : cmp1 a b = 1 := by unfold cmp1; rw [if_neg (by omega), if_pos h]
theorem cmp1_eq (a : Int) : cmp1 a a = 0 := by unfold cmp1; rw [if_neg (by omega), if_neg (by omega)]
theorem cmpN_first {a b : Int} (p q : Int) (h : ¬ cmp1 a b = 0) : cmpN a p b q = cmp1 a b := by
  unfold cmpN; unfold cmp1 at h ⊢
  by_cases h1 : a < b
  · rw [if_pos h1, if_pos h1]
  · rw [if_neg h1] at h ⊢
    by_cases h2 : b < a
    · rw [if_pos h2, if_neg h1, if_pos h2]
    · rw [if_neg h2] at h; exact absurd rfl h
theorem cmpN_second {a b : Int} (p q : Int) (h : cmp1 a b = 0) : cmpN a p b q = cmp1 p q := by
  unfold cmpN; unfold cmp1 at h ⊢
  by_cases h1 : a < b
  · rw [if_pos h1] at h; omega
  · rw [if_neg h1] at h ⊢
    by_cases h2 : b < a
    · rw [if_pos h2] at h; omega
    · rw [if_neg h2]
theorem cmpN_neg (a p b q : Int) : cmpN a p b q < 0 ↔ befB a p b q = true := by
  rw [befB_iff]; unfold cmpN
  by_cases h1 : a < b
  · rw [if_pos h1]; simp [h1]
  · rw [if_neg h1]
    by_cases h2 : b < a
    · rw [if_pos h2]; constructor <;> intro h <;> omega
    · rw [if_neg h2]
      by_cases h3 : p < q
      · rw [if_pos h3]; constructor <;> intro h <;> omega
      · rw [if_neg h3]; by_cases h4 : q < p
        · rw [if_pos h4]; constructor <;> intro h <;> omega
        · rw [if_neg h4]; constructor <;> intro h <;> omega
attribute [irreducible] cmpN cmp1
/-- a note is wrong where it stands -/
def tbad (A P : Nat → Int) (i : Nat) : Bool := !noteB (A i) (P i) || (decide (0 < i) && !befB (A (i - 1)) (P (i - 1)) (A i) (P i))
theorem tbad_note {A P : Nat → Int} {i : Nat} (h : noteB (A i) (P i) = false) : tbad A P i = true := by unfold tbad; rw [h]; rfl
theorem tbad_zero {A P : Nat → Int} (h : noteB (A 0) (P 0) = true) : tbad A P 0 = false := by unfold tbad; rw [h]; rfl
theorem tbad_bef {A P : Nat → Int} {i : Nat} (hi : 0 < i) (h : noteB (A i) (P i) = true) : tbad A P i = !befB (A (i - 1)) (P (i - 1)) (A i) (P i) := by unfold tbad; rw [h, decide_eq_true hi]; rfl
theorem tbad_no {A P : Nat → Int} {i : Nat} (h : tbad A P i = false) : noteB (A i) (P i) = true ∧ (0 < i → befB (A (i - 1)) (P (i - 1)) (A i) (P i) = true) := by
  unfold tbad at h
  rw [Bool.or_eq_false_iff, Bool.and_eq_false_iff] at h
  obtain ⟨h1, h2⟩ := h
  refine ⟨by simpa using h1, fun h0 => ?_⟩
  rcases h2 with h2 | h2
  · simp at h2; omega
  · simpa using h2
attribute [irreducible] tbad
/-- a tune is valid -/
def vTune (n : Nat) (A P : Nat → Int) : Bool := !anyB (tbad A P) n && decide ((n : Int) ≤ 120)
theorem vTune_bad {n : Nat} {A P : Nat → Int} {i : Nat} (hi : i < n) (h : tbad A P i = true) : vTune n A P = false := by unfold vTune; rw [anyB_iff.2 ⟨i, hi, h⟩]; rfl
theorem vTune_good {n : Nat} {A P : Nat → Int} (h : ∀ i, i < n → tbad A P i = false) : vTune n A P = decide ((n : Int) ≤ 120) := by unfold vTune; rw [anyB_false h]; rfl
theorem vTune_facts {n : Nat} {A P : Nat → Int} (h : vTune n A P = true) : n ≤ 120 ∧ (∀ i, i < n → (0 ≤ A i ∧ A i ≤ 199) ∧ 0 ≤ P i ∧ P i ≤ 47) ∧ ∀ i, i + 1 < n → befB (A i) (P i) (A (i + 1)) (P (i + 1)) = true := by
  unfold vTune at h
  rw [Bool.and_eq_true] at h
  obtain ⟨h1, h2⟩ := h
  have hno : ∀ i, i < n → tbad A P i = false := fun i hi => by
    cases hh : tbad A P i
    · rfl
    · rw [anyB_iff.2 ⟨i, hi, hh⟩] at h1; cases h1
  refine ⟨by simp at h2; omega, fun i hi => noteB_iff.1 (tbad_no (hno i hi)).1, fun i hi => ?_⟩
  have := (tbad_no (hno (i + 1) hi)).2 (by omega)
  rwa [Nat.add_sub_cancel] at this
attribute [irreducible] vTune
/-- how long a tune is -/
def tLen (n : Nat) (A : Nat → Int) : Int := if n = 0 then 0 else A (n - 1) + 1
theorem tLen_zero (A : Nat → Int) : tLen 0 A = 0 := rfl
theorem tLen_pos {n : Nat} (A : Nat → Int) (h : 0 < n) : tLen n A = A (n - 1) + 1 := by unfold tLen; rw [if_neg (by omega)]
attribute [irreducible] tLen
end Go.Proofs.Ytlcfjeofphncgaa
