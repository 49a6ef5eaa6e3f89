/- When a programme is valid for a frame, by the reference and by the program. No conditions. -/
import Derived.Test.YteffaghcjpeblaaPg
import Derived.Test.YteffaghcjpeblaaFrame2
import Derived.Outline
namespace Go.Proofs.Yteffaghcjpeblaa
open Go.RowKit
set_option linter.unusedVariables false
set_option linter.unusedSimpArgs false

/-- where the first k sections end -/
def endTo (F S : Nat → Int) : Nat → Int
  | 0 => 0
  | k + 1 => F k + S k
theorem endTo_zero (F S : Nat → Int) : endTo F S 0 = 0 := rfl
theorem endTo_succ (F S : Nat → Int) (k : Nat) : endTo F S (k + 1) = F k + S k := rfl
theorem endTo_bound {F S : Nat → Int} (hF : I16 F) (hS : I16 S) (k : Nat) : -65536 ≤ endTo F S k ∧ endTo F S k ≤ 65536 := by
  cases k with
  | zero => rw [endTo_zero]; omega
  | succ k => rw [endTo_succ]; have := hF k; have := hS k; omega
attribute [irreducible] endTo
/-- m sections lie one behind the other on s steps -/
def vSecs (s : Int) (m : Nat) (F S : Nat → Int) : Bool := decide (m ≤ 12) && (List.range m).all fun k => decide (endTo F S k ≤ F k ∧ F k < s ∧ 1 ≤ S k ∧ F k + S k ≤ s)
theorem vSecs_iff {s : Int} {m : Nat} {F S : Nat → Int} : vSecs s m F S = true ↔ m ≤ 12 ∧ ∀ k, k < m → endTo F S k ≤ F k ∧ F k < s ∧ 1 ≤ S k ∧ F k + S k ≤ s := by
  simp only [vSecs, Bool.and_eq_true, decide_eq_true_eq, List.all_eq_true, List.mem_range]
theorem vSecs_false {s : Int} {m : Nat} {F S : Nat → Int} (h : ¬ (m ≤ 12 ∧ ∀ k, k < m → endTo F S k ≤ F k ∧ F k < s ∧ 1 ≤ S k ∧ F k + S k ≤ s)) : vSecs s m F S = false := by
  rw [← Bool.not_eq_true, vSecs_iff]; exact h
theorem vSecs_end {s : Int} {m : Nat} {F S : Nat → Int} (hs : 0 ≤ s) (h : ∀ k, k < m → endTo F S k ≤ F k ∧ F k < s ∧ 1 ≤ S k) (he : endTo F S m ≤ s) : ∀ k, k < m → endTo F S k ≤ F k ∧ F k < s ∧ 1 ≤ S k ∧ F k + S k ≤ s := fun k hk => by
  obtain ⟨h1, h2, h3⟩ := h k hk
  refine ⟨h1, h2, h3, ?_⟩
  by_cases hk1 : k + 1 < m
  · have := (h (k + 1) hk1).1
    have := (h (k + 1) hk1).2.1
    rw [endTo_succ] at *
    omega
  · have : m = k + 1 := by omega
    subst this
    rw [endTo_succ] at he
    exact he
/-- an order names sections below m, or -1 -/
def vOrd (m : Nat) (O : Nat → Int) : Bool := (List.range 48).all fun k => decide (-1 ≤ O k ∧ O k ≤ (m : Int) - 1)
theorem vOrd_iff {m : Nat} {O : Nat → Int} : vOrd m O = true ↔ ∀ k, k < 48 → -1 ≤ O k ∧ O k ≤ (m : Int) - 1 := by
  simp only [vOrd, List.all_eq_true, decide_eq_true_eq, List.mem_range]
theorem vOrd_false {m : Nat} {O : Nat → Int} (k : Nat) (hk : k < 48) (h : ¬ (-1 ≤ O k ∧ O k ≤ (m : Int) - 1)) : vOrd m O = false := by
  rw [← Bool.not_eq_true, vOrd_iff]; exact fun H => h (H k hk)
attribute [irreducible] vSecs vOrd
/-- a programme is valid for a frame -/
def vProg (s : Int) (n : Nat) (P R : Nat → Int) (m : Nat) (F S O : Nat → Int) : Bool := vFrame s n P R && (vSecs s m F S && vOrd m O)
theorem vProg_iff {s : Int} {n : Nat} {P R : Nat → Int} {m : Nat} {F S O : Nat → Int} : vProg s n P R m F S O = true ↔ vFrame s n P R = true ∧ vSecs s m F S = true ∧ vOrd m O = true := by
  simp only [vProg, Bool.and_eq_true]
theorem vProg_f1 {s : Int} {n : Nat} {P R : Nat → Int} {m : Nat} {F S O : Nat → Int} (h : vFrame s n P R = false) : vProg s n P R m F S O = false := by simp [vProg, h]
theorem vProg_f2 {s : Int} {n : Nat} {P R : Nat → Int} {m : Nat} {F S O : Nat → Int} (h : vSecs s m F S = false) : vProg s n P R m F S O = false := by simp [vProg, h]
theorem vProg_f3 {s : Int} {n : Nat} {P R : Nat → Int} {m : Nat} {F S O : Nat → Int} (h : vOrd m O = false) : vProg s n P R m F S O = false := by simp [vProg, h]
attribute [irreducible] vProg

end Go.Proofs.Yteffaghcjpeblaa
