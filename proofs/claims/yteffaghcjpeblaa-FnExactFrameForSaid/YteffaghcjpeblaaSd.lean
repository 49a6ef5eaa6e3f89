/- StepsInDay, by the reference and by the program. No conditions. -/
import Derived.Test.YteffaghcjpeblaaAp
import Derived.Test.YteffaghcjpeblaaSt
import Derived.Test.YteffaghcjpeblaaHeld2
import Derived.Test.YteffaghcjpeblaaIx
import Derived.Outline
namespace Go.Proofs.Yteffaghcjpeblaa
open Go.RowKit
set_option linter.unusedVariables false
set_option linter.unusedSimpArgs false

/-- the sections that the first k quarters play -/
def sdL (O : Nat → Int) : Nat → List Int
  | 0 => []
  | k + 1 => if 0 ≤ O k then sdL O k ++ [O k] else sdL O k
theorem sdL_zero (O : Nat → Int) : sdL O 0 = [] := rfl
theorem sdL_yes {O : Nat → Int} {k : Nat} (h : 0 ≤ O k) : sdL O (k + 1) = sdL O k ++ [O k] := if_pos h
theorem sdL_no {O : Nat → Int} {k : Nat} (h : ¬ 0 ≤ O k) : sdL O (k + 1) = sdL O k := if_neg h
theorem sdL_len (O : Nat → Int) (k : Nat) : (sdL O k).length ≤ k := by
  induction k with
  | zero => simp [sdL]
  | succ k ih =>
    by_cases h : 0 ≤ O k
    · rw [sdL_yes h, List.length_append]; simp; omega
    · rw [sdL_no h]; omega
theorem sdL_in {O : Nat → Int} {m : Nat} {k : Nat} (h : ∀ j, j < k → -1 ≤ O j ∧ O j ≤ (m : Int) - 1) : ∀ x ∈ sdL O k, 0 ≤ x ∧ x ≤ (m : Int) - 1 := by
  induction k with
  | zero => intro x hx; simp [sdL] at hx
  | succ k ih =>
    intro x hx
    by_cases h0 : 0 ≤ O k
    · rw [sdL_yes h0, List.mem_append] at hx
      rcases hx with hx | hx
      · exact ih (fun j hj => h j (by omega)) x hx
      · simp at hx; subst hx; exact ⟨h0, (h k (by omega)).2⟩
    · rw [sdL_no h0] at hx; exact ih (fun j hj => h j (by omega)) x hx
attribute [irreducible] sdL
/-- how far the drum turns for the first i sections of a list -/
def plTo (s : Int) (F S Z : Nat → Int) : Nat → Int
  | 0 => 0
  | i + 1 => plTo s F S Z i + stT s (F (Z i).toNat) (plTo s F S Z i % s) + S (Z i).toNat
theorem plTo_zero (s : Int) (F S Z : Nat → Int) : plTo s F S Z 0 = 0 := rfl
theorem plTo_succ (s : Int) (F S Z : Nat → Int) (i : Nat) : plTo s F S Z (i + 1) = plTo s F S Z i + stT s (F (Z i).toNat) (plTo s F S Z i % s) + S (Z i).toNat := rfl
theorem plTo_bound {s : Int} {F S Z : Nat → Int} {m : Nat} (hs : 2 ≤ s ∧ s ≤ 96) (h : ∀ k, k < m → 0 ≤ F k ∧ F k < s ∧ 1 ≤ S k ∧ F k + S k ≤ s) : ∀ i, (∀ j, j < i → 0 ≤ Z j ∧ Z j ≤ (m : Int) - 1) → 0 ≤ plTo s F S Z i ∧ plTo s F S Z i ≤ 192 * i := by
  intro i
  induction i with
  | zero => intro _; rw [plTo_zero]; omega
  | succ i ih =>
    intro hz
    have h1 := ih fun j hj => hz j (by omega)
    have h2 := hz i (by omega)
    have h3 := h (Z i).toNat (by omega)
    have h4 := stT_bound (s := s) (f := F (Z i).toNat) (t := plTo s F S Z i % s) (by omega)
    rw [plTo_succ]
    omega
theorem pl_mod (p f s x : Int) (hs : 0 < s) : (p + stT s f (p % s) + x) % s = (f + x) % s := by
  rw [stT_def]
  have h1 : p % s = p - s * (p / s) := Int.emod_def p s
  have h2 : (f - p % s + s) % s = f - p % s + s - s * ((f - p % s + s) / s) := Int.emod_def _ s
  rw [h2, h1]
  have e : p + (f - (p - s * (p / s)) + s - s * ((f - (p - s * (p / s)) + s) / s)) + x = f + x + s * (p / s + 1 - (f - (p - s * (p / s)) + s) / s) := by
    rw [Int.mul_sub, Int.mul_add, Int.mul_one]; omega
  rw [e, Int.add_mul_emod_self_left]
attribute [irreducible] plTo
def sdCode (s : Int) (n : Nat) (P R : Nat → Int) (m : Nat) (F S O : Nat → Int) : Int := if vProg s n P R m F S O then 0 else 1
def sdVal (s : Int) (n : Nat) (P R : Nat → Int) (m : Nat) (F S O : Nat → Int) : Int := if vProg s n P R m F S O then plTo s F S (fun i => (sdL O 48).getD i 0) (sdL O 48).length else 0
section
variable {s : Int} {n : Nat} {P R : Nat → Int} {m : Nat} {F S O : Nat → Int}
theorem sd_no (h : vProg s n P R m F S O = false) : sdVal s n P R m F S O = 0 ∧ sdCode s n P R m F S O = 1 := by unfold sdVal sdCode; rw [h]; exact ⟨rfl, rfl⟩
theorem sd_yes (h : vProg s n P R m F S O = true) : sdVal s n P R m F S O = plTo s F S (fun i => (sdL O 48).getD i 0) (sdL O 48).length ∧ sdCode s n P R m F S O = 0 := by unfold sdVal sdCode; rw [h]; exact ⟨rfl, rfl⟩
end
attribute [irreducible] sdCode sdVal
end Go.Proofs.Yteffaghcjpeblaa
