/- The nearest drum is played next: what is laid down, without a program. No conditions. -/
import Derived.Test.YtlcfjeofphncgaaOrd
import Derived.Test.YtlcfjeofphncgaaOwnI
import Derived.Outline
namespace Go.Proofs.Ytlcfjeofphncgaa
open Go.RowKit
set_option linter.unusedVariables false
set_option linter.unusedSimpArgs false

/-- an index is in the order so far -/
noncomputable def inL (l : List Int) (i : Nat) : Bool := hasB (fun k => l.getD k 0) l.length i
theorem inL_iff {l : List Int} {i : Nat} : inL l i = true ↔ ∃ k, k < l.length ∧ l.getD k 0 = (i : Int) := by unfold inL; rw [hasB_iff]; rfl
theorem inL_one (f i : Nat) : inL [(f : Int)] i = decide (f = i) := by
  rw [Bool.eq_iff_iff, inL_iff, decide_eq_true_iff]
  constructor
  · rintro ⟨k, hk, h⟩
    have hk0 : k = 0 := by simpa using hk
    subst hk0
    simp at h
    omega
  · rintro rfl
    exact ⟨0, by simp, by simp⟩
theorem inL_app (l : List Int) (x i : Nat) : inL (l ++ [(x : Int)]) i = (inL l i || decide (x = i)) := by
  rw [Bool.eq_iff_iff, Bool.or_eq_true, inL_iff, inL_iff, decide_eq_true_iff]
  constructor
  · rintro ⟨k, hk, h⟩
    rw [List.length_append] at hk
    by_cases h1 : k < l.length
    · refine .inl ⟨k, h1, ?_⟩
      rw [← h]
      simp [List.getD, List.getElem?_append_left h1]
    · have hk0 : k = l.length := by simp at hk; omega
      subst hk0
      simp [List.getD] at h
      exact .inr (by omega)
  · rintro (⟨k, hk, h⟩ | rfl)
    · exact ⟨k, by rw [List.length_append]; omega, by rw [← h]; simp [List.getD, List.getElem?_append_left hk]⟩
    · exact ⟨l.length, by simp, by simp [List.getD]⟩
/-- the bits of the indices below n that are not in the order -/
def LeftS (n S : Nat) (l : List Int) : Prop := ∀ i, S.testBit i = (decide (i < n) && !inL l i)
theorem leftS_first {n f : Nat} (hf : f < n) : LeftS n ((2 ^ n - 1) ^^^ 2 ^ f) [(f : Int)] := by
  intro i
  rw [Nat.testBit_xor, Nat.testBit_two_pow_sub_one, Nat.testBit_two_pow, inL_one]
  by_cases h : f = i
  · subst h; simp [hf]
  · simp [h]
theorem leftS_next {n S x : Nat} {l : List Int} (h : LeftS n S l) (hx : x < n) (hn : inL l x = false) : LeftS n (S ^^^ 2 ^ x) (l ++ [(x : Int)]) := by
  intro i
  rw [Nat.testBit_xor, h i, Nat.testBit_two_pow, inL_app]
  by_cases e : x = i
  · subst e; simp [hx, hn]
  · simp [e]
theorem leftS_zero {n : Nat} {l : List Int} (h : LeftS n 0 l) {i : Nat} (hi : i < n) : inL l i = true := by
  have := h i
  rw [Nat.zero_testBit] at this
  simp [hi] at this
  exact this
theorem leftS_some {n S : Nat} {l : List Int} (h : LeftS n S l) (hS : S ≠ 0) : ∃ i, i < n ∧ inL l i = false := by
  obtain ⟨i, hi⟩ := Nat.exists_testBit_of_ne_zero hS
  rw [h i] at hi
  simp at hi
  exact ⟨i, hi⟩
/-- an order that is too short lacks an index -/
theorem free_some {l : List Int} {n : Nat} (h0 : 0 < l.length) (h : l.length < n) : ∃ j, j < n ∧ inL l j = false := by
  refine Classical.byContradiction fun hc => ?_
  have hall : ∀ j, j < n → inL l j = true := fun j hj => by
    cases hh : inL l j
    · exact absurd ⟨j, hj, hh⟩ hc
    · rfl
  have hs : ∀ y, y < n → ∃ i, i < n ∧ (fun i => (l.getD (if i < l.length then i else 0) 0).toNat) i = y := by
    intro y hy
    obtain ⟨k, hk, e⟩ := inL_iff.1 (hall y hy)
    refine ⟨k, by omega, ?_⟩
    show (l.getD (if k < l.length then k else 0) 0).toNat = y
    rw [if_pos hk, e, Int.toNat_natCast]
  have h2 := (surj_inj n _ hs).2 l.length 0 (by omega) (by omega) (by
    show (l.getD (if l.length < l.length then l.length else 0) 0).toNat = (l.getD (if 0 < l.length then 0 else 0) 0).toNat
    rw [if_neg (Nat.lt_irrefl _), if_pos h0])
  omega
/-- the nearest of the first i indices that is not in the order, -1: none -/
noncomputable def nxS (C : Nat → Int) (l : List Int) : Nat → Int
  | 0 => -1
  | i + 1 => if inL l i = false ∧ (nxS C l i < 0 ∨ C i < C (nxS C l i).toNat) then (i : Int) else nxS C l i
section
variable {C : Nat → Int} {l : List Int} {i : Nat}
theorem nxS_zero : nxS C l 0 = -1 := rfl
theorem nxS_yes (h : inL l i = false) (h2 : nxS C l i < 0 ∨ C i < C (nxS C l i).toNat) : nxS C l (i + 1) = i := if_pos ⟨h, h2⟩
theorem nxS_in (h : inL l i = true) : nxS C l (i + 1) = nxS C l i := if_neg fun h2 => by rw [h] at h2; cases h2.1
theorem nxS_far (h : ¬ (nxS C l i < 0 ∨ C i < C (nxS C l i).toNat)) : nxS C l (i + 1) = nxS C l i := if_neg fun h2 => h h2.2
theorem nxS_bound (i : Nat) : -1 ≤ nxS C l i ∧ nxS C l i ≤ (i : Int) - 1 := by
  induction i with
  | zero => rw [nxS_zero]; omega
  | succ i ih =>
    by_cases h : inL l i = false ∧ (nxS C l i < 0 ∨ C i < C (nxS C l i).toNat)
    · rw [nxS_yes h.1 h.2]; omega
    · rw [show nxS C l (i + 1) = nxS C l i from if_neg h]; omega
theorem nxS_free (i : Nat) (h : 0 ≤ nxS C l i) : inL l (nxS C l i).toNat = false := by
  induction i with
  | zero => rw [nxS_zero] at h; omega
  | succ i ih =>
    by_cases h2 : inL l i = false ∧ (nxS C l i < 0 ∨ C i < C (nxS C l i).toNat)
    · rw [nxS_yes h2.1 h2.2, Int.toNat_natCast]; exact h2.1
    · have e : nxS C l (i + 1) = nxS C l i := if_neg h2
      rw [e] at h ⊢
      exact ih h
theorem nxS_some (i j : Nat) (hj : j < i) (h : inL l j = false) : 0 ≤ nxS C l i := by
  induction i with
  | zero => omega
  | succ i ih =>
    by_cases h2 : inL l i = false ∧ (nxS C l i < 0 ∨ C i < C (nxS C l i).toNat)
    · rw [nxS_yes h2.1 h2.2]; omega
    · have e : nxS C l (i + 1) = nxS C l i := if_neg h2
      rw [e]
      by_cases hji : j = i
      · subst hji
        rcases Int.lt_or_le (nxS C l j) 0 with h3 | h3
        · exact absurd ⟨h, .inl h3⟩ h2
        · exact h3
      · exact ih (by omega)
end
theorem inL_has (l : List Int) (i : Nat) : hasB (fun k => l.getD k 0) l.length (i : Int) = inL l i := by unfold inL; rfl
attribute [irreducible] nxS inL
/-- the order, when k more have been chosen behind the first -/
noncomputable def nrL (C : Nat → Nat → Int) (n : Nat) (f : Int) : Nat → List Int
  | 0 => [f]
  | k + 1 => nrL C n f k ++ [nxS (C ((nrL C n f k).getD k 0).toNat) (nrL C n f k) n]
section
variable {C : Nat → Nat → Int} {n : Nat} {f : Int}
theorem nrL_zero : nrL C n f 0 = [f] := rfl
theorem nrL_succ (k : Nat) : nrL C n f (k + 1) = nrL C n f k ++ [nxS (C ((nrL C n f k).getD k 0).toNat) (nrL C n f k) n] := rfl
theorem nrL_len (k : Nat) : (nrL C n f k).length = k + 1 := by
  induction k with
  | zero => rfl
  | succ k ih => rw [nrL_succ, List.length_append, ih]; rfl
/-- each further one is an index that was free -/
theorem nrL_next (k : Nat) (hk : k + 1 < n) : ∃ x : Nat, nxS (C ((nrL C n f k).getD k 0).toNat) (nrL C n f k) n = x ∧ x < n ∧ inL (nrL C n f k) x = false := by
  have hl := nrL_len (C := C) (n := n) (f := f) k
  obtain ⟨j, hj, hf⟩ := free_some (l := nrL C n f k) (n := n) (by omega) (by omega)
  have h1 := nxS_some (C := C ((nrL C n f k).getD k 0).toNat) n j hj hf
  have h2 := nxS_bound (C := C ((nrL C n f k).getD k 0).toNat) (l := nrL C n f k) n
  have h3 := nxS_free (C := C ((nrL C n f k).getD k 0).toNat) n h1
  exact ⟨_, (Int.toNat_of_nonneg h1).symm, by omega, h3⟩
theorem nrL_in (hf : 0 ≤ f ∧ f ≤ (n : Int) - 1) (k : Nat) (hk : k < n) : ∀ i, i ≤ k → 0 ≤ (nrL C n f k).getD i 0 ∧ (nrL C n f k).getD i 0 ≤ (n : Int) - 1 := by
  induction k with
  | zero => intro i hi; obtain rfl : i = 0 := by omega
            rw [nrL_zero]; simpa using hf
  | succ k ih =>
    intro i hi
    have hl := nrL_len (C := C) (n := n) (f := f) k
    obtain ⟨x, hx, hxn, _⟩ := nrL_next (C := C) (f := f) k hk
    rw [nrL_succ, hx]
    by_cases h : i ≤ k
    · have := ih (by omega) i h
      simpa [List.getD, List.getElem?_append_left (show i < (nrL C n f k).length by omega)] using this
    · have hi2 : i = (nrL C n f k).length := by omega
      subst hi2
      simp [List.getD]
      omega
theorem nrL_inj (k : Nat) (hk : k < n) : ∀ i j, i ≤ k → j ≤ k → (nrL C n f k).getD i 0 = (nrL C n f k).getD j 0 → i = j := by
  induction k with
  | zero => intro i j hi hj _; omega
  | succ k ih =>
    intro i j hi hj h
    have hl := nrL_len (C := C) (n := n) (f := f) k
    obtain ⟨x, hx, hxn, hfree⟩ := nrL_next (C := C) (f := f) k hk
    rw [nrL_succ, hx] at h
    have old : ∀ q, q ≤ k → (nrL C n f k ++ [(x : Int)]).getD q 0 = (nrL C n f k).getD q 0 := fun q hq => by simp [List.getD, List.getElem?_append_left (show q < (nrL C n f k).length by omega)]
    have new : (nrL C n f k ++ [(x : Int)]).getD (k + 1) 0 = (x : Int) := by
      rw [← hl]; simp [List.getD]
    have apart : ∀ q, q ≤ k → (nrL C n f k).getD q 0 ≠ (x : Int) := fun q hq e => by
      rw [inL_iff.2 ⟨q, by omega, e⟩] at hfree; cases hfree
    by_cases h1 : i ≤ k <;> by_cases h2 : j ≤ k
    · rw [old i h1, old j h2] at h; exact ih (by omega) i j h1 h2 h
    · obtain rfl : j = k + 1 := by omega
      rw [old i h1, new] at h; exact absurd h (apart i h1)
    · obtain rfl : i = k + 1 := by omega
      rw [old j h2, new] at h; exact absurd h.symm (apart j h2)
    · omega
/-- nothing is left exactly when the order is whole -/
theorem left_some {S k : Nat} (hf : 0 ≤ f ∧ f ≤ (n : Int) - 1) (hk : k < n) (h : LeftS n S (nrL C n f k)) (hS : S ≠ 0) : k + 1 < n := by
  obtain ⟨i, hi, hfree⟩ := leftS_some h hS
  have hl := nrL_len (C := C) (n := n) (f := f) k
  rcases Nat.lt_or_ge (k + 1) n with h1 | h1
  · exact h1
  · obtain rfl : n = k + 1 := by omega
    have hin := nrL_in (C := C) (n := k + 1) hf k hk
    obtain ⟨q, hq, e⟩ := inj_surj (k + 1) (fun q => ((nrL C (k + 1) f k).getD q 0).toNat) (fun q hq => by have := hin q (by omega); omega) (fun q r hq hr e => nrL_inj (C := C) (f := f) k hk q r (by omega) (by omega) (by
      have h1 := hin q (by omega); have h2 := hin r (by omega)
      have e' : ((nrL C (k + 1) f k).getD q 0).toNat = ((nrL C (k + 1) f k).getD r 0).toNat := e
      omega)) i hi
    have e' : ((nrL C (k + 1) f k).getD q 0).toNat = i := e
    have h1 := hin q (by omega)
    rw [inL_iff.2 ⟨q, by omega, by omega⟩] at hfree
    cases hfree
theorem left_zero {k : Nat} (hk : k < n) (h : LeftS n 0 (nrL C n f k)) : k + 1 = n := by
  have hl := nrL_len (C := C) (n := n) (f := f) k
  rcases Nat.lt_or_ge (k + 1) n with h1 | h1
  · obtain ⟨j, hj, hfree⟩ := free_some (l := nrL C n f k) (n := n) (by omega) (by omega)
    rw [leftS_zero h hj] at hfree; cases hfree
  · omega
end
attribute [irreducible] nrL
end Go.Proofs.Ytlcfjeofphncgaa
