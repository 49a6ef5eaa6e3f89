/- Pins are listed; the moves between two drums. No conditions. -/
import Derived.Test.YtfefclngfeihiaaOwnP
import Derived.Test.YtfefclngfeihiaaOwnG
import Derived.Test.YtfefclngfeihiaaCost
import Derived.Test.YtfefclngfeihiaaCC
import Derived.Outline
namespace Go.Proofs.Ytfefclngfeihiaa
open Go.RowKit
set_option linter.unusedVariables false
set_option linter.unusedSimpArgs false

/-- the places of which p holds, of the first j ones (by the step, then by the track; n tracks) -/
def plL (p : Nat → Nat → Bool) (n : Nat) : Nat → List (Int × Int)
  | 0 => []
  | j + 1 => if p (j / n) (j % n) then plL p n j ++ [(((j / n : Nat) : Int), ((j % n : Nat) : Int))] else plL p n j
theorem plL_zero (p : Nat → Nat → Bool) (n : Nat) : plL p n 0 = [] := rfl
theorem plL_yes {p : Nat → Nat → Bool} {n k t : Nat} (ht : t < n) (h : p k t = true) : plL p n (k * n + t + 1) = plL p n (k * n + t) ++ [((k : Int), (t : Int))] := by
  have e : plL p n (k * n + t + 1) = if p ((k * n + t) / n) ((k * n + t) % n) then plL p n (k * n + t) ++ [((((k * n + t) / n : Nat) : Int), (((k * n + t) % n : Nat) : Int))] else plL p n (k * n + t) := rfl
  rw [e, (place_div ht).1, (place_div ht).2, h]
  rfl
theorem plL_no {p : Nat → Nat → Bool} {n k t : Nat} (ht : t < n) (h : p k t = false) : plL p n (k * n + t + 1) = plL p n (k * n + t) := by
  have e : plL p n (k * n + t + 1) = if p ((k * n + t) / n) ((k * n + t) % n) then plL p n (k * n + t) ++ [((((k * n + t) / n : Nat) : Int), (((k * n + t) % n : Nat) : Int))] else plL p n (k * n + t) := rfl
  rw [e, (place_div ht).1, (place_div ht).2, h]
  rfl
theorem plL_len (p : Nat → Nat → Bool) (n j : Nat) : (plL p n j).length ≤ j := by
  induction j with
  | zero => simp [plL]
  | succ j ih =>
    rw [plL]
    split
    · simp; omega
    · omega
theorem plL_congr {p q : Nat → Nat → Bool} {n : Nat} : ∀ j, (∀ i, i < j → p (i / n) (i % n) = q (i / n) (i % n)) → plL p n j = plL q n j := by
  intro j
  induction j with
  | zero => intro _; rfl
  | succ j ih =>
    intro h
    have e1 : plL p n (j + 1) = if p (j / n) (j % n) then plL p n j ++ [(((j / n : Nat) : Int), ((j % n : Nat) : Int))] else plL p n j := rfl
    have e2 : plL q n (j + 1) = if q (j / n) (j % n) then plL q n j ++ [(((j / n : Nat) : Int), ((j % n : Nat) : Int))] else plL q n j := rfl
    rw [e1, e2, ih fun i hi => h i (by omega), h j (by omega)]
theorem place_lt {s n k t : Nat} (hk : k < s) (ht : t < n) : k * n + t < s * n := by
  have := Nat.mul_le_mul_right n (show k + 1 ≤ s by omega)
  rw [Nat.add_mul, Nat.one_mul] at this
  omega
theorem place_bound {s n : Nat} (hs : s ≤ 96) (hn : n ≤ 24) : s * n ≤ 2304 := Nat.mul_le_mul hs hn
attribute [irreducible] plL
theorem hasPin_less (D E : Nat → Nat) (k t : Nat) : hasPin (lessD D E) k t = (hasPin D k t && !hasPin E k t) := by
  unfold hasPin lessD
  exact andn_testBit _ _ _
theorem hasPin_valid {s : Int} {n : Nat} {D : Nat → Nat} (h : vDrum s n D = true) (hs : 2 ≤ s ∧ s ≤ 96) : (∀ k t, k < 96 → n ≤ t → hasPin D k t = false) ∧ ∀ k t, k < 96 → s.toNat ≤ k → hasPin D k t = false := by
  have hv := vDrum_iff.1 h
  constructor
  · intro k t hk ht
    rw [hasPin_mod]
    have h1 : D k < 2 ^ n := by
      have := (hv k hk).1
      rcases Nat.lt_or_ge (D k) (2 ^ n) with h2 | h2
      · exact h2
      · have := Nat.div_pos h2 (Nat.two_pow_pos n); omega
    have h3 : D k / 2 ^ t = 0 := Nat.div_eq_of_lt (Nat.lt_of_lt_of_le h1 (Nat.pow_le_pow_right (by omega) ht))
    rw [h3]; rfl
  · intro k t hk hks
    rw [hasPin_mod, (hv k hk).2 (by omega), Nat.zero_div]; rfl
/-- two drums as a list -/
def twoL (A B : Nat → Nat) : Nat → Nat → Nat := fun i => if i = 0 then A else B
def ok2 (s : Int) (n : Nat) (P R : Nat → Int) (A B : Nat → Nat) : Bool := okAll s n P R 2 (twoL A B)
theorem ok2_def (s : Int) (n : Nat) (P R : Nat → Int) (A B : Nat → Nat) : ok2 s n P R A B = okAll s n P R 2 (twoL A B) := rfl
theorem ok2_iff {s : Int} {n : Nat} {P R : Nat → Int} {A B : Nat → Nat} : ok2 s n P R A B = true ↔ vFrame s n P R = true ∧ vDrum s n A = true ∧ vDrum s n B = true := by
  rw [ok2_def, okAll_iff]
  constructor
  · rintro ⟨h1, h2⟩; exact ⟨h1, h2 0 (by omega), h2 1 (by omega)⟩
  · rintro ⟨h1, h2, h3⟩
    exact ⟨h1, fun i hi => by
      obtain rfl | rfl : i = 0 ∨ i = 1 := by omega
      · exact h2
      · exact h3⟩
theorem ok2_no {s : Int} {n : Nat} {P R : Nat → Int} {A B : Nat → Nat} (h : ¬ (vFrame s n P R = true ∧ vDrum s n A = true ∧ vDrum s n B = true)) : ok2 s n P R A B = false := by
  rw [← Bool.not_eq_true, ok2_iff]; exact h
attribute [irreducible] ok2
def mbV (s : Int) (n : Nat) (P R : Nat → Int) (A B : Nat → Nat) (C : Nat → Nat) : List (Int × Int) := if ok2 s n P R A B then plL (hasPin C) n (s.toNat * n) else []
theorem mbV_yes {s : Int} {n : Nat} {P R : Nat → Int} {A B C : Nat → Nat} (h : ok2 s n P R A B = true) : mbV s n P R A B C = plL (hasPin C) n (s.toNat * n) := by unfold mbV; rw [h]; rfl
theorem mbV_no {s : Int} {n : Nat} {P R : Nat → Int} {A B C : Nat → Nat} (h : ok2 s n P R A B = false) : mbV s n P R A B C = [] := by unfold mbV; rw [h]; rfl
theorem mbV_len {s : Int} {n : Nat} {P R : Nat → Int} {A B C : Nat → Nat} : (mbV s n P R A B C).length ≤ 1000000 := by
  cases h : ok2 s n P R A B
  · rw [mbV_no h]; simp
  · rw [mbV_yes h]
    have h1 := plL_len (hasPin C) n (s.toNat * n)
    obtain ⟨hS, hN, _⟩ := vFrame_iff.1 (ok2_iff.1 h).1
    have h2 := place_bound (s := s.toNat) (n := n) (by omega) (by omega)
    omega
attribute [irreducible] mbV
end Go.Proofs.Ytfefclngfeihiaa
