/- SpareTracks, by the reference and by the program. No conditions. -/
import Derived.Test.YtpfjmoodfodfhaaOwnI
import Derived.Test.YtpfjmoodfodfhaaPins
import Derived.Test.YtpfjmoodfodfhaaLs
import Derived.Test.YtpfjmoodfodfhaaLc
import Derived.Outline
namespace Go.Proofs.Ytpfjmoodfodfhaa
open Go.RowKit
set_option linter.unusedVariables false
set_option linter.unusedSimpArgs false

/-- how many of the first j places are pins of the track i -/
def btN (D : Nat → Nat) (n : Nat) : Nat → Nat → Int
  | 0, _ => 0
  | j + 1, i => if hasPin D (j / n) (j % n) = true ∧ j % n = i then btN D n j i + 1 else btN D n j i
theorem btN_zero (D : Nat → Nat) (n i : Nat) : btN D n 0 i = 0 := rfl
theorem btN_yes {D : Nat → Nat} {n k t : Nat} (ht : t < n) (h : hasPin D k t = true) : btN D n (k * n + t + 1) t = btN D n (k * n + t) t + 1 := by
  have e : btN D n (k * n + t + 1) t = if hasPin D ((k * n + t) / n) ((k * n + t) % n) = true ∧ (k * n + t) % n = t then btN D n (k * n + t) t + 1 else btN D n (k * n + t) t := rfl
  rw [e, (place_div ht).1, (place_div ht).2, if_pos ⟨h, rfl⟩]
theorem btN_skip {D : Nat → Nat} {n k t i : Nat} (ht : t < n) (h : hasPin D k t = false ∨ i ≠ t) : btN D n (k * n + t + 1) i = btN D n (k * n + t) i := by
  have e : btN D n (k * n + t + 1) i = if hasPin D ((k * n + t) / n) ((k * n + t) % n) = true ∧ (k * n + t) % n = i then btN D n (k * n + t) i + 1 else btN D n (k * n + t) i := rfl
  rw [e, (place_div ht).1, (place_div ht).2, if_neg]
  rintro ⟨h1, h2⟩
  rcases h with h | h
  · rw [h] at h1; cases h1
  · exact h h2.symm
theorem btN_bound (D : Nat → Nat) (n j i : Nat) : 0 ≤ btN D n j i ∧ btN D n j i ≤ j := by
  induction j with
  | zero => rw [btN_zero]; omega
  | succ j ih =>
    have e : btN D n (j + 1) i = if hasPin D (j / n) (j % n) = true ∧ j % n = i then btN D n j i + 1 else btN D n j i := rfl
    rw [e]
    split <;> omega
attribute [irreducible] btN
/-- a track has a pin -/
def usesT (D : Nat → Nat) (t : Nat) : Bool := anyB (fun k => hasPin D k t) 96
theorem usesT_iff {D : Nat → Nat} {t : Nat} : usesT D t = true ↔ ∃ k, k < 96 ∧ hasPin D k t = true := anyB_iff
theorem btN_pos {D : Nat → Nat} {n : Nat} {i : Nat} (hi : i < n) : ∀ s, 0 < btN D n (s * n) i ↔ ∃ k, k < s ∧ hasPin D k i = true := by
  have row : ∀ k t, t ≤ n → btN D n (k * n + t) i = btN D n (k * n) i + (if i < t ∧ hasPin D k i = true then 1 else 0) := by
    intro k t
    induction t with
    | zero => intro _; simp
    | succ t ih =>
      intro ht
      rw [← Nat.add_assoc]
      by_cases e : i = t
      · subst e
        cases h : hasPin D k i
        · rw [btN_skip (by omega) (.inl h), ih (by omega), if_neg (by simp [h]), if_neg (by simp)]
        · rw [btN_yes (by omega) h, ih (by omega), if_neg (by omega), if_pos ⟨by omega, rfl⟩]; omega
      · rw [btN_skip (by omega) (.inr e), ih (by omega)]
        by_cases h2 : i < t
        · by_cases h3 : hasPin D k i = true
          · rw [if_pos ⟨h2, h3⟩, if_pos ⟨by omega, h3⟩]
          · rw [if_neg (fun h => h3 h.2), if_neg (fun h => h3 h.2)]
        · rw [if_neg (fun h => h2 h.1), if_neg (fun h => by omega)]
  intro s
  induction s with
  | zero => rw [Nat.zero_mul, btN_zero]; constructor
            · intro h; omega
            · rintro ⟨k, hk, _⟩; omega
  | succ s ih =>
    rw [Nat.add_mul, Nat.one_mul, row s n (Nat.le_refl _)]
    have hb := btN_bound D n (s * n) i
    constructor
    · intro h
      by_cases h2 : hasPin D s i = true
      · exact ⟨s, by omega, h2⟩
      · rw [if_neg (fun h => h2 h.2)] at h
        obtain ⟨k, hk, hp⟩ := ih.1 (by omega)
        exact ⟨k, by omega, hp⟩
    · rintro ⟨k, hk, hp⟩
      by_cases e : k = s
      · subst e; rw [if_pos ⟨hi, hp⟩]; omega
      · have := ih.2 ⟨k, by omega, hp⟩
        split <;> omega
/-- the tracks without pins, of the first k -/
def spL (D : Nat → Nat) : Nat → List Int
  | 0 => []
  | k + 1 => if usesT D k then spL D k else spL D k ++ [(k : Int)]
theorem spL_zero (D : Nat → Nat) : spL D 0 = [] := rfl
theorem spL_used {D : Nat → Nat} {k : Nat} (h : usesT D k = true) : spL D (k + 1) = spL D k := by
  show (if usesT D k then spL D k else spL D k ++ [(k : Int)]) = _; rw [h]; rfl
theorem spL_spare {D : Nat → Nat} {k : Nat} (h : usesT D k = false) : spL D (k + 1) = spL D k ++ [(k : Int)] := by
  show (if usesT D k then spL D k else spL D k ++ [(k : Int)]) = _; rw [h]; rfl
theorem spL_len (D : Nat → Nat) (k : Nat) : (spL D k).length ≤ k := by
  induction k with
  | zero => simp [spL]
  | succ k ih =>
    cases h : usesT D k
    · rw [spL_spare h]; simp; omega
    · rw [spL_used h]; omega
attribute [irreducible] usesT spL
noncomputable def stV' (s : Int) (n : Nat) (P R : Nat → Int) (D : Nat → Nat) : List Int := if okAll s n P R 1 (fun _ => D) then spL D n else []
theorem stV'_yes {s : Int} {n : Nat} {P R : Nat → Int} {D : Nat → Nat} (h : okAll s n P R 1 (fun _ => D) = true) : stV' s n P R D = spL D n := by unfold stV'; rw [h]; rfl
theorem stV'_no {s : Int} {n : Nat} {P R : Nat → Int} {D : Nat → Nat} (h : okAll s n P R 1 (fun _ => D) = false) : stV' s n P R D = [] := by unfold stV'; rw [h]; rfl
theorem stV'_len {s : Int} {n : Nat} {P R : Nat → Int} {D : Nat → Nat} : (stV' s n P R D).length ≤ 1000000 := by
  cases h : okAll s n P R 1 (fun _ => D)
  · rw [stV'_no h]; simp
  · rw [stV'_yes h]
    have h1 := spL_len D n
    have h2 := (vFrame_iff.1 (okAll_iff.1 h).1).2.1
    omega
attribute [irreducible] stV'
set_option maxRecDepth 100000 in
theorem l03Bit_any (t : Nat) (w : World) (ht : t < 24) :
    Calls Try.prog 132 #[.int .i64 (t : Int)] w fun e w' => e = .returned (.int .u32 ((2 ^ t : Nat) : Int)) ∧ w = w' := by
  have hw1 := u64_nat t (by omega)
  have hw2 : min t 32 = t := by omega
  obtain ⟨b, hb⟩ : ∃ b, b = 2 ^ t := ⟨_, rfl⟩
  have hp := wrap_pow ht hb
  rw [← hb]
  clear hb
  go_enter Try.func132, Try.ntmps132
  go_wp2
  go_ret
  exact ⟨rfl, rfl⟩
theorem and_bit {x t : Nat} (hx : x < 4294967296) (ht : t < 24) : (bits .and .u32 (x : Int) ((2 ^ t : Nat) : Int) != 0) = decide (x / 2 ^ t % 2 = 1) := by
  have hp := pow24 ht
  have hlt : 2 ^ t < 4294967296 := by omega
  have hpos := Nat.two_pow_pos t
  rw [bits_and_u32 hx hlt, ← Nat.testBit_eq_decide_div_mod_eq]
  have e : x &&& 2 ^ t = if x.testBit t = true then 2 ^ t else 0 := by
    apply Nat.eq_of_testBit_eq
    intro i
    rw [Nat.testBit_and, Nat.testBit_two_pow]
    by_cases h : t = i
    · subst h
      cases x.testBit t <;> simp [Nat.testBit_two_pow]
    · cases x.testBit t <;> simp [h, Nat.testBit_two_pow]
  rw [e]
  generalize 2 ^ t = b at hpos
  cases x.testBit t
  · rfl
  · have hb : ¬ ((b : Int) = 0) := by omega
    simp [hb]
    omega
end Go.Proofs.Ytpfjmoodfodfhaa
