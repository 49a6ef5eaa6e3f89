/- StepsTo, by the reference and by the program. No conditions. -/
import Derived.Test.YtfefclngfeihiaaPc
import Derived.Outline
namespace Go.Proofs.Ytfefclngfeihiaa
open Go.RowKit
set_option linter.unusedVariables false
set_option linter.unusedSimpArgs false

theorem vProg_facts {s : Int} {n : Nat} {P R : Nat → Int} {m : Nat} {F S O : Nat → Int} (h : vProg s n P R m F S O = true) : (2 ≤ s ∧ s ≤ 96) ∧ m ≤ 12 ∧ (∀ k, k < m → 0 ≤ F k ∧ F k < s ∧ 1 ≤ S k ∧ F k + S k ≤ s) ∧ ∀ k, k < 48 → -1 ≤ O k ∧ O k ≤ (m : Int) - 1 := by
  obtain ⟨h1, h2, h3⟩ := vProg_iff.1 h
  obtain ⟨h4, h5⟩ := vSecs_iff.1 h2
  have hp : ∀ k, k < m → 0 ≤ F k := by
    intro k
    induction k with
    | zero => intro hk; have := (h5 0 hk).1; rw [endTo_zero] at this; exact this
    | succ k ih => intro hk; have := (h5 (k + 1) hk).1; rw [endTo_succ] at this; have := ih (by omega); have := (h5 k (by omega)).2.2.1; omega
  exact ⟨(vFrame_iff.1 h1).1, h4, fun k hk => ⟨hp k hk, (h5 k hk).2⟩, vOrd_iff.1 h3⟩
/-- how far the drum turns from a step to another -/
def stT (s f t : Int) : Int := (f - t + s) % s
theorem stT_def (s f t : Int) : stT s f t = (f - t + s) % s := rfl
theorem stT_bound {s f t : Int} (h : 0 < s) : 0 ≤ stT s f t ∧ stT s f t < s := ⟨Int.emod_nonneg _ (by omega), Int.emod_lt_of_pos _ h⟩
theorem stT_tmod {s f t : Int} (h : 0 ≤ f - t + s) : (f - t + s).tmod s = stT s f t := Int.tmod_eq_emod_of_nonneg h
attribute [irreducible] stT
def stCode (s : Int) (n : Nat) (P R : Nat → Int) (m : Nat) (F S O : Nat → Int) (t x : Int) : Int := pcode (vProg s n P R m F S O) (inB t 0 (s - 1) && inB x 0 ((m : Int) - 1))
def stVal (s : Int) (n : Nat) (P R : Nat → Int) (m : Nat) (F S O : Nat → Int) (t x : Int) : Int := if stCode s n P R m F S O t x = 0 then stT s (F x.toNat) t else 0
theorem stVal_no {s : Int} {n : Nat} {P R : Nat → Int} {m : Nat} {F S O : Nat → Int} {t x : Int} (h : ¬ stCode s n P R m F S O t x = 0) : stVal s n P R m F S O t x = 0 := if_neg h
theorem stVal_yes {s : Int} {n : Nat} {P R : Nat → Int} {m : Nat} {F S O : Nat → Int} {t x : Int} (h : stCode s n P R m F S O t x = 0) : stVal s n P R m F S O t x = stT s (F x.toNat) t := if_pos h
theorem stCode_def (s : Int) (n : Nat) (P R : Nat → Int) (m : Nat) (F S O : Nat → Int) (t x : Int) : stCode s n P R m F S O t x = pcode (vProg s n P R m F S O) (inB t 0 (s - 1) && inB x 0 ((m : Int) - 1)) := rfl
attribute [irreducible] stCode stVal

end Go.Proofs.Ytfefclngfeihiaa
