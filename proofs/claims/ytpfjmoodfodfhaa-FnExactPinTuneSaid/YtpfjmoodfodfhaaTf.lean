/- What is known of a frame and a tune whose code is 0. No conditions. -/
import Derived.Test.YtpfjmoodfodfhaaTu
namespace Go.Proofs.Ytpfjmoodfodfhaa
open Go.RowKit
set_option linter.unusedVariables false

theorem bef_mono {l : Nat} {A B : Nat → Int} (h : ∀ i, i + 1 < l → befB (A i) (B i) (A (i + 1)) (B (i + 1)) = true) (d : Nat) : ∀ i, i + d < l → A i ≤ A (i + d) := by
  induction d with
  | zero => intro i _; exact Int.le_refl _
  | succ d ih =>
    intro i hi
    have h1 := ih i (by omega)
    have h2 := befB_iff.1 (h (i + d) (by omega))
    have e : i + (d + 1) = i + d + 1 := by omega
    rw [e]
    omega
/-- what is known of a frame and a tune whose code is 0 -/
theorem to_facts {s x : Int} {n l : Nat} {P R A B : Nat → Int} {ok : Bool} (h : toC ok (vTune l A B) s (tLen l A) x = 0) (hok : ok = true → vFrame s n P R = true) :
    (2 ≤ s ∧ s ≤ 96) ∧ (1 ≤ n ∧ n ≤ 24) ∧ (∀ t, t < n → (0 ≤ P t ∧ P t ≤ 47) ∧ 1 ≤ R t ∧ R t ≤ s ∧ R t ≤ 20) ∧ l ≤ 120 ∧ (∀ i, i < l → 0 ≤ A i ∧ A i < s) ∧ (∀ i, i < l → 0 ≤ B i ∧ B i ≤ 47) ∧ 0 ≤ x ∧ x ≤ 20000 := by
  obtain ⟨h1, h2, h3, h4⟩ := toC_zero h
  obtain ⟨hs, hn, hh⟩ := vFrame_iff.1 (hok h1)
  obtain ⟨hl, hin, hbef⟩ := vTune_facts h2
  refine ⟨hs, hn, fun t ht => ?_, hl, fun i hi => ⟨(hin i hi).1.1, ?_⟩, fun i hi => (hin i hi).2, h4⟩
  · have := hamOK_iff.1 (hh t ht)
    have h5 := mn_le 20 s
    omega
  · rw [tLen_pos A (by omega)] at h3
    have := bef_mono hbef (l - 1 - i) i (by omega)
    rw [show i + (l - 1 - i) = l - 1 by omega] at this
    omega
end Go.Proofs.Ytpfjmoodfodfhaa
