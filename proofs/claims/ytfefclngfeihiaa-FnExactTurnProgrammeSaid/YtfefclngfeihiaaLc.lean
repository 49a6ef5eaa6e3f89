/- The codes of a frame and a list of drums, by the reference and by the program. No conditions. -/
import Derived.Test.YtfefclngfeihiaaDl
import Derived.Outline
namespace Go.Proofs.Ytfefclngfeihiaa
open Go.RowKit
set_option linter.unusedVariables false
set_option linter.unusedSimpArgs false

/-- the first number of a list that is not 0, 0 if there is none -/
def firstL : List Int → Int
  | [] => 0
  | x :: l => if x = 0 then firstL l else x
theorem firstL_nil : firstL [] = 0 := rfl
theorem firstL_zero {x : Int} (l : List Int) (h : x = 0) : firstL (x :: l) = firstL l := if_pos h
theorem firstL_at {x : Int} (l : List Int) (h : ¬ x = 0) : firstL (x :: l) = x := if_neg h
attribute [irreducible] firstL
/-- the code of a frame and m drums -/
def lcode (ok : Bool) (m : Nat) : Int := if ok then (if m ≤ 8 then 0 else 3) else 1
theorem lcode_false (m : Nat) : lcode false m = 1 := rfl
theorem lcode_few {m : Nat} (h : m ≤ 8) : lcode true m = 0 := by simp [lcode, h]
theorem lcode_many {m : Nat} (h : ¬ m ≤ 8) : lcode true m = 3 := by simp [lcode, h]
theorem lcode_zero {ok : Bool} {m : Nat} (h : lcode ok m = 0) : ok = true ∧ m ≤ 8 := by
  cases ok
  · simp [lcode] at h
  · by_cases hm : m ≤ 8
    · exact ⟨rfl, hm⟩
    · simp [lcode, hm] at h
attribute [irreducible] lcode
theorem firstL_lcode (ok : Bool) (m : Nat) : firstL [unl ok 1, unl (decide ((m : Int) ≤ 8)) 3] = lcode ok m := by
  cases ok
  · rw [firstL_at _ (by rw [unl_false]; simp), unl_false, lcode_false]
  · rw [firstL_zero _ (unl_true 1)]
    by_cases h : m ≤ 8
    · rw [decide_eq_true (by omega), firstL_zero _ (unl_true 3), firstL_nil, lcode_few h]
    · rw [decide_eq_false (by omega), firstL_at _ (by rw [unl_false]; simp), unl_false, lcode_many h]
/-- the same, of a list that must not be empty, and a first one -/
def scode (ok : Bool) (m : Nat) (f : Int) : Int := if lcode ok m = 0 then (if -1 ≤ f ∧ f ≤ (m : Int) - 1 then (if m = 0 then 6 else 0) else 2) else lcode ok m
theorem scode_bad {ok : Bool} {m : Nat} (f : Int) (h : ¬ lcode ok m = 0) : scode ok m f = lcode ok m := if_neg h
theorem scode_range {ok : Bool} {m : Nat} (f : Int) (h : lcode ok m = 0) (h1 : ¬ (-1 ≤ f ∧ f ≤ (m : Int) - 1)) : scode ok m f = 2 := by unfold scode; rw [if_pos h, if_neg h1]
theorem scode_none {ok : Bool} {m : Nat} (f : Int) (h : lcode ok m = 0) (h1 : -1 ≤ f ∧ f ≤ (m : Int) - 1) (h2 : m = 0) : scode ok m f = 6 := by unfold scode; rw [if_pos h, if_pos h1, if_pos h2]
theorem scode_ok {ok : Bool} {m : Nat} (f : Int) (h : lcode ok m = 0) (h1 : -1 ≤ f ∧ f ≤ (m : Int) - 1) (h2 : ¬ m = 0) : scode ok m f = 0 := by unfold scode; rw [if_pos h, if_pos h1, if_neg h2]
theorem scode_zero {ok : Bool} {m : Nat} {f : Int} (h : scode ok m f = 0) : (ok = true ∧ m ≤ 8) ∧ (-1 ≤ f ∧ f ≤ (m : Int) - 1) ∧ 0 < m := by
  by_cases h0 : lcode ok m = 0
  · refine ⟨lcode_zero h0, ?_⟩
    by_cases h1 : -1 ≤ f ∧ f ≤ (m : Int) - 1
    · by_cases h2 : m = 0
      · rw [scode_none f h0 h1 h2] at h; simp at h
      · exact ⟨h1, by omega⟩
    · rw [scode_range f h0 h1] at h; simp at h
  · rw [scode_bad f h0] at h; exact absurd h h0
attribute [irreducible] scode
end Go.Proofs.Ytfefclngfeihiaa
