/- Contracts of the smallest functions: bounds, least numbers, codes. No conditions. -/
import Derived.Test.YtlcfjeofphncgaaBase
namespace Go.Proofs.Ytlcfjeofphncgaa
open Go.RowKit
set_option linter.unusedVariables false
set_option linter.unusedSimpArgs false

/-- n lies in lo..hi -/
def inB (n lo hi : Int) : Bool := decide (lo ≤ n ∧ n ≤ hi)
theorem inB_iff {n lo hi : Int} : inB n lo hi = true ↔ lo ≤ n ∧ n ≤ hi := by simp [inB]
theorem inB_true {n lo hi : Int} (h : lo ≤ n ∧ n ≤ hi) : inB n lo hi = true := inB_iff.2 h
theorem inB_false {n lo hi : Int} (h : ¬ (lo ≤ n ∧ n ≤ hi)) : inB n lo hi = false := by
  rw [← Bool.not_eq_true, inB_iff]; exact h
theorem inB_def (n lo hi : Int) : inB n lo hi = decide (lo ≤ n ∧ n ≤ hi) := rfl
attribute [irreducible] inB

theorem within_any (n lo hi : Int) (w : World) :
    Calls Try.prog 60 #[.int .i64 n, .int .i64 lo, .int .i64 hi] w fun e w' => e = .returned (.bool (inB n lo hi)) ∧ w = w' := by
  go_enter Try.func60, Try.ntmps60
  go_wp2
  all_goals go_ret
  all_goals exact ⟨ret_bool (by rw [inB_def]; simp; try omega), rfl⟩
theorem l00In_any (n lo hi : Int) (w : World) :
    Calls Try.prog 65 #[.int .i64 n, .int .i64 lo, .int .i64 hi] w fun e w' => e = .returned (.bool (inB n lo hi)) ∧ w = w' := by
  go_enter Try.func65, Try.ntmps65
  go_wp2
  all_goals go_ret
  all_goals exact ⟨ret_bool (by rw [inB_def]; simp; try omega), rfl⟩
theorem isPitch_any (n : Int) (w : World) :
    Calls Try.prog 95 #[.int .i64 n] w fun e w' => e = .returned (.bool (inB n 0 47)) ∧ w = w' := by
  go_enter Try.func95, Try.ntmps95
  go_wp2_with (go_at_call 60; refine (within_any _ _ _ _).mono ?_; rintro e w' ⟨rfl, rfl⟩)
  go_ret
  exact ⟨rfl, rfl⟩
/-- the smaller one -/
def mn (a b : Int) : Int := if a < b then a else b
theorem mn_def (a b : Int) : mn a b = if a < b then a else b := rfl
theorem mn_le (a b : Int) : mn a b ≤ a ∧ mn a b ≤ b := by unfold mn; split <;> omega
theorem mn_eq_min (a b : Int) : mn a b = min a b := by unfold mn; split <;> omega
attribute [irreducible] mn
theorem l00Min_any (a b : Int) (w : World) :
    Calls Try.prog 88 #[.int .i64 a, .int .i64 b] w fun e w' => e = .returned (.int .i64 (mn a b)) ∧ w = w' := by
  go_enter Try.func88, Try.ntmps88
  go_wp2
  all_goals go_ret
  all_goals exact ⟨ret_int (by rw [mn_def]; split <;> omega), rfl⟩
/-- OK if something is so, and a code otherwise -/
def unl (b : Bool) (c : Int) : Int := if b then 0 else c
theorem unl_true (c : Int) : unl true c = 0 := rfl
theorem unl_false (c : Int) : unl false c = c := rfl
attribute [irreducible] unl
/-- x if something is so, and 0 otherwise -/
def sel (b : Bool) (x : Int) : Int := if b then x else 0
theorem sel_true (x : Int) : sel true x = x := rfl
theorem sel_false (x : Int) : sel false x = 0 := rfl
attribute [irreducible] sel
theorem unless_any (b : Bool) (c : Int) (w : World) :
    Calls Try.prog 54 #[.bool b, .int .i64 c] w fun e w' => e = .returned (.int .i64 (unl b c)) ∧ w = w' := by
  cases b
  all_goals
    go_enter Try.func54, Try.ntmps54
    go_wp2
    go_ret
    exact ⟨ret_int (by first | rw [unl_true] | rw [unl_false]), rfl⟩
theorem sizeHammer_any (a : Option Addr) (n c : Nat) (w : World) (hn : n ≤ 9223372036854775807) :
    Calls Try.prog 90 #[.slice a n c] w fun e w' => e = .returned (.int .i64 n) ∧ w = w' := by
  go_enter Try.func90, Try.ntmps90
  go_wp2
  go_ret
  exact ⟨rfl, rfl⟩
theorem sizeSection_any (a : Option Addr) (n c : Nat) (w : World) (hn : n ≤ 9223372036854775807) :
    Calls Try.prog 82 #[.slice a n c] w fun e w' => e = .returned (.int .i64 n) ∧ w = w' := by
  go_enter Try.func82, Try.ntmps82
  go_wp2
  go_ret
  exact ⟨rfl, rfl⟩
theorem sizeDrum_any (a : Option Addr) (n c : Nat) (w : World) (hn : n ≤ 9223372036854775807) :
    Calls Try.prog 43 #[.slice a n c] w fun e w' => e = .returned (.int .i64 n) ∧ w = w' := by
  go_enter Try.func43, Try.ntmps43
  go_wp2
  go_ret
  exact ⟨rfl, rfl⟩
end Go.Proofs.Ytlcfjeofphncgaa
