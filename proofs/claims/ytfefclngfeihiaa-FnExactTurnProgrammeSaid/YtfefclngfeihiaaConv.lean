/- The statements' own conversions of frames and drums: sizes, copies, equality. No conditions. -/
import Derived.Test.YtfefclngfeihiaaDrum
import Derived.Outline
namespace Go.Proofs.Ytfefclngfeihiaa
open Go.RowKit
set_option linter.unusedVariables false
set_option linter.unusedSimpArgs false

theorem toHammer_any (p r : Int) (w : World) :
    Calls Try.prog 36 #[.agg #[.int .i8 p, .int .i8 r]] w fun e w' => e = .returned (.agg #[.int .i8 p, .int .i8 r]) ∧ Below w.heap.size w w' := by
  go_enter Try.func36, Try.ntmps36
  go_wp2
  refine bodyPost_ret (v := .agg #[.int .i8 p, .int .i8 r]) (by simp [results, Try.results36, go_sem]) rfl ⟨rfl, ?_⟩
  exact (((Below.refl _ _).alloc (Nat.le_refl _) _).alloc (by simp) _).alloc (by simp; omega) _
/-- what is left of l when n is taken, -1 if that is too much -/
def szOf (l n : Int) : Int := if l < n then -1 else l - n
theorem szOf_lt {l n : Int} (h : l < n) : szOf l n = -1 := by unfold szOf; rw [if_pos h]
theorem szOf_ge {l n : Int} (h : n ≤ l) : szOf l n = l - n := by unfold szOf; rw [if_neg (by omega)]
attribute [irreducible] szOf
theorem szHammerS_any (a : Option Addr) (n c : Nat) (l : Int) (w : World) (hn : n ≤ 9223372036854775807) (hl : 0 ≤ l ∧ l ≤ 1048576) :
    Calls Try.prog 15 #[.slice a n c, .int .i64 l] w fun e w' => e = .returned (.int .i64 (szOf l n)) ∧ w = w' := by
  by_cases h : l < n
  · go_enter Try.func15, Try.ntmps15
    go_wp2
    go_ret
    exact ⟨ret_int (by rw [szOf_lt h]), rfl⟩
  · go_enter Try.func15, Try.ntmps15
    go_wp2
    go_ret
    exact ⟨ret_int (by rw [szOf_ge (by omega)]), rfl⟩
theorem szFrame_any (s : Int) (a : Option Addr) (n c : Nat) (l : Int) (w : World) (hn : n ≤ 9223372036854775807) (hl : 0 ≤ l ∧ l ≤ 1048576) :
    Calls Try.prog 4 #[.agg #[.int .i16 s, .slice a n c], .int .i64 l] w fun e w' => e = .returned (.int .i64 (szOf l n)) ∧ Below w.heap.size w w' := by
  by_cases h : l < n
  · go_enter Try.func4, Try.ntmps4
    go_wp2_with (go_at_call 15; refine (szHammerS_any a n c l _ hn hl).mono ?_; rw [szOf_lt h]; rintro e w' ⟨rfl, rfl⟩)
    go_ret
    exact ⟨ret_int (by rw [szOf_lt h]), (Below.refl _ _).alloc (Nat.le_refl _) _⟩
  · go_enter Try.func4, Try.ntmps4
    go_wp2_with (go_at_call 15; refine (szHammerS_any a n c l _ hn hl).mono ?_; rw [szOf_ge (by omega)]; rintro e w' ⟨rfl, rfl⟩)
    go_ret
    exact ⟨ret_int (by rw [szOf_ge (by omega)]), (Below.refl _ _).alloc (Nat.le_refl _) _⟩
end Go.Proofs.Ytfefclngfeihiaa
