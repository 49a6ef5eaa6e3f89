/- How many pins are needed for a list of drums, by the reference and by the program. No conditions. -/
import Derived.Test.YtpfjmoodfodfhaaLc
import Derived.Test.YtpfjmoodfodfhaaNew
import Derived.Test.YtpfjmoodfodfhaaCost
import Derived.Outline
namespace Go.Proofs.Ytpfjmoodfodfhaa
open Go.RowKit
set_option linter.unusedVariables false
set_option linter.unusedSimpArgs false

/-- the greater one -/
def mxN (a b : Nat) : Nat := if a < b then b else a
theorem mxN_lt {a b : Nat} (h : a < b) : mxN a b = b := if_pos h
theorem mxN_ge {a b : Nat} (h : ¬ a < b) : mxN a b = a := if_neg h
theorem mxN_le {a b M : Nat} (ha : a ≤ M) (hb : b ≤ M) : mxN a b ≤ M := by unfold mxN; split <;> assumption
theorem mxN_max (a b : Nat) : mxN a b = max a b := by unfold mxN; split <;> omega
attribute [irreducible] mxN
/-- the most pins that one of the first i drums has -/
def mostTo (L : Nat → Nat → Nat) : Nat → Nat
  | 0 => 0
  | i + 1 => mxN (mostTo L i) (cnt (L i))
theorem mostTo_zero (L : Nat → Nat → Nat) : mostTo L 0 = 0 := rfl
theorem mostTo_succ (L : Nat → Nat → Nat) (i : Nat) : mostTo L (i + 1) = mxN (mostTo L i) (cnt (L i)) := rfl
theorem mostTo_le (L : Nat → Nat → Nat) (i : Nat) : mostTo L i ≤ 3072 := by
  induction i with
  | zero => simp [mostTo]
  | succ i ih => rw [mostTo_succ]; exact mxN_le ih (cnt_le _)
attribute [irreducible] mostTo
def pnRes (s : Int) (n : Nat) (P R : Nat → Int) (m : Nat) (L : Nat → Nat → Nat) : Nat := if lcode (okAll s n P R m L) m = 0 then mostTo L m else 0
theorem pnRes_yes {s : Int} {n : Nat} {P R : Nat → Int} {m : Nat} {L : Nat → Nat → Nat} (h : lcode (okAll s n P R m L) m = 0) : pnRes s n P R m L = mostTo L m := if_pos h
theorem pnRes_no {s : Int} {n : Nat} {P R : Nat → Int} {m : Nat} {L : Nat → Nat → Nat} (h : ¬ lcode (okAll s n P R m L) m = 0) : pnRes s n P R m L = 0 := if_neg h
attribute [irreducible] pnRes

theorem l00Max_any (a b : Nat) (w : World) :
    Calls Try.prog 93 #[.int .i64 (a : Int), .int .i64 (b : Int)] w fun e w' => e = .returned (.int .i64 (mxN a b : Nat)) ∧ w = w' := by
  by_cases h : a < b
  · have hr := Lib.hid (mxN_lt h)
    go_enter Try.func93, Try.ntmps93
    go_wp2
    all_goals go_ret
    all_goals exact ⟨ret_int (by rw [hr.out]; try omega), rfl⟩
  · have hr := Lib.hid (mxN_ge h)
    by_cases h2 : b < a
    all_goals
      go_enter Try.func93, Try.ntmps93
      go_wp2
    all_goals go_ret
    all_goals exact ⟨ret_int (by rw [hr.out]; try omega), rfl⟩
end Go.Proofs.Ytpfjmoodfodfhaa
