/- Programmes: their cells, copies, equality. No conditions. -/
import Derived.Test.YteffaghcjpeblaaSec
import Derived.Test.YteffaghcjpeblaaOwn
import Derived.Outline
namespace Go.Proofs.Yteffaghcjpeblaa
open Go.RowKit
set_option linter.unusedVariables false
set_option linter.unusedSimpArgs false

/-- the 48 cells of an order -/
def oc (O : Nat → Int) : Array Value := Array.ofFn (n := 48) fun i => .int .i8 (O i.val)
theorem oc_size (O : Nat → Int) : (oc O).size = 48 := by simp [oc]
theorem oc_get (O : Nat → Int) (k : Nat) (h : k < 48) : (oc O)[k]? = some (.int .i8 (O k)) := by simp [oc, h]
theorem oc_one (O : Nat → Int) : (oc O).all (·.oneCell') = true := by
  rw [Array.all_eq_true]; intro i h; simp [oc, Value.oneCell']
theorem oc_congr {O Q : Nat → Int} (h : ∀ k, k < 48 → O k = Q k) : oc O = oc Q := by
  unfold oc; congr 1; funext i; rw [h i.val i.isLt]
theorem oc_zero : oc (fun _ => 0) = Array.replicate 48 (Value.int .i8 0) := by
  apply Array.ext
  · simp [oc]
  · intro i h1 h2; simp [oc]
/-- the 49 cells of a programme -/
def pc (a : Option Addr) (n c : Nat) (O : Nat → Int) : Array Value := #[.slice a n c] ++ oc O
theorem pc_size (a : Option Addr) (n c : Nat) (O : Nat → Int) : (pc a n c O).size = 49 := by simp [pc, oc_size]
theorem pc_get0 (a : Option Addr) (n c : Nat) (O : Nat → Int) : (pc a n c O)[0]? = some (.slice a n c) := by
  unfold pc; rw [Array.getElem?_append_left (by simp)]; rfl
theorem pc_get (a : Option Addr) (n c : Nat) (O : Nat → Int) (k : Nat) (h : k < 48) : (pc a n c O)[1 + k]? = some (.int .i8 (O k)) := by
  unfold pc; rw [Array.getElem?_append_right (by simp)]; simp [oc_get O k h]
theorem pc_one (a : Option Addr) (n c : Nat) (O : Nat → Int) : (pc a n c O).all (·.oneCell') = true := by
  unfold pc; rw [Array.all_append, oc_one]; simp [Value.oneCell']
theorem pc_zero : pc none 0 0 (fun _ => 0) = #[.slice none 0 0] ++ Array.replicate 48 (Value.int .i8 0) := by unfold pc; rw [oc_zero]
def updI (O : Nat → Int) (k : Nat) (v : Int) : Nat → Int := fun j => if j = k then v else O j
theorem oc_set (O : Nat → Int) (k : Nat) (v : Int) (h : k < 48) : (oc O).setIfInBounds k (.int .i8 v) = oc (updI O k v) := by
  apply Array.ext
  · simp [oc]
  · intro i h1 h2
    have hi : i < 48 := by simpa [oc] using h2
    rw [Array.getElem_setIfInBounds (by simpa [oc] using hi)]
    by_cases e : k = i
    · subst e; simp [oc, updI]
    · rw [if_neg e]; simp [oc, updI, Ne.symm e]
attribute [irreducible] oc pc
end Go.Proofs.Yteffaghcjpeblaa
