/- MovesBetween, by the reference and by the program. No conditions. -/
import Derived.Test.YtpfjmoodfodfhaaLs
import Derived.Test.YtpfjmoodfodfhaaHeld2
import Derived.Outline
namespace Go.Proofs.Ytpfjmoodfodfhaa
open Go.RowKit
set_option linter.unusedVariables false
set_option linter.unusedSimpArgs false

/-- two slices of one's own have no block in common -/
def Apart (v u : Value) : Prop := ∀ k k', v.ownBlock = some k → u.ownBlock = some k' → k ≠ k'
theorem Apart.symm {v u : Value} (h : Apart v u) : Apart u v := fun k k' h1 h2 e => h k' k h2 h1 e.symm
theorem Apart.nil (u : Value) : Apart (.slice none 0 0) u := fun k k' h => by simp [Value.ownBlock] at h
theorem own_kept {w w' : World} {base size n : Nat} {e : TypeId} {v u : Value} {xs : List Value} (h : w.ownsRow base e size v n xs) (hg : w.grownBy w' u.ownBlock) (hne : Apart v u) : w'.ownsRow base e size v n xs := by
  refine h.kept hg ?_
  cases hv : v.ownBlock with
  | none => exact .inl rfl
  | some k => exact .inr fun e2 => hne k k hv e2.symm rfl
/-- what stood before is apart from what is laid from a block on -/
theorem Apart.of {w w' : World} {base base' sz sz' n n' : Nat} {T T' : TypeId} {v u : Value} {xs ys : List Value} (h : w.ownsRow base T sz v n xs) (hb : w.heap.size ≤ base') (h2 : w'.ownsRow base' T' sz' u n' ys) : Apart v u := fun k k' hk hk' e => by
  have h1 := (h.lt k hk).2
  have h3 := (h2.lt k' hk').1
  omega
end Go.Proofs.Ytpfjmoodfodfhaa
