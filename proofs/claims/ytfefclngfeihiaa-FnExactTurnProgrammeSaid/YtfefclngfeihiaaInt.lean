/- Numbers: slices of them that come in, copies. No conditions. -/
import Derived.Test.YtfefclngfeihiaaMark
import Derived.Test.YtfefclngfeihiaaTab
import Derived.Test.YtfefclngfeihiaaOwn
import Derived.Outline
namespace Go.Proofs.Ytfefclngfeihiaa
open Go.RowKit
set_option linter.unusedVariables false
set_option linter.unusedSimpArgs false

/-- numbers of 64 bits -/
def I64 (Z : Nat → Int) : Prop := ∀ i, -9223372036854775808 ≤ Z i ∧ Z i ≤ 9223372036854775807
/-- a slice that came in reads as n numbers -/
def IntIn (w : World) (a : Option Addr) (n : Nat) (Z : Nat → Int) : Prop :=
  0 < n → ∃ ad, a = some ad ∧ ad.block < w.heap.size ∧ ∀ i, i < n → w.cell? (ad.add i) = some (.int .i64 (Z i))
theorem IntIn.get {w : World} {a : Option Addr} {n : Nat} {Z : Nat → Int} (h : IntIn w a n Z) (hn : 0 < n) : ∃ ad, a = some ad ∧ ad.block < w.heap.size ∧ ∀ i, i < n → w.cell? (ad.add i) = some (.int .i64 (Z i)) := h hn
theorem IntIn.below {w w' : World} {a : Option Addr} {n : Nat} {Z : Nat → Int} (h : IntIn w a n Z) (hb : Below w.heap.size w w') : IntIn w' a n Z := by
  intro hn
  obtain ⟨ad, rfl, hg, hc⟩ := h hn
  refine ⟨ad, rfl, Nat.lt_of_lt_of_le hg hb.size, fun i hi => ?_⟩
  rw [hb.cell (p := ad.add i) (by rw [add_block]; exact hg)]
  exact hc i hi
theorem kp_intIn {w : World} {a : Option Addr} {n : Nat} {Z : Nat → Int} (h : IntIn w a n Z) : Kp w (fun V => IntIn V a n Z) := Kp.mk fun _ hb => h.below hb
/-- a block bears n numbers -/
def IntF (n : Nat) (Z : Nat → Int) (f : Nat → Value) : Prop := ∀ i, i < n → f i = .int .i64 (Z i)
theorem IntF.at {w : World} {T g n : Nat} {Z : Nat → Int} {f : Nat → Value} (h : IntF n Z f) (hb : BlkAt w T g n f) : IntAt w (some ⟨g, 0, none⟩) n Z := fun _ =>
  ⟨g, 0, rfl, hb.lt, fun i hi => by rw [Nat.zero_add, hb.cell i hi, h i hi]⟩
theorem IntF.step {k : Nat} {Z : Nat → Int} {f : Nat → Value} (h : IntF k Z f) : IntF (k + 1) Z (updV f k (.int .i64 (Z k))) := by
  intro i hi
  by_cases e : i = k
  · subst e; rw [updV_same]
  · rw [updV_other _ _ _ e]; exact h i (by omega)
end Go.Proofs.Ytfefclngfeihiaa
