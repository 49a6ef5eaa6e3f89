/- Slices of drums: laid, read, looked through; the codes of a frame and drums. No conditions. -/
import Derived.Test.YtfefclngfeihiaaArr
import Derived.Deep.MidRow
namespace Go.Proofs.Ytfefclngfeihiaa
open Go.RowKit
set_option linter.unusedVariables false
set_option linter.unusedSimpArgs false

/-- the cells of a drum from the place o on -/
def DrumCells (w : World) (g o : Nat) (D : Nat → Nat) : Prop := ∀ k, k < 96 → w.cell? ⟨g, o + k, none⟩ = some (.int .u32 (D k))
theorem DrumCells.below {B : Nat} {w w' : World} {g o : Nat} {D : Nat → Nat} (h : DrumCells w g o D) (hb : Below B w w') (hg : g < B) : DrumCells w' g o D := fun k hk => (hb.cell (p := ⟨g, o + k, none⟩) hg).trans (h k hk)
theorem DrumAt.cells {w : World} {T g : Nat} {D : Nat → Nat} (h : DrumAt w T g D) : DrumCells w g 0 D := fun k hk => by rw [Nat.zero_add]; exact h.cell k hk
theorem DrumCells.range {w : World} {g o : Nat} {D : Nat → Nat} (h : DrumCells w g o D) : w.rangeAt g o (dc D).toList := by
  intro j v hv
  have hj : j < 96 := by
    have := (List.getElem?_eq_some_iff.1 hv).1
    simpa [dc_size] using this
  have e : (dc D)[j]? = some v := by simpa using hv
  rw [dc_get D j hj] at e
  rw [h j hj, e]
section
variable {ops : Array Oper} {rest : List Oper} {o : Oper} {a : Act} {w : World} {Q : Exit → Act → World → Prop}
end
/-- a slice at the address a reads as n drums -/
def DrumsAt (w : World) (a : Option Addr) (n : Nat) (L : Nat → Nat → Nat) : Prop :=
  0 < n → ∃ g off, a = some ⟨g, off, none⟩ ∧ g < w.heap.size ∧ ∀ i, i < n → DrumCells w g (off + i * 96) (L i)
theorem DrumsAt.get {w : World} {a : Option Addr} {n : Nat} {L : Nat → Nat → Nat} (h : DrumsAt w a n L) (hn : 0 < n) :
    ∃ g off, a = some ⟨g, off, none⟩ ∧ g < w.heap.size ∧ ∀ i, i < n → DrumCells w g (off + i * 96) (L i) := h hn
theorem DrumsAt.below {w w' : World} {a : Option Addr} {n : Nat} {L : Nat → Nat → Nat} (h : DrumsAt w a n L) (hb : Below w.heap.size w w') : DrumsAt w' a n L := by
  intro hn
  obtain ⟨g, off, rfl, hg, hc⟩ := h hn
  exact ⟨g, off, rfl, Nat.lt_of_lt_of_le hg hb.size, fun i hi => (hc i hi).below hb hg⟩
theorem DrumsAt.nil (w : World) (a : Option Addr) (L : Nat → Nat → Nat) : DrumsAt w a 0 L := fun h => absurd h (by omega)
end Go.Proofs.Ytfefclngfeihiaa
