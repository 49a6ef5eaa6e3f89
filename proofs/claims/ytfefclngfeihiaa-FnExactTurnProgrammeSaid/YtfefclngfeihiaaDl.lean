/- Lists of drums that come in: sizes, copies, equality; the codes of a frame and a list. No conditions. -/
import Derived.Test.YtfefclngfeihiaaKp
import Derived.Test.YtfefclngfeihiaaOwn
import Derived.Test.YtfefclngfeihiaaDrum
import Derived.Outline
namespace Go.Proofs.Ytfefclngfeihiaa
open Go.RowKit
set_option linter.unusedVariables false
set_option linter.unusedSimpArgs false

theorem below_setCells {B : Nat} {a : World} {g : Nat} (hg : B ≤ g) (vs : List Value) : ∀ {o : Nat} {w : World}, Below B a w → Below B a (w.setCells g o vs) := by
  induction vs with
  | nil => intro o w h; exact h
  | cons v r ih => intro o w h; rw [World.setCells]; exact ih (h.setCell hg _)
theorem blk_setCells {T g N : Nat} (vs : List Value) : ∀ {o : Nat} {w : World} {f : Nat → Value}, BlkAt w T g N f → o + vs.length ≤ N → ∃ f', BlkAt (w.setCells g o vs) T g N f' := by
  induction vs with
  | nil => intro o w f h _; exact ⟨f, h⟩
  | cons v r ih => intro o w f h hl; rw [World.setCells]; exact ih (h.setCell o v (by simp at hl; omega)) (by simp at hl ⊢; omega)
/-- numbers of 32 bits in all drums -/
def L32 (L : Nat → Nat → Nat) : Prop := ∀ i, D32 (L i)
/-- a slice that came in reads as n drums -/
def DrumsIn (w : World) (a : Option Addr) (n : Nat) (L : Nat → Nat → Nat) : Prop :=
  0 < n → ∃ ad, a = some ad ∧ ad.block < w.heap.size ∧ ∀ i, i < n → ∀ k, k < 96 → w.cell? ((ad.add (i * 96)).add k) = some (.int .u32 (L i k))
theorem DrumsIn.get {w : World} {a : Option Addr} {n : Nat} {L : Nat → Nat → Nat} (h : DrumsIn w a n L) (hn : 0 < n) : ∃ ad, a = some ad ∧ ad.block < w.heap.size ∧ ∀ i, i < n → ∀ k, k < 96 → w.cell? ((ad.add (i * 96)).add k) = some (.int .u32 (L i k)) := h hn
theorem DrumsIn.below {w w' : World} {a : Option Addr} {n : Nat} {L : Nat → Nat → Nat} (h : DrumsIn w a n L) (hb : Below w.heap.size w w') : DrumsIn w' a n L := by
  intro hn
  obtain ⟨ad, rfl, hg, hc⟩ := h hn
  refine ⟨ad, rfl, Nat.lt_of_lt_of_le hg hb.size, fun i hi k hk => ?_⟩
  rw [hb.cell (p := (ad.add (i * 96)).add k) (by rw [add_block, add_block]; exact hg)]
  exact hc i hi k hk
theorem kp_drumsIn {w : World} {a : Option Addr} {n : Nat} {L : Nat → Nat → Nat} (h : DrumsIn w a n L) : Kp w (fun V => DrumsIn V a n L) := Kp.mk fun _ hb => h.below hb
section
variable {ops : Array Oper} {rest : List Oper} {o : Oper} {a : Act} {w : World} {Q : Exit → Act → World → Prop}
end
theorem there_part {w : World} {g N : Nat} (h : w.there g 0 N) (o n : Nat) (hn : o + n ≤ N) : w.there g o n := fun j hj => by have := h (o + j) (by omega); rw [Nat.zero_add] at this; exact this
theorem drum_same {w : World} {g o : Nat} (E : Nat → Nat) (h : w.there g o 96) : DrumCells (w.setCells g o (dc E).toList) g o E := fun k hk => by
  have := World.rangeAt_setCells_same w g o (dc E).toList (by rw [Array.length_toList, dc_size]; exact h) k (.int .u32 (E k)) (by have := dc_get E k hk; simpa using this)
  exact this
theorem drum_apart {w : World} {g' o' : Nat} {D : Nat → Nat} (h : DrumCells w g' o' D) (g o : Nat) (E : Nat → Nat) (hap : g' ≠ g ∨ o' + 96 ≤ o ∨ o + 96 ≤ o') : DrumCells (w.setCells g o (dc E).toList) g' o' D := fun k hk => by
  have := World.rangeAt_setCells_apart h.range g o (dc E).toList (by simpa [dc_size] using hap) k (.int .u32 (D k)) (by have := dc_get D k hk; simpa using this)
  exact this
theorem BlkAt.there {w : World} {T g N : Nat} {f : Nat → Value} (h : BlkAt w T g N f) : w.there g 0 N := fun j hj => by
  rw [Nat.zero_add]
  exact ⟨by rw [h.cell j hj]; rfl, h.frozen j⟩
theorem there_below {B : Nat} {w w' : World} {g o n : Nat} (h : w.there g o n) (hb : Below B w w') (hg : g < B) : w'.there g o n := fun j hj => by
  have := hb.block g hg
  unfold World.cell? World.frozen?
  have h2 := h j hj
  unfold World.cell? World.frozen? at h2
  simp only [this] at *
  exact h2

end Go.Proofs.Ytfefclngfeihiaa
