/- Slices of numbers; the codes of a frame, a programme, quarters and sections. No conditions. -/
import Derived.Test.YteffaghcjpeblaaVp
import Derived.Outline
namespace Go.Proofs.Yteffaghcjpeblaa
open Go.RowKit
set_option linter.unusedVariables false
set_option linter.unusedSimpArgs false

/-- a slice at the address a reads as n numbers -/
def IntAt (w : World) (a : Option Addr) (n : Nat) (Z : Nat → Int) : Prop :=
  0 < n → ∃ g off, a = some ⟨g, off, none⟩ ∧ g < w.heap.size ∧ ∀ i, i < n → w.cell? ⟨g, off + i, none⟩ = some (.int .i64 (Z i))
theorem IntAt.get {w : World} {a : Option Addr} {n : Nat} {Z : Nat → Int} (h : IntAt w a n Z) (hn : 0 < n) : ∃ g off, a = some ⟨g, off, none⟩ ∧ g < w.heap.size ∧ ∀ i, i < n → w.cell? ⟨g, off + i, none⟩ = some (.int .i64 (Z i)) := h hn
theorem IntAt.below {w w' : World} {a : Option Addr} {n : Nat} {Z : Nat → Int} (h : IntAt w a n Z) (hb : Below w.heap.size w w') : IntAt w' a n Z := by
  intro hn
  obtain ⟨g, off, rfl, hg, hc⟩ := h hn
  refine ⟨g, off, rfl, Nat.lt_of_lt_of_le hg hb.size, fun i hi => ?_⟩
  rw [hb.cell (p := ⟨g, off + i, none⟩) hg]
  exact hc i hi
theorem IntAt.nil (w : World) (Z : Nat → Int) : IntAt w none 0 Z := fun h => absurd h (by omega)
theorem IntAt.one (w : World) (x : Int) (T : Nat) (Z : Nat → Int) (hz : Z 0 = x) : IntAt (w.alloc (.cells #[.int .i64 x] T)) (some ⟨w.heap.size, 0, none⟩) 1 Z := fun _ =>
  ⟨w.heap.size, 0, rfl, by simp, fun i hi => by
    obtain rfl : i = 0 := by omega
    rw [row_cell (0 + 0) (heap_alloc_new w _), hz]; rfl⟩
theorem kp_int {w : World} {a : Option Addr} {n : Nat} {Z : Nat → Int} (h : IntAt w a n Z) : Kp w (fun V => IntAt V a n Z) := Kp.mk fun _ hb => h.below hb
/-- all of n numbers lie in bounds -/
def allIn (Z : Nat → Int) (n : Nat) (lo hi : Int) : Bool := !anyB (fun k => !inB (Z k) lo hi) n
theorem allIn_zero (Z : Nat → Int) (lo hi : Int) : allIn Z 0 lo hi = true := by unfold allIn; rw [anyB_false fun k hk => by omega]; rfl
theorem allIn_one (Z : Nat → Int) (lo hi : Int) : allIn Z 1 lo hi = inB (Z 0) lo hi := by
  unfold allIn
  cases h : inB (Z 0) lo hi
  · rw [anyB_iff.2 ⟨0, by omega, by rw [h]; rfl⟩]; rfl
  · have e : anyB (fun k => !inB (Z k) lo hi) 1 = false := anyB_false fun k hk => by
      have h0 : k = 0 := by omega
      subst h0
      rw [h]; rfl
    rw [e]; rfl
theorem anyB_not (Z : Nat → Int) (n : Nat) (lo hi : Int) : anyB (fun k => !inB (Z k) lo hi) n = !allIn Z n lo hi := by unfold allIn; simp
attribute [irreducible] allIn
/-- the code of a programme (valid or not), and whether all numbers are in their bounds -/
def pcode (ok b : Bool) : Int := if ok then (if b then 0 else 2) else 1
theorem pcode_f (b : Bool) : pcode false b = 1 := rfl
theorem pcode_tf : pcode true false = 2 := rfl
theorem pcode_tt : pcode true true = 0 := rfl
theorem pcode_zero {ok b : Bool} (h : pcode ok b = 0) : ok = true ∧ b = true := by
  cases ok <;> cases b <;> simp [pcode] at h ⊢
attribute [irreducible] pcode
end Go.Proofs.Yteffaghcjpeblaa
