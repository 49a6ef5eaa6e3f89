/- Notes: slices of them that come in, copies, equality. No conditions. -/
import Derived.Test.YtlcfjeofphncgaaSec
import Derived.Test.YtlcfjeofphncgaaOwn
import Derived.Outline
namespace Go.Proofs.Ytlcfjeofphncgaa
open Go.RowKit
set_option linter.unusedVariables false
set_option linter.unusedSimpArgs false

/-- a slice at the address a reads as n notes -/
def NoteAt (w : World) (a : Option Addr) (n : Nat) (P R : Nat → Int) : Prop :=
  0 < n → ∃ g off, a = some ⟨g, off, none⟩ ∧ g < w.heap.size ∧
    ∀ i, i < n → w.cell? ⟨g, off + i * 2, none⟩ = some (.int .i16 (P i)) ∧ w.cell? ⟨g, off + i * 2 + 1, none⟩ = some (.int .i8 (R i))
theorem NoteAt.get {w : World} {a : Option Addr} {n : Nat} {P R : Nat → Int} (h : NoteAt w a n P R) (hn : 0 < n) : ∃ g off, a = some ⟨g, off, none⟩ ∧ g < w.heap.size ∧
    ∀ i, i < n → w.cell? ⟨g, off + i * 2, none⟩ = some (.int .i16 (P i)) ∧ w.cell? ⟨g, off + i * 2 + 1, none⟩ = some (.int .i8 (R i)) := h hn
theorem NoteAt.below {w w' : World} {a : Option Addr} {n : Nat} {P R : Nat → Int} (h : NoteAt w a n P R) (hb : Below w.heap.size w w') : NoteAt w' a n P R := by
  intro hn
  obtain ⟨g, off, rfl, hg, hc⟩ := h hn
  refine ⟨g, off, rfl, Nat.lt_of_lt_of_le hg hb.size, fun i hi => ?_⟩
  rw [hb.cell (p := ⟨g, off + i * 2, none⟩) hg, hb.cell (p := ⟨g, off + i * 2 + 1, none⟩) hg]
  exact hc i hi


theorem kp_note {w : World} {a : Option Addr} {n : Nat} {P R : Nat → Int} (h : NoteAt w a n P R) : Kp w (fun V => NoteAt V a n P R) := Kp.mk fun _ hb => h.below hb
/-- a slice that came in, at the address a, reads as n notes -/
def NoteIn (w : World) (a : Option Addr) (n : Nat) (P R : Nat → Int) : Prop :=
  0 < n → ∃ ad, a = some ad ∧ ad.block < w.heap.size ∧
    ∀ i, i < n → w.cell? (ad.add (i * 2)) = some (.int .i16 (P i)) ∧ w.cell? ⟨(ad.add (i * 2)).block, (ad.add (i * 2)).off + 1, none⟩ = some (.int .i8 (R i))

theorem NoteIn.get {w : World} {a : Option Addr} {n : Nat} {P R : Nat → Int} (h : NoteIn w a n P R) (hn : 0 < n) : ∃ ad, a = some ad ∧ ad.block < w.heap.size ∧
    ∀ i, i < n → w.cell? (ad.add (i * 2)) = some (.int .i16 (P i)) ∧ w.cell? ⟨(ad.add (i * 2)).block, (ad.add (i * 2)).off + 1, none⟩ = some (.int .i8 (R i)) := h hn
theorem NoteIn.below {w w' : World} {a : Option Addr} {n : Nat} {P R : Nat → Int} (h : NoteIn w a n P R) (hb : Below w.heap.size w w') : NoteIn w' a n P R := by
  intro hn
  obtain ⟨ad, rfl, hg, hc⟩ := h hn
  refine ⟨ad, rfl, Nat.lt_of_lt_of_le hg hb.size, fun i hi => ?_⟩
  rw [hb.cell (p := ad.add (i * 2)) (by rw [add_block]; exact hg), hb.cell (p := ⟨(ad.add (i * 2)).block, (ad.add (i * 2)).off + 1, none⟩) (by rw [add_block]; exact hg)]
  exact hc i hi
/-- a block bears n notes -/
def NoteF (n : Nat) (P R : Nat → Int) (f : Nat → Value) : Prop := ∀ i, i < n → f (i * 2) = .int .i16 (P i) ∧ f (i * 2 + 1) = .int .i8 (R i)
theorem NoteF.at {w : World} {T g n : Nat} {P R : Nat → Int} {f : Nat → Value} (h : NoteF n P R f) (hb : BlkAt w T g (n * 2) f) : NoteAt w (some ⟨g, 0, none⟩) n P R := fun _ =>
  ⟨g, 0, rfl, hb.lt, fun i hi => by
    rw [Nat.zero_add, hb.cell (i * 2) (by omega), hb.cell (i * 2 + 1) (by omega), (h i hi).1, (h i hi).2]
    exact ⟨rfl, rfl⟩⟩
theorem NoteF.step {k : Nat} {P R : Nat → Int} {f : Nat → Value} (h : NoteF k P R f) : NoteF (k + 1) P R (updV (updV f (k * 2) (.int .i16 (P k))) (k * 2 + 1) (.int .i8 (R k))) := by
  intro i hi
  by_cases e : i = k
  · subst e
    rw [updV_other _ _ _ (by omega), updV_same, updV_same]
    exact ⟨rfl, rfl⟩
  · rw [updV_other _ _ _ (by omega), updV_other _ _ _ (by omega), updV_other _ _ _ (by omega), updV_other _ _ _ (by omega)]
    exact h i (by omega)

theorem kp_noteIn {w : World} {a : Option Addr} {n : Nat} {P R : Nat → Int} (h : NoteIn w a n P R) : Kp w (fun V => NoteIn V a n P R) := Kp.mk fun _ hb => h.below hb
end Go.Proofs.Ytlcfjeofphncgaa
