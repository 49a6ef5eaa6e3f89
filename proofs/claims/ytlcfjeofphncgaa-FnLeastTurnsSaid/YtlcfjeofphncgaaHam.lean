/- The statements' own copies of slices of hammers and of frames, and their equality. No conditions. -/
import Derived.Test.YtlcfjeofphncgaaConv
import Derived.Test.YtlcfjeofphncgaaBlk
import Derived.Outline
namespace Go.Proofs.Ytlcfjeofphncgaa
open Go.RowKit
set_option linter.unusedVariables false
set_option linter.unusedSimpArgs false

/-- a slice that came in, at the address a, reads as n hammers -/
def HamIn (w : World) (a : Option Addr) (n : Nat) (P R : Nat → Int) : Prop :=
  0 < n → ∃ ad, a = some ad ∧ ad.block < w.heap.size ∧
    ∀ i, i < n → w.cell? (ad.add (i * 2)) = some (.int .i8 (P i)) ∧ w.cell? ⟨(ad.add (i * 2)).block, (ad.add (i * 2)).off + 1, none⟩ = some (.int .i8 (R i))
theorem add_block (ad : Addr) (k : Nat) : (ad.add k).block = ad.block := by unfold Addr.add; split <;> rfl
theorem HamIn.get {w : World} {a : Option Addr} {n : Nat} {P R : Nat → Int} (h : HamIn w a n P R) (hn : 0 < n) : ∃ ad, a = some ad ∧ ad.block < w.heap.size ∧
    ∀ i, i < n → w.cell? (ad.add (i * 2)) = some (.int .i8 (P i)) ∧ w.cell? ⟨(ad.add (i * 2)).block, (ad.add (i * 2)).off + 1, none⟩ = some (.int .i8 (R i)) := h hn
theorem HamIn.below {w w' : World} {a : Option Addr} {n : Nat} {P R : Nat → Int} (h : HamIn w a n P R) (hb : Below w.heap.size w w') : HamIn w' a n P R := by
  intro hn
  obtain ⟨ad, rfl, hg, hc⟩ := h hn
  refine ⟨ad, rfl, Nat.lt_of_lt_of_le hg hb.size, fun i hi => ?_⟩
  rw [hb.cell (p := ad.add (i * 2)) (by rw [add_block]; exact hg), hb.cell (p := ⟨(ad.add (i * 2)).block, (ad.add (i * 2)).off + 1, none⟩) (by rw [add_block]; exact hg)]
  exact hc i hi
/-- a block bears n hammers -/
def HamF (n : Nat) (P R : Nat → Int) (f : Nat → Value) : Prop := ∀ i, i < n → f (i * 2) = .int .i8 (P i) ∧ f (i * 2 + 1) = .int .i8 (R i)
theorem HamF.at {w : World} {T g n : Nat} {P R : Nat → Int} {f : Nat → Value} (h : HamF n P R f) (hb : BlkAt w T g (n * 2) f) : HamAt w (some ⟨g, 0, none⟩) n P R := fun _ =>
  ⟨g, 0, rfl, hb.lt, fun i hi => by
    rw [Nat.zero_add, hb.cell (i * 2) (by omega), hb.cell (i * 2 + 1) (by omega), (h i hi).1, (h i hi).2]
    exact ⟨rfl, rfl⟩⟩
theorem infoHammer : (Try.prog.info? 99).map (fun i => (i.zero, i.size, i.bytes)) = some (some (.agg #[.int .i8 0, .int .i8 0]), 2, 2) := by kernel_rfl

theorem HamF.step {k : Nat} {P R : Nat → Int} {f : Nat → Value} (h : HamF k P R f) : HamF (k + 1) P R (updV (updV f (k * 2) (.int .i8 (P k))) (k * 2 + 1) (.int .i8 (R k))) := by
  intro i hi
  by_cases e : i = k
  · subst e
    rw [updV_other _ _ _ (by omega), updV_same, updV_same]
    exact ⟨rfl, rfl⟩
  · rw [updV_other _ _ _ (by omega), updV_other _ _ _ (by omega), updV_other _ _ _ (by omega), updV_other _ _ _ (by omega)]
    exact h i (by omega)

end Go.Proofs.Ytlcfjeofphncgaa
