/- Pairs of numbers: slices of them. No conditions. -/
import Derived.Test.YtfefclngfeihiaaSec
import Derived.Test.YtfefclngfeihiaaOwn
import Derived.Outline
namespace Go.Proofs.Ytfefclngfeihiaa
open Go.RowKit
set_option linter.unusedVariables false
set_option linter.unusedSimpArgs false

/-- a slice at the address a reads as n pairs -/
def PairAt (w : World) (a : Option Addr) (n : Nat) (P R : Nat → Int) : Prop :=
  0 < n → ∃ g off, a = some ⟨g, off, none⟩ ∧ g < w.heap.size ∧
    ∀ i, i < n → w.cell? ⟨g, off + i * 2, none⟩ = some (.int .i64 (P i)) ∧ w.cell? ⟨g, off + i * 2 + 1, none⟩ = some (.int .i64 (R i))
theorem PairAt.get {w : World} {a : Option Addr} {n : Nat} {P R : Nat → Int} (h : PairAt w a n P R) (hn : 0 < n) : ∃ g off, a = some ⟨g, off, none⟩ ∧ g < w.heap.size ∧
    ∀ i, i < n → w.cell? ⟨g, off + i * 2, none⟩ = some (.int .i64 (P i)) ∧ w.cell? ⟨g, off + i * 2 + 1, none⟩ = some (.int .i64 (R i)) := h hn
theorem PairAt.below {w w' : World} {a : Option Addr} {n : Nat} {P R : Nat → Int} (h : PairAt w a n P R) (hb : Below w.heap.size w w') : PairAt w' a n P R := by
  intro hn
  obtain ⟨g, off, rfl, hg, hc⟩ := h hn
  refine ⟨g, off, rfl, Nat.lt_of_lt_of_le hg hb.size, fun i hi => ?_⟩
  rw [hb.cell (p := ⟨g, off + i * 2, none⟩) hg, hb.cell (p := ⟨g, off + i * 2 + 1, none⟩) hg]
  exact hc i hi
theorem kp_pair {w : World} {a : Option Addr} {n : Nat} {F S : Nat → Int} (h : PairAt w a n F S) : Kp w (fun V => PairAt V a n F S) := Kp.mk fun _ hb => h.below hb
/-- a slice that came in reads as n pairs -/
def PairIn (w : World) (a : Option Addr) (n : Nat) (P R : Nat → Int) : Prop :=
  0 < n → ∃ ad, a = some ad ∧ ad.block < w.heap.size ∧
    ∀ i, i < n → w.cell? (ad.add (i * 2)) = some (.int .i64 (P i)) ∧ w.cell? ⟨(ad.add (i * 2)).block, (ad.add (i * 2)).off + 1, none⟩ = some (.int .i64 (R i))
theorem PairIn.get {w : World} {a : Option Addr} {n : Nat} {P R : Nat → Int} (h : PairIn w a n P R) (hn : 0 < n) : ∃ ad, a = some ad ∧ ad.block < w.heap.size ∧
    ∀ i, i < n → w.cell? (ad.add (i * 2)) = some (.int .i64 (P i)) ∧ w.cell? ⟨(ad.add (i * 2)).block, (ad.add (i * 2)).off + 1, none⟩ = some (.int .i64 (R i)) := h hn
theorem PairIn.below {w w' : World} {a : Option Addr} {n : Nat} {P R : Nat → Int} (h : PairIn w a n P R) (hb : Below w.heap.size w w') : PairIn w' a n P R := by
  intro hn
  obtain ⟨ad, rfl, hg, hc⟩ := h hn
  refine ⟨ad, rfl, Nat.lt_of_lt_of_le hg hb.size, fun i hi => ?_⟩
  rw [hb.cell (p := ad.add (i * 2)) (by rw [add_block]; exact hg), hb.cell (p := ⟨(ad.add (i * 2)).block, (ad.add (i * 2)).off + 1, none⟩) (by rw [add_block]; exact hg)]
  exact hc i hi
theorem kp_pairIn {w : World} {a : Option Addr} {n : Nat} {F S : Nat → Int} (h : PairIn w a n F S) : Kp w (fun V => PairIn V a n F S) := Kp.mk fun _ hb => h.below hb
end Go.Proofs.Ytfefclngfeihiaa
