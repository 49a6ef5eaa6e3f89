/- Tables of the costs of drums, and orders. No conditions. -/
import Derived.Test.YtlcfjeofphncgaaAp
import Derived.Test.YtlcfjeofphncgaaLc
import Derived.Test.YtlcfjeofphncgaaNew
import Derived.Test.YtlcfjeofphncgaaCC
import Derived.Outline
namespace Go.Proofs.Ytlcfjeofphncgaa
open Go.RowKit
set_option linter.unusedVariables false
set_option linter.unusedSimpArgs false

/-- the cost of the drum j behind the drum i -/
def cN (L : Nat → Nat → Nat) (i j : Nat) : Int := ((cnt (lessD (L i) (L j)) + cnt (lessD (L j) (L i)) : Nat) : Int)
theorem cN_def (L : Nat → Nat → Nat) (i j : Nat) : cN L i j = ((cnt (lessD (L i) (L j)) + cnt (lessD (L j) (L i)) : Nat) : Int) := rfl
theorem cN_bound (L : Nat → Nat → Nat) (i j : Nat) : 0 ≤ cN L i j ∧ cN L i j ≤ 6144 := by
  have h1 := cnt_le (lessD (L i) (L j))
  have h2 := cnt_le (lessD (L j) (L i))
  rw [cN_def]
  omega
attribute [irreducible] cN
/-- the first k costs behind the drum i -/
def rowL (L : Nat → Nat → Nat) (i k : Nat) : List Int := (List.range k).map (cN L i)
theorem rowL_zero (L : Nat → Nat → Nat) (i : Nat) : rowL L i 0 = [] := rfl
theorem rowL_succ (L : Nat → Nat → Nat) (i k : Nat) : rowL L i (k + 1) = rowL L i k ++ [cN L i k] := by simp [rowL, List.range_succ]
theorem rowL_len (L : Nat → Nat → Nat) (i k : Nat) : (rowL L i k).length = k := by simp [rowL]
theorem rowL_get (L : Nat → Nat → Nat) (i k j : Nat) (h : j < k) : (rowL L i k).getD j 0 = cN L i j := by simp [rowL, List.getD, h]
/-- the first k rows -/
def tabL (L : Nat → Nat → Nat) (m k : Nat) : List (List Int) := (List.range k).map fun i => rowL L i m
theorem tabL_zero (L : Nat → Nat → Nat) (m : Nat) : tabL L m 0 = [] := rfl
theorem tabL_succ (L : Nat → Nat → Nat) (m k : Nat) : tabL L m (k + 1) = tabL L m k ++ [rowL L k m] := by simp [tabL, List.range_succ]
theorem tabL_len (L : Nat → Nat → Nat) (m k : Nat) : (tabL L m k).length = k := by simp [tabL]
theorem tabL_get (L : Nat → Nat → Nat) (m k i : Nat) (h : i < k) : (tabL L m k)[i]? = some (rowL L i m) := by simp [tabL, h]
attribute [irreducible] rowL tabL

/-! ### rows that one owns -/
theorem OwnI.below {w w' : World} {base : Nat} {v : Value} {l : List Int} (h : OwnI w base v l) (hb : Below w.heap.size w w') : OwnI w' base v l := by
  obtain ⟨hl, h⟩ := h
  refine ⟨hl, ?_⟩
  rcases h with h | ⟨g, cap, cur, hv, hg, hc, h⟩
  · exact .inl h
  · exact .inr ⟨g, cap, cur, hv, hg, (hb.block g (Array.getElem?_eq_some_iff.1 hc).1).trans hc, h⟩
theorem OwnI.mono {w : World} {base base' : Nat} {v : Value} {l : List Int} (h : OwnI w base v l) (hb : base' ≤ base) : OwnI w base' v l := by
  obtain ⟨hl, h⟩ := h
  refine ⟨hl, ?_⟩
  rcases h with h | ⟨g, cap, cur, hv, hg, h⟩
  · exact .inl h
  · exact .inr ⟨g, cap, cur, hv, Nat.le_trans hb hg, h⟩
theorem kp_own {w : World} {base : Nat} {v : Value} {l : List Int} (h : OwnI w base v l) : Kp w (fun V => OwnI V base v l) := Kp.mk fun _ hb => h.below hb
theorem OwnI.one {w : World} {base : Nat} {v : Value} {l : List Int} (h : OwnI w base v l) : v.oneCell' = true := by
  obtain ⟨hl, h⟩ := h
  rcases h with ⟨rfl, _⟩ | ⟨g, cap, cur, rfl, _⟩ <;> rfl
theorem OwnI.nil (w : World) (base : Nat) (hb : base ≤ w.heap.size) : OwnI (w.alloc (.cells #[] 2)) base (.slice (some ⟨w.heap.size, 0, none⟩) 0 0) [] :=
  ⟨rfl, .inr ⟨w.heap.size, 0, #[], rfl, hb, heap_alloc_new w _, Nat.le_refl _, by unfold maxLen; omega, rfl, rfl⟩⟩
/-- a slice that reads as n rows of n numbers -/
def TabAt (w : World) (a : Option Addr) (n : Nat) (C : Nat → Nat → Int) : Prop :=
  0 < n → ∃ g off, a = some ⟨g, off, none⟩ ∧ g < w.heap.size ∧ ∀ i, i < n → ∃ b c, w.cell? ⟨g, off + i, none⟩ = some (.slice b n c) ∧ IntAt w b n (C i)
theorem TabAt.get {w : World} {a : Option Addr} {n : Nat} {C : Nat → Nat → Int} (h : TabAt w a n C) (hn : 0 < n) : ∃ g off, a = some ⟨g, off, none⟩ ∧ g < w.heap.size ∧ ∀ i, i < n → ∃ b c, w.cell? ⟨g, off + i, none⟩ = some (.slice b n c) ∧ IntAt w b n (C i) := h hn
theorem TabAt.below {w w' : World} {a : Option Addr} {n : Nat} {C : Nat → Nat → Int} (h : TabAt w a n C) (hb : Below w.heap.size w w') : TabAt w' a n C := fun hn => by
  obtain ⟨g, off, ha, hg, hc⟩ := h hn
  refine ⟨g, off, ha, Nat.lt_of_lt_of_le hg hb.size, fun i hi => ?_⟩
  obtain ⟨b, c, hc, hz⟩ := hc i hi
  exact ⟨b, c, (hb.cell (p := ⟨g, off + i, none⟩) hg).trans hc, hz.below hb⟩
theorem kp_tab {w : World} {a : Option Addr} {n : Nat} {C : Nat → Nat → Int} (h : TabAt w a n C) : Kp w (fun V => TabAt V a n C) := Kp.mk fun _ hb => h.below hb
theorem IntAt.congr {w : World} {a : Option Addr} {n : Nat} {Z Y : Nat → Int} (h : IntAt w a n Z) (e : ∀ i, i < n → Z i = Y i) : IntAt w a n Y := fun hn => by
  obtain ⟨g, off, ha, hg, hc⟩ := h hn
  exact ⟨g, off, ha, hg, fun i hi => by rw [hc i hi, e i hi]⟩
end Go.Proofs.Ytlcfjeofphncgaa
