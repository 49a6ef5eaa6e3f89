/- Arguments of the statements, opened: slices of drums. No conditions. -/
import Derived.Test.YtpfjmoodfodfhaaOpen
import Derived.Test.YtpfjmoodfodfhaaDl
namespace Go.Proofs.Ytpfjmoodfodfhaa
open Go.RowKit Go.ChangeShapes Go.WideShapes Go.Deep
set_option linter.unusedVariables false
set_option linter.unusedSimpArgs false
set_option maxRecDepth 100000

section
variable {H : Type} {enc : TypeId × Value → H} {w : World} {base : Nat} {spare : Nat → Bool} {held : Bool}
/-- a slice of drums that came in -/
theorem open_drums_list {fuel : Nat} {cs : List Value} {x : DataW H × List MemPlace} (h : DataW.trod enc Try.prog w base spare held fuel 41 cs = some x) :
    ∃ a n c L, cs = [.slice a n c] ∧ n ≤ 9223372036854775807 ∧ L32 L ∧ DrumsIn w a n L := by
  rcases open_slice Try.underlying41 h with ⟨rfl, _⟩ | ⟨a, len, cap, m, n, D, Pl, rfl, hb, hl, hm, hmm, rfl, hx⟩
  · exact ⟨none, 0, 0, fun _ _ => 0, rfl, by omega, fun _ _ => by simp, fun h => absurd h (by omega)⟩
  · have hle : len ≤ m := by rw [hmm]; split <;> omega
    rw [cellsArr] at hx
    have each : ∀ i, i < len → ∃ D : Nat → Nat, D32 D ∧ ∀ k, k < 96 → w.cell? ((a.add (i * 96)).add k) = some (.int .u32 (D k)) := by
      intro i hi
      obtain ⟨cs', h1, h2⟩ := hx i (by omega)
      obtain ⟨hb2, hl2, hc2⟩ := World.cells?_some h1
      obtain ⟨D, hD, e⟩ := trod_arr (cs := cs'.toArray) (by simpa using hl2) (by simpa using h2)
      refine ⟨D, hD, fun k hk => ?_⟩
      rw [hc2 k (by omega), ← dc_get D k hk, ← e]
      simp
    refine ⟨some a, len, cap, fun i => if h : i < len then (each i h).choose else fun _ => 0, rfl, by unfold maxLen at hm; omega, ?_, ?_⟩
    · intro i
      by_cases hi : i < len
      · simp only [hi, dif_pos]; exact (each i hi).choose_spec.1
      · simp only [hi, dif_neg, not_false_eq_true]; intro k; simp
    · intro hn
      refine ⟨a, rfl, ?_, fun i hi => ?_⟩
      · obtain ⟨D, _, h1⟩ := each 0 hn
        have := block_lt_of_cell (h1 0 (by omega))
        rwa [add_block, add_block] at this
      · simp only [hi, dif_pos]
        exact (each i hi).choose_spec.2
theorem open_drums {r : Reach} {b0 : Nat} {v : Value} {d : DataW H} {p : List MemPlace} (hv : Value.okWide Try.prog w r b0 41 v) (h : DataW.Trod enc Try.prog w base spare held 41 v d p) :
    ∃ a n c L, v = .slice a n c ∧ n ≤ 9223372036854775807 ∧ L32 L ∧ DrumsIn w a n L := by
  obtain ⟨a, len, cap, rfl⟩ := okWide_slice Try.underlying41 hv
  obtain ⟨fuel, hf⟩ := h
  obtain ⟨a, n, c, L, e, hr⟩ := open_drums_list hf
  simp only [Value.cells, List.cons.injEq, and_true] at e
  exact ⟨a, n, c, L, e, hr⟩
end
end Go.Proofs.Ytpfjmoodfodfhaa
