/- Arguments of the statements, opened: lists of tunes. No conditions. -/
import Derived.Test.YtpfjmoodfodfhaaOpenT
import Derived.Test.YtpfjmoodfodfhaaTtu
import Derived.Deep.Strs
import Derived.ChangeArms
namespace Go.Proofs.Ytpfjmoodfodfhaa
open Go.RowKit Go.ChangeShapes Go.WideShapes Go.Deep
set_option linter.unusedVariables false
set_option linter.unusedSimpArgs false
set_option maxRecDepth 100000

section
variable {H : Type} {enc : TypeId × Value → H} {w : World} {base : Nat} {spare : Nat → Bool} {held : Bool}
theorem cellsTuneI : Try.prog.cellsOf 22 = 1 := by kernel_rfl
theorem open_tunes_list {fuel : Nat} {cs : List Value} {x : DataW H × List MemPlace} (h : DataW.trod enc Try.prog w base spare held fuel 76 cs = some x) :
    ∃ a n c aa N C A Q, cs = [.slice a n c] ∧ n ≤ 9223372036854775807 ∧ (∀ i, i < n → N i ≤ 9223372036854775807) ∧ (∀ i, I16 (A i)) ∧ (∀ i, I8 (Q i)) ∧ TuneSIn w a n aa N C A Q := by
  rcases open_slice Try.underlying76 h with ⟨rfl, _⟩ | ⟨a, len, cap, m, n, D, Pl, rfl, hb, hl, hm, hmm, rfl, hx⟩
  · exact ⟨none, 0, 0, fun _ => none, fun _ => 0, fun _ => 0, fun _ _ => 0, fun _ _ => 0, rfl, by omega, fun i hi => by omega, fun _ _ => by simp, fun _ _ => by simp, fun h => absurd h (by omega)⟩
  · have hle : len ≤ m := by rw [hmm]; split <;> omega
    rw [cellsTuneI] at hx
    have each : ∀ i, ∃ y : Option Addr × Nat × Nat × (Nat → Int) × (Nat → Int), I16 y.2.2.2.1 ∧ I8 y.2.2.2.2 ∧ (i < len → w.cell? (a.add i) = some (.slice y.1 y.2.1 y.2.2.1) ∧ y.2.1 ≤ 9223372036854775807 ∧ NoteIn w y.1 y.2.1 y.2.2.2.1 y.2.2.2.2) := by
      intro i
      by_cases hi : i < len
      · obtain ⟨cs', h1, h2⟩ := hx i (by omega)
        obtain ⟨hb1, hl1, hc1⟩ := World.cells?_some h1
        obtain ⟨u, rfl⟩ : ∃ u, cs' = [u] := by match cs', hl1 with | [u], _ => exact ⟨u, rfl⟩
        have hu : w.cell? (a.add i) = some u := by have := hc1 0 (by omega); rw [Addr.add_zero', Nat.mul_one] at this; exact this
        obtain ⟨q, l, c, A, P, e, hn, hA, hP, hh⟩ := open_note_list h2
        simp only [List.cons.injEq, and_true] at e
        subst e
        exact ⟨(q, l, c, A, P), hA, hP, fun _ => ⟨hu, hn, hh⟩⟩
      · exact ⟨(none, 0, 0, fun _ => 0, fun _ => 0), fun _ => by simp, fun _ => by simp, fun h => absurd h hi⟩
    refine ⟨some a, len, cap, fun i => (each i).choose.1, fun i => (each i).choose.2.1, fun i => (each i).choose.2.2.1, fun i => (each i).choose.2.2.2.1, fun i => (each i).choose.2.2.2.2, rfl, by unfold maxLen at hm; omega, fun i hi => ((each i).choose_spec.2.2 hi).2.1, fun i => (each i).choose_spec.1, fun i => (each i).choose_spec.2.1, fun hn => ⟨a, rfl, ?_, fun i hi => ⟨((each i).choose_spec.2.2 hi).1, ((each i).choose_spec.2.2 hi).2.2⟩⟩⟩
    have := block_lt_of_cell ((each 0).choose_spec.2.2 hn).1
    rwa [add_block] at this
/-- an argument that is a list of tunes -/
theorem open_tunes {r : Reach} {b0 : Nat} {v : Value} {d : DataW H} {p : List MemPlace} (hv : Value.okWide Try.prog w r b0 76 v) (h : DataW.Trod enc Try.prog w base spare held 76 v d p) :
    ∃ a n c aa N C A Q, v = .slice a n c ∧ n ≤ 9223372036854775807 ∧ (∀ i, i < n → N i ≤ 9223372036854775807) ∧ (∀ i, I16 (A i)) ∧ (∀ i, I8 (Q i)) ∧ TuneSIn w a n aa N C A Q := by
  obtain ⟨a, len, cap, rfl⟩ := okWide_slice Try.underlying76 hv
  obtain ⟨fuel, hf⟩ := h
  obtain ⟨a, n, c, aa, N, C, A, Q, e, hr⟩ := open_tunes_list hf
  simp only [Value.cells, List.cons.injEq, and_true] at e
  exact ⟨a, n, c, aa, N, C, A, Q, e, hr⟩
end
end Go.Proofs.Ytpfjmoodfodfhaa
