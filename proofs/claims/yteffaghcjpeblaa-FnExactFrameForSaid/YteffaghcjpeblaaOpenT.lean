/- Arguments of the statements, opened: tunes. No conditions. -/
import Derived.Test.YteffaghcjpeblaaOpen
import Derived.Test.YteffaghcjpeblaaNote
import Derived.Deep.Strs
import Derived.ChangeArms
namespace Go.Proofs.Yteffaghcjpeblaa
open Go.RowKit Go.ChangeShapes Go.WideShapes Go.Deep
set_option linter.unusedVariables false
set_option linter.unusedSimpArgs false
set_option maxRecDepth 100000

section
variable {H : Type} {enc : TypeId × Value → H} {w : World} {base : Nat} {spare : Nat → Bool} {held : Bool}
theorem cellsI16n : Try.prog.cellsOf 24 = 1 := by kernel_rfl
theorem cellsNote : Try.prog.cellsOf 61 = 2 := by kernel_rfl
theorem trod_note {fuel : Nat} {u v : Value} {x : DataW H × List MemPlace} (h : DataW.trod enc Try.prog w base spare held fuel 61 [u, v] = some x) :
    ∃ p r, u = .int .i16 p ∧ v = .int .i8 r ∧ (-32768 ≤ p ∧ p ≤ 32767) ∧ (-128 ≤ r ∧ r ≤ 127) := by
  obtain ⟨y0, y1, n, _, _, h0, h1⟩ := trod_struct2 Try.underlying61 h
  obtain ⟨p, e1, _, hw⟩ := DataW.trod_int Try.underlying24 h0
  obtain ⟨r, e2, _, hw'⟩ := DataW.trod_int Try.underlying53 h1
  simp [cellsI16n, cellsI8] at e1 e2
  exact ⟨p, r, e1, e2, wf_i16 hw, wf_i8 hw'⟩
theorem open_note_list {fuel : Nat} {cs : List Value} {x : DataW H × List MemPlace} (h : DataW.trod enc Try.prog w base spare held fuel 22 cs = some x) :
    ∃ a n c A P, cs = [.slice a n c] ∧ n ≤ 9223372036854775807 ∧ I16 A ∧ I8 P ∧ NoteIn w a n A P := by
  rcases open_slice Try.underlying22 h with ⟨rfl, _⟩ | ⟨a, len, cap, m, n, D, Pl, rfl, hb, hl, hm, hmm, rfl, hx⟩
  · exact ⟨none, 0, 0, fun _ => 0, fun _ => 0, rfl, by omega, fun _ => by simp, fun _ => by simp, fun h => absurd h (by omega)⟩
  · have hle : len ≤ m := by rw [hmm]; split <;> omega
    rw [cellsNote] at hx
    have each : ∀ i, i < len → ∃ p r, w.cell? (a.add (i * 2)) = some (.int .i16 p) ∧ w.cell? ⟨(a.add (i * 2)).block, (a.add (i * 2)).off + 1, none⟩ = some (.int .i8 r) ∧ (-32768 ≤ p ∧ p ≤ 32767) ∧ (-128 ≤ r ∧ r ≤ 127) := by
      intro i hi
      obtain ⟨cs', h1, h2⟩ := hx i (by omega)
      obtain ⟨hb1, hl1, hc1⟩ := World.cells?_some h1
      obtain ⟨u, v, rfl⟩ : ∃ u v, cs' = [u, v] := by match cs', hl1 with | [u, v], _ => exact ⟨u, v, rfl⟩
      have hu : w.cell? (a.add (i * 2)) = some u := by have := hc1 0 (by omega); rw [Addr.add_zero'] at this; exact this
      have hv : w.cell? ⟨(a.add (i * 2)).block, (a.add (i * 2)).off + 1, none⟩ = some v := hc1 1 (by omega)
      obtain ⟨p, r, rfl, rfl, hp, hr⟩ := trod_note h2
      exact ⟨p, r, hu, hv, hp, hr⟩
    refine ⟨some a, len, cap, fun i => if h : i < len then (each i h).choose else 0, fun i => if h : i < len then (each i h).choose_spec.choose else 0, rfl, by unfold maxLen at hm; omega, ?_, ?_, ?_⟩
    · intro i
      by_cases hi : i < len
      · simp only [hi, dif_pos]; exact (each i hi).choose_spec.choose_spec.2.2.1
      · simp only [hi, dif_neg, not_false_eq_true]; omega
    · intro i
      by_cases hi : i < len
      · simp only [hi, dif_pos]; exact (each i hi).choose_spec.choose_spec.2.2.2
      · simp only [hi, dif_neg, not_false_eq_true]; omega
    · intro hn
      refine ⟨a, rfl, ?_, fun i hi => ?_⟩
      · obtain ⟨p, r, h1, _⟩ := each 0 hn
        have := block_lt_of_cell h1
        rwa [add_block] at this
      · simp only [hi, dif_pos]
        exact ⟨(each i hi).choose_spec.choose_spec.1, (each i hi).choose_spec.choose_spec.2.1⟩
/-- an argument that is a tune -/
theorem open_tune {r : Reach} {b0 : Nat} {v : Value} {d : DataW H} {p : List MemPlace} (hv : Value.okWide Try.prog w r b0 22 v) (h : DataW.Trod enc Try.prog w base spare held 22 v d p) :
    ∃ a n c A P, v = .slice a n c ∧ n ≤ 9223372036854775807 ∧ I16 A ∧ I8 P ∧ NoteIn w a n A P := by
  obtain ⟨a, len, cap, rfl⟩ := okWide_slice Try.underlying22 hv
  obtain ⟨fuel, hf⟩ := h
  obtain ⟨a, n, c, A, P, e, hr⟩ := open_note_list hf
  simp only [Value.cells, List.cons.injEq, and_true] at e
  exact ⟨a, n, c, A, P, e, hr⟩
end
end Go.Proofs.Yteffaghcjpeblaa
