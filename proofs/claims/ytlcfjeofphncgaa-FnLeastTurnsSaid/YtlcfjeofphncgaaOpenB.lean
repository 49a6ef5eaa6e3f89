/- Arguments of the statements, opened: bytes. No conditions. -/
import Derived.Test.YtlcfjeofphncgaaOpen
import Derived.Test.YtlcfjeofphncgaaVs
import Derived.Deep.Strs
import Derived.ChangeArms
namespace Go.Proofs.Ytlcfjeofphncgaa
open Go.RowKit Go.ChangeShapes Go.WideShapes Go.Deep
set_option linter.unusedVariables false
set_option linter.unusedSimpArgs false
set_option maxRecDepth 100000

theorem wf_u8 {n : Int} (h : (Lit.int .u8 n).wf = true) : 0 ≤ n ∧ n ≤ 255 := by
  simp [Lit.wf, IntKind.min, IntKind.max, IntKind.signed, IntKind.bits] at h
  omega
section
variable {H : Type} {enc : TypeId × Value → H} {w : World} {base : Nat} {spare : Nat → Bool} {held : Bool}
theorem cellsU8 : Try.prog.cellsOf 5 = 1 := by kernel_rfl
theorem open_byte_list {fuel : Nat} {cs : List Value} {x : DataW H × List MemPlace} (h : DataW.trod enc Try.prog w base spare held fuel 22 cs = some x) :
    ∃ a n c B, cs = [.slice a n c] ∧ n ≤ 9223372036854775807 ∧ U8 B ∧ BytIn w w.heap.size a n B := by
  rcases open_slice Try.underlying22 h with ⟨rfl, _⟩ | ⟨a, len, cap, m, n, D, Pl, rfl, hb, hl, hm, hmm, rfl, hx⟩
  · exact ⟨none, 0, 0, fun _ => 0, rfl, by omega, fun _ => by simp, fun h => absurd h (by omega)⟩
  · have hle : len ≤ m := by rw [hmm]; split <;> omega
    rw [cellsU8] at hx
    have each : ∀ i, i < len → ∃ p, w.cell? (a.add i) = some (.int .u8 p) ∧ (0 ≤ p ∧ p ≤ 255) := by
      intro i hi
      obtain ⟨cs', h1, h2⟩ := hx i (by omega)
      rw [Nat.mul_one] at h1
      obtain ⟨hb1, hl1, hc1⟩ := World.cells?_some h1
      obtain ⟨u, rfl⟩ : ∃ u, cs' = [u] := by match cs', hl1 with | [u], _ => exact ⟨u, rfl⟩
      have hu : w.cell? (a.add i) = some u := by have := hc1 0 (by omega); rw [Addr.add_zero'] at this; exact this
      obtain ⟨p, e1, _, hw⟩ := DataW.trod_int Try.underlying5 h2
      simp at e1
      subst e1
      exact ⟨p, hu, wf_u8 hw⟩
    refine ⟨some a, len, cap, fun i => if h : i < len then (each i h).choose else 0, rfl, by unfold maxLen at hm; omega, ?_, ?_⟩
    · intro i
      by_cases hi : i < len
      · simp only [hi, dif_pos]; exact (each i hi).choose_spec.2
      · simp only [hi, dif_neg, not_false_eq_true]; omega
    · intro hn
      refine ⟨a, rfl, ?_, fun i hi => ?_⟩
      · obtain ⟨p, h1, _⟩ := each 0 hn
        have := block_lt_of_cell h1
        rwa [add_block] at this
      · simp only [hi, dif_pos]
        exact (each i hi).choose_spec.1
/-- an argument that is a slice of bytes -/
theorem open_bytes {r : Reach} {b0 : Nat} {v : Value} {d : DataW H} {p : List MemPlace} (hv : Value.okWide Try.prog w r b0 22 v) (h : DataW.Trod enc Try.prog w base spare held 22 v d p) :
    ∃ a n c B, v = .slice a n c ∧ n ≤ 9223372036854775807 ∧ U8 B ∧ BytIn w w.heap.size a n B := by
  obtain ⟨a, len, cap, rfl⟩ := okWide_slice Try.underlying22 hv
  obtain ⟨fuel, hf⟩ := h
  obtain ⟨a, n, c, B, e, hr⟩ := open_byte_list hf
  simp only [Value.cells, List.cons.injEq, and_true] at e
  exact ⟨a, n, c, B, e, hr⟩
end
end Go.Proofs.Ytlcfjeofphncgaa
