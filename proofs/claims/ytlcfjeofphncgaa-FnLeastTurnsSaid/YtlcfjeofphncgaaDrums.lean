/- Slices of drums: laid, read, looked through; the codes of a frame and drums. No conditions. -/
import Derived.Test.YtlcfjeofphncgaaArr
import Derived.Deep.MidRow
namespace Go.Proofs.Ytlcfjeofphncgaa
open Go.RowKit
set_option linter.unusedVariables false
set_option linter.unusedSimpArgs false

theorem run_build1 (D : Nat → Nat) (w : World) : (Instr.buildSlice 29 1 #[(0, .agg (dc D))]).run Try.prog w = .ok (.slice (some ⟨w.heap.size, 0, none⟩) 1 1) (w.alloc (.cells (dc D) 33)) := by
  kernel_rfl
theorem run_build2 (D E : Nat → Nat) (w : World) : (Instr.buildSlice 29 2 #[(0, .agg (dc D)), (1, .agg (dc E))]).run Try.prog w = .ok (.slice (some ⟨w.heap.size, 0, none⟩) 2 2) (w.alloc (.cells (dc D ++ dc E) 33)) := by
  kernel_rfl

/-- the cells of a drum from the place o on -/
def DrumCells (w : World) (g o : Nat) (D : Nat → Nat) : Prop := ∀ k, k < 96 → w.cell? ⟨g, o + k, none⟩ = some (.int .u32 (D k))
theorem DrumCells.below {B : Nat} {w w' : World} {g o : Nat} {D : Nat → Nat} (h : DrumCells w g o D) (hb : Below B w w') (hg : g < B) : DrumCells w' g o D := fun k hk => (hb.cell (p := ⟨g, o + k, none⟩) hg).trans (h k hk)
theorem DrumAt.cells {w : World} {T g : Nat} {D : Nat → Nat} (h : DrumAt w T g D) : DrumCells w g 0 D := fun k hk => by rw [Nat.zero_add]; exact h.cell k hk
theorem DrumCells.range {w : World} {g o : Nat} {D : Nat → Nat} (h : DrumCells w g o D) : w.rangeAt g o (dc D).toList := by
  intro j v hv
  have hj : j < 96 := by
    have := (List.getElem?_eq_some_iff.1 hv).1
    simpa [dc_size] using this
  have e : (dc D)[j]? = some v := by simpa using hv
  rw [dc_get D j hj] at e
  rw [h j hj, e]
section
variable {ops : Array Oper} {rest : List Oper} {o : Oper} {a : Act} {w : World} {Q : Exit → Act → World → Prop}
theorem load_drum_mid (hgd : o.guard = none) (x : Operand) (ho : o.op = .load 33 x) (g p : Nat) (hx : a.eval x = .pointer (some ⟨g, p, none⟩)) (D : Nat → Nat) (hg : DrumCells w g p D)
    (h : wpList Try.prog ops Q rest (a.put o.dst (.agg (dc D))) w) : wpList Try.prog ops Q (o :: rest) a w := by
  refine wpList_load_mid hgd _ x ho g p hx (dc D).toList _ hg.range und_drum rfl (by rw [Array.length_toList, dc_size]; exact size_drum) ?_
  simpa using h
theorem build1 (hgd : o.guard = none) (x : Operand) (ho : o.op = .buildSlice 29 1 #[(0, x)]) (D : Nat → Nat) (hx : a.eval x = .agg (dc D))
    (h : wpList Try.prog ops Q rest (a.put o.dst (.slice (some ⟨w.heap.size, 0, none⟩) 1 1)) (w.alloc (.cells (dc D) 33))) : wpList Try.prog ops Q (o :: rest) a w := by
  refine wpList_plain hgd fun K hK => ?_
  unfold Oper.wp
  have e : (execOp a.eval o).run Try.prog w = .ok (.value (.slice (some ⟨w.heap.size, 0, none⟩) 1 1)) (w.alloc (.cells (dc D) 33)) := by
    have hm : (#[(0, x)] : Array (Nat × Operand)).map (fun (i, y) => (i, a.eval y)) = #[(0, .agg (dc D))] := by simp [hx]
    simp only [execOp, ho, hm, Sem.run_bind, run_build1, Result.andThen_ok]
    rfl
  rw [e]
  exact hK _ _ h
theorem build2 (hgd : o.guard = none) (x y : Operand) (ho : o.op = .buildSlice 29 2 #[(0, x), (1, y)]) (D E : Nat → Nat) (hx : a.eval x = .agg (dc D)) (hy : a.eval y = .agg (dc E))
    (h : wpList Try.prog ops Q rest (a.put o.dst (.slice (some ⟨w.heap.size, 0, none⟩) 2 2)) (w.alloc (.cells (dc D ++ dc E) 33))) : wpList Try.prog ops Q (o :: rest) a w := by
  refine wpList_plain hgd fun K hK => ?_
  unfold Oper.wp
  have e : (execOp a.eval o).run Try.prog w = .ok (.value (.slice (some ⟨w.heap.size, 0, none⟩) 2 2)) (w.alloc (.cells (dc D ++ dc E) 33)) := by
    have hm : (#[(0, x), (1, y)] : Array (Nat × Operand)).map (fun (i, y) => (i, a.eval y)) = #[(0, .agg (dc D)), (1, .agg (dc E))] := by simp [hx, hy]
    simp only [execOp, ho, hm, Sem.run_bind, run_build2, Result.andThen_ok]
    rfl
  rw [e]
  exact hK _ _ h
end
/-- a slice at the address a reads as n drums -/
def DrumsAt (w : World) (a : Option Addr) (n : Nat) (L : Nat → Nat → Nat) : Prop :=
  0 < n → ∃ g off, a = some ⟨g, off, none⟩ ∧ g < w.heap.size ∧ ∀ i, i < n → DrumCells w g (off + i * 96) (L i)
theorem DrumsAt.get {w : World} {a : Option Addr} {n : Nat} {L : Nat → Nat → Nat} (h : DrumsAt w a n L) (hn : 0 < n) :
    ∃ g off, a = some ⟨g, off, none⟩ ∧ g < w.heap.size ∧ ∀ i, i < n → DrumCells w g (off + i * 96) (L i) := h hn
theorem DrumsAt.below {w w' : World} {a : Option Addr} {n : Nat} {L : Nat → Nat → Nat} (h : DrumsAt w a n L) (hb : Below w.heap.size w w') : DrumsAt w' a n L := by
  intro hn
  obtain ⟨g, off, rfl, hg, hc⟩ := h hn
  exact ⟨g, off, rfl, Nat.lt_of_lt_of_le hg hb.size, fun i hi => (hc i hi).below hb hg⟩
theorem DrumsAt.nil (w : World) (a : Option Addr) (L : Nat → Nat → Nat) : DrumsAt w a 0 L := fun h => absurd h (by omega)
theorem DrumsAt.one (w : World) (D : Nat → Nat) (L : Nat → Nat → Nat) (h0 : L 0 = D) : DrumsAt (w.alloc (.cells (dc D) 33)) (some ⟨w.heap.size, 0, none⟩) 1 L := fun _ =>
  ⟨w.heap.size, 0, rfl, by simp, fun i hi => by
    obtain rfl : i = 0 := by omega
    rw [h0]
    exact (DrumAt.new w 33 D).cells⟩
theorem DrumsAt.two (w : World) (D E : Nat → Nat) (L : Nat → Nat → Nat) (h0 : L 0 = D) (h1 : L 1 = E) : DrumsAt (w.alloc (.cells (dc D ++ dc E) 33)) (some ⟨w.heap.size, 0, none⟩) 2 L := fun _ =>
  ⟨w.heap.size, 0, rfl, by simp, fun i hi k hk => by
    have hb : (w.alloc (.cells (dc D ++ dc E) 33)).heap[w.heap.size]? = some (.cells (dc D ++ dc E) 33 (0, 0)) := heap_alloc_new w _
    rw [cell_of_row _ _ _ _ _ _ hb]
    rcases (by omega : i = 0 ∨ i = 1) with rfl | rfl
    · rw [h0, Array.getElem?_append_left (by rw [dc_size]; omega), show 0 + 0 * 96 + k = k by omega, dc_get D k hk]
    · rw [h1, Array.getElem?_append_right (by rw [dc_size]; omega), dc_size, show 0 + 1 * 96 + k - 96 = k by omega, dc_get E k hk]⟩
end Go.Proofs.Ytlcfjeofphncgaa
