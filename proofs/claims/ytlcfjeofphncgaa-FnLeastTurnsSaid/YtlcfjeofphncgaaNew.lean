/- Drums that are laid: built, copied. No conditions. -/
import Derived.Test.YtlcfjeofphncgaaKp
import Derived.Outline
namespace Go.Proofs.Ytlcfjeofphncgaa
open Go.RowKit
set_option linter.unusedVariables false
set_option linter.unusedSimpArgs false

/-- a drum without pins, built -/
theorem built_drum : Try.prog.built 33 [] = some (Array.replicate 96 (.int .u32 0)) := by kernel_rfl
section
variable {ops : Array Oper} {rest : List Oper} {o : Oper} {a : Act} {w : World} {Q : Exit → Act → World → Prop}
theorem build_drum (hgd : o.guard = none) (ho : o.op = .build 33 #[]) (h : wpList Try.prog ops Q rest (a.put o.dst (.agg (dc fun _ => 0))) w) : wpList Try.prog ops Q (o :: rest) a w := by
  refine wpList_plain hgd fun K hK => ?_
  unfold Oper.wp
  have e : (execOp a.eval o).run Try.prog w = .ok (.value (.agg (dc fun _ => 0))) w := by
    have hb := run_build (P := Try.prog) w 33 #[] _ built_drum
    simp only [execOp, ho, Array.map_empty, Sem.run_bind, hb, Result.andThen_ok, dc_zero]
    rfl
  rw [e]
  exact hK _ _ h
/-- a drum without pins is built, and laid: what the world is then -/
theorem new_drum {o1 o2 o3 : Oper} (hg1 : o1.guard = none) (hg2 : o2.guard = none) (hg3 : o3.guard = none) (h1 : o1.op = .build 33 #[]) (h2 : o2.op = .alloc 33) (x y : Operand) (h3 : o3.op = .store 33 x y)
    (hx : ((a.put o1.dst (.agg (dc fun _ => 0))).put o2.dst (.pointer (some ⟨w.heap.size, 0, none⟩))).eval x = .pointer (some ⟨w.heap.size, 0, none⟩)) (hy : ((a.put o1.dst (.agg (dc fun _ => 0))).put o2.dst (.pointer (some ⟨w.heap.size, 0, none⟩))).eval y = .agg (dc fun _ => 0))
    (h : ∀ W, Below w.heap.size w W → W.heap.size = w.heap.size + 1 → DrumAt W 33 w.heap.size (fun _ => 0) → wpList Try.prog ops Q rest (((a.put o1.dst (.agg (dc fun _ => 0))).put o2.dst (.pointer (some ⟨w.heap.size, 0, none⟩))).put o3.dst undef) W) :
    wpList Try.prog ops Q (o1 :: o2 :: o3 :: rest) a w := by
  refine build_drum hg1 h1 (alloc_drum hg2 h2 (store_drum hg3 x y h3 w.heap.size (fun _ => 0) hx hy _ _ (DrumAt.new w _ _) ?_))
  exact h _ (below_setRow ((Below.refl _ _).alloc (Nat.le_refl _) _) (Nat.le_refl _) _) (by simp) ((DrumAt.new w _ _).setRow _)
/-- a copy of a drum is laid: what the world is then -/
theorem copy_drum {o2 o3 : Oper} (hg2 : o2.guard = none) (hg3 : o3.guard = none) (h2 : o2.op = .alloc 33) (x y : Operand) (h3 : o3.op = .store 33 x y) (E : Nat → Nat)
    (hx : (a.put o2.dst (.pointer (some ⟨w.heap.size, 0, none⟩))).eval x = .pointer (some ⟨w.heap.size, 0, none⟩)) (hy : (a.put o2.dst (.pointer (some ⟨w.heap.size, 0, none⟩))).eval y = .agg (dc E))
    (h : ∀ W, Below w.heap.size w W → W.heap.size = w.heap.size + 1 → DrumAt W 33 w.heap.size E → wpList Try.prog ops Q rest ((a.put o2.dst (.pointer (some ⟨w.heap.size, 0, none⟩))).put o3.dst undef) W) :
    wpList Try.prog ops Q (o2 :: o3 :: rest) a w := by
  refine alloc_drum hg2 h2 (store_drum hg3 x y h3 w.heap.size E hx hy _ _ (DrumAt.new w _ _) ?_)
  exact h _ (below_setRow ((Below.refl _ _).alloc (Nat.le_refl _) _) (Nat.le_refl _) _) (by simp) ((DrumAt.new w _ _).setRow _)
end
/-- two results: a drum in its own cell, and one more -/
theorem results_drum2 {fn : Func} {p q : Tmp} (h : fn.results = #[.cell p 33, .tmp q]) (tmps : Array Value) (w : World) (g T : Nat) (D : Nat → Nat) (v : Value)
    (hp : tmps.getD p undef = .pointer (some ⟨g, 0, none⟩)) (hg : DrumAt w T g D) (hv : tmps.getD q undef = v) : (results fn tmps).run Try.prog w = .ok (.tuple #[.agg (dc D), v]) w := by
  have hp' : tmps[p]?.getD undef = .pointer (some ⟨g, 0, none⟩) := by simpa using hp
  have hv' : tmps[q]?.getD undef = v := by simpa using hv
  simp [results, h, hp', hv', asAddr, run_loadVar_row w g T 33 (dc D) (0, 0) _ hg und_drum rfl (by rw [dc_size]; exact size_drum)]
end Go.Proofs.Ytlcfjeofphncgaa
