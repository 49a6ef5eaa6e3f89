/- Regions that draw: a drum is laid and stored. No conditions. -/
import Derived.Test.YtlcfjeofphncgaaHeld
import Derived.Test.YtlcfjeofphncgaaKp
namespace Go.Proofs.Ytlcfjeofphncgaa
open Go.RowKit
set_option linter.unusedVariables false
set_option linter.unusedSimpArgs false

/-- the one operation that may come up yields nothing and leaves a new world (a store) -/
theorem step_skip {P : Program} {md : Region.Mode} {ops : Array Oper} {Q : Exit → Act → World → Prop} {S : World → Prop} {fuel : Nat} {listed : Array Bool} {a : Act} {w : World} (i : Nat) {o : Oper} (w' : World) (hr : Region.ready md ops listed = [i]) (ho : ops[i]? = some o) (hw : Region.wanted o (yielded ops a.tmps) = true)
    (he : (execOp a.eval o).run P w = .ok .skip w') (hS : S w') (h : wpAnyH P md ops Q S fuel (listed.setIfInBounds i true) (a.put o.dst undef) w') : wpAnyH P md ops Q S (fuel + 1) listed a w := by
  refine wpAnyH_ready hr (by simp) (AllReadyH.cons ho (fun K hK => ?_) AllReadyH.nil)
  rw [if_pos hw]
  unfold Oper.wp
  rw [he]
  exact hK.out _ _ hS fun _ => h
/-- two operations may come up: a call, and one that hangs on nothing and leaves a new world (a block is laid) -/
theorem step_call_or {P : Program} {md : Region.Mode} {ops : Array Oper} {Q : Exit → Act → World → Prop} {S : World → Prop} {fuel : Nat} {listed : Array Bool} {a : Act} {w : World} (i j : Nat) {o oj : Oper} (f : FuncId) (args : Array Value) (pv : Value) (w1 : World)
    (hr : Region.ready md ops listed = [i, j]) (ho : ops[i]? = some o) (hoj : ops[j]? = some oj) (hw : Region.wanted o (yielded ops a.tmps) = true) (hwj : Region.wanted oj (yielded ops a.tmps) = true)
    (he : (execOp a.eval o).run P w = .ok (.enter f args) w) (hej : (execOp a.eval oj).run P w = .ok (.value pv) w1) (hSj : S w1)
    (hc : Calls P f args w fun e w' => ∃ v, e = .returned v ∧ S w' ∧ wpAnyH P md ops Q S fuel (listed.setIfInBounds i true) (a.put o.dst v) w')
    (hj : wpAnyH P md ops Q S fuel (listed.setIfInBounds j true) (a.put oj.dst pv) w1) : wpAnyH P md ops Q S (fuel + 1) listed a w := by
  refine wpAnyH_ready hr (by simp) (AllReadyH.cons ho (fun K hK => ?_) (AllReadyH.cons hoj (fun K hK => ?_) AllReadyH.nil))
  · rw [if_pos hw]
    unfold Oper.wp
    rw [he]
    refine hc.mono fun e w' hx => ?_
    obtain ⟨v, rfl, hS, h⟩ := hx
    exact hK.out _ _ hS fun _ => h
  · rw [if_pos hwj]
    unfold Oper.wp
    rw [hej]
    exact hK.out _ _ hSj fun _ => hj
/-- what all ways end in is shown once -/
theorem cut_with {A B : Prop} (h : A → B) (a : A) : B := h a
theorem ex_alloc_drum {o : Oper} {a : Act} {w : World} (ho : o.op = .alloc 33) : (execOp a.eval o).run Try.prog w = .ok (.value (.pointer (some ⟨w.heap.size, 0, none⟩))) (w.alloc (.cells (dc fun _ => 0) 33)) := by
  simp only [execOp, ho, Instr.alloc, Sem.run_bind, zero_drum, Result.andThen_ok, newVar, Value.cells, ← dc_zero]
  rfl
theorem ex_store_drum {o : Oper} {a : Act} {w : World} (x y : Operand) (ho : o.op = .store 33 x y) (g : Nat) (E : Nat → Nat) (hx : a.eval x = .pointer (some ⟨g, 0, none⟩)) (hy : a.eval y = .agg (dc E)) (T : Nat) (D : Nat → Nat) (hg : DrumAt w T g D) :
    (execOp a.eval o).run Try.prog w = .ok .skip (w.setRow g (dc E)) := by
  unfold execOp
  simp only [ho, hx, hy, Instr.storeAt, Instr.sureAddr, Sem.run_bind, Sem.run_pure, Result.andThen_ok, run_storeVar_row w g T 33 (dc D) (dc E) hg (by rw [dc_size]; exact size_drum) (by rw [dc_size, dc_size]) (dc_one E)]
theorem laid_drum (w : World) (T : Nat) (E : Nat → Nat) : Below w.heap.size w ((w.alloc (.cells (dc fun _ => 0) T)).setRow w.heap.size (dc E)) ∧ DrumAt ((w.alloc (.cells (dc fun _ => 0) T)).setRow w.heap.size (dc E)) T w.heap.size E :=
  ⟨below_setRow ((Below.refl _ _).alloc (Nat.le_refl _) _) (Nat.le_refl _) _, (DrumAt.new w _ _).setRow _⟩
end Go.Proofs.Ytlcfjeofphncgaa
