/- Laws on whole drums ([96]uint32): boxed, laid, loaded, stored, indexed. No conditions. -/
import Derived.Test.YtlcfjeofphncgaaBase
namespace Go.Proofs.Ytlcfjeofphncgaa
open Go.RowKit
set_option linter.unusedVariables false
set_option linter.unusedSimpArgs false

theorem und_drum : Try.prog.underlying 33 = some (.array 96 31) := by kernel_rfl
theorem size_drum : (Try.prog.info? 33).map (·.size) = some 96 := by kernel_rfl
theorem und_arr : Try.prog.underlying 32 = some (.array 96 31) := by kernel_rfl
theorem size_arr : (Try.prog.info? 32).map (·.size) = some 96 := by kernel_rfl
theorem zero_drum (w : World) : (zeroValue 33).run Try.prog w = .ok (.agg (Array.replicate 96 (.int .u32 0))) w := by kernel_rfl

/-- the block g holds the drum D (T: the type that it was laid with) -/
def DrumAt (w : World) (T g : Nat) (D : Nat → Nat) : Prop := w.heap[g]? = some (.cells (dc D) T (0, 0))
theorem DrumAt.lt {w : World} {T g : Nat} {D : Nat → Nat} (h : DrumAt w T g D) : g < w.heap.size := by
  unfold DrumAt at h
  exact (Array.getElem?_eq_some_iff.1 h).1
theorem DrumAt.cell {w : World} {T g : Nat} {D : Nat → Nat} (h : DrumAt w T g D) (k : Nat) (hk : k < 96) : w.cell? ⟨g, k, none⟩ = some (.int .u32 (D k)) := by
  rw [cell_of_row w g k _ _ _ h, dc_get D k hk]
theorem DrumAt.frozen {w : World} {T g : Nat} {D : Nat → Nat} (h : DrumAt w T g D) (k : Nat) : w.frozen? ⟨g, k, none⟩ = false := frozen_of_row w g k _ _ h
theorem DrumAt.new (w : World) (T : Nat) (D : Nat → Nat) : DrumAt (w.alloc (.cells (dc D) T)) T w.heap.size D := heap_alloc_new w _
theorem DrumAt.alloc {w : World} {T g : Nat} {D : Nat → Nat} (h : DrumAt w T g D) (o : Obj) : DrumAt (w.alloc o) T g D := (Below.heap_alloc w o g h.lt).trans h
theorem DrumAt.drewN {w : World} {T g : Nat} {D : Nat → Nat} (h : DrumAt w T g D) (n : Nat) : DrumAt (w.drewN n) T g D := h
theorem DrumAt.below {B : Nat} {w w' : World} {T g : Nat} {D : Nat → Nat} (h : DrumAt w T g D) (hb : Below B w w') (hg : g < B) : DrumAt w' T g D := (hb.block g hg).trans h
theorem DrumAt.setCell {w : World} {T g : Nat} {D : Nat → Nat} (h : DrumAt w T g D) (k v : Nat) (hk : k < 96) : DrumAt (w.setCell ⟨g, k, none⟩ (.int .u32 v)) T g (upd D k v) := by
  unfold DrumAt
  rw [heap_setCell_same w g k _ _ _ h, dc_set D k v hk]
theorem DrumAt.setOther {w : World} {T g : Nat} {D : Nat → Nat} (h : DrumAt w T g D) (a : Addr) (v : Value) (hne : g ≠ a.block) : DrumAt (w.setCell a v) T g D := (heap_setCell_other w a g v hne).trans h
theorem DrumAt.setRow {w : World} {T g : Nat} {D : Nat → Nat} (h : DrumAt w T g D) (E : Nat → Nat) : DrumAt (w.setRow g (dc E)) T g E := setRow_heap w g _ _ _ _ h
theorem DrumAt.setRowOther {w : World} {T g : Nat} {D : Nat → Nat} (h : DrumAt w T g D) (j : Nat) (cs : Array Value) (hne : g ≠ j) : DrumAt (w.setRow j cs) T g D := (setRow_other w j g cs hne).trans h
theorem below_setRow {B : Nat} {a w : World} (h : Below B a w) {g : Nat} (hg : B ≤ g) (cs : Array Value) : Below B a (w.setRow g cs) :=
  h.trans ⟨rfl, rfl, rfl, by simp, fun k hk => setRow_other w g k cs (by omega)⟩
theorem dc_one (D : Nat → Nat) : (dc D).all (·.oneCell') = true := by
  rw [Array.all_eq_true]
  intro i h
  simp [dc, Value.oneCell']

section
variable {ops : Array Oper} {rest : List Oper} {o : Oper} {a : Act} {w : World} {Q : Exit → Act → World → Prop}
/-- a whole drum is loaded -/
theorem load_drum (hgd : o.guard = none) (x : Operand) (ho : o.op = .load 33 x) (g : Nat) (hx : a.eval x = .pointer (some ⟨g, 0, none⟩)) (T : Nat) (D : Nat → Nat) (hg : DrumAt w T g D)
    (h : wpList Try.prog ops Q rest (a.put o.dst (.agg (dc D))) w) : wpList Try.prog ops Q (o :: rest) a w :=
  wpList_load_row hgd _ x ho g hx T (dc D) (0, 0) _ hg und_drum rfl (by rw [dc_size]; exact size_drum) h
theorem load_arr (hgd : o.guard = none) (x : Operand) (ho : o.op = .load 32 x) (g : Nat) (hx : a.eval x = .pointer (some ⟨g, 0, none⟩)) (T : Nat) (D : Nat → Nat) (hg : DrumAt w T g D)
    (h : wpList Try.prog ops Q rest (a.put o.dst (.agg (dc D))) w) : wpList Try.prog ops Q (o :: rest) a w :=
  wpList_load_row hgd _ x ho g hx T (dc D) (0, 0) _ hg und_arr rfl (by rw [dc_size]; exact size_arr) h
/-- a whole drum is stored -/
theorem store_drum (hgd : o.guard = none) (x y : Operand) (ho : o.op = .store 33 x y) (g : Nat) (E : Nat → Nat) (hx : a.eval x = .pointer (some ⟨g, 0, none⟩)) (hy : a.eval y = .agg (dc E)) (T : Nat) (D : Nat → Nat) (hg : DrumAt w T g D)
    (h : wpList Try.prog ops Q rest (a.put o.dst undef) (w.setRow g (dc E))) : wpList Try.prog ops Q (o :: rest) a w :=
  wpList_store_row hgd _ x y ho g (dc E) hx hy T (dc D) hg (by rw [dc_size]; exact size_drum) (by rw [dc_size, dc_size]) (dc_one E) h
/-- a drum without pins is laid -/
theorem alloc_drum (hgd : o.guard = none) (ho : o.op = .alloc 33)
    (h : wpList Try.prog ops Q rest (a.put o.dst (.pointer (some ⟨w.heap.size, 0, none⟩))) (w.alloc (.cells (dc fun _ => 0) 33))) : wpList Try.prog ops Q (o :: rest) a w := by
  refine wpList_plain hgd fun K hK => ?_
  unfold Oper.wp
  have e : (execOp a.eval o).run Try.prog w = .ok (.value (.pointer (some ⟨w.heap.size, 0, none⟩))) (w.alloc (.cells (dc fun _ => 0) 33)) := by
    simp only [execOp, ho, Instr.alloc, Sem.run_bind, zero_drum, Result.andThen_ok, newVar, Value.cells, ← dc_zero]
    rfl
  rw [e]
  exact hK _ _ h
end
theorem index_drum (D : Nat → Nat) (k : Nat) (hk : k < 96) (w : World) : (Instr.index 33 (.agg (dc D)) (.int .i64 k)).run Try.prog w = .ok (.int .u32 (D k)) w := by
  have hs : (sizeOf 31).run Try.prog w = .ok 1 w := by kernel_rfl
  have ha : (isAgg 31).run Try.prog w = .ok false w := by kernel_rfl
  simp only [Instr.index, asIntOf, Sem.run_bind, Sem.run_pure, Result.andThen_ok, run_underlying und_drum]
  rw [if_pos ⟨by omega, by omega⟩]
  simp only [Sem.run_bind, hs, Result.andThen_ok, part, ha, Int.toNat_natCast, Nat.mul_one, dc_get D k hk]
  rfl
theorem index_arr (D : Nat → Nat) (k : Nat) (hk : k < 96) (w : World) : (Instr.index 32 (.agg (dc D)) (.int .i64 k)).run Try.prog w = .ok (.int .u32 (D k)) w := by
  have hs : (sizeOf 31).run Try.prog w = .ok 1 w := by kernel_rfl
  have ha : (isAgg 31).run Try.prog w = .ok false w := by kernel_rfl
  simp only [Instr.index, asIntOf, Sem.run_bind, Sem.run_pure, Result.andThen_ok, run_underlying und_arr]
  rw [if_pos ⟨by omega, by omega⟩]
  simp only [Sem.run_bind, hs, Result.andThen_ok, part, ha, Int.toNat_natCast, Nat.mul_one, dc_get D k hk]
  rfl
/-- a function's result is a drum in its own cell -/
theorem results_drum {fn : Func} {p : Tmp} (h : fn.results = #[.cell p 33]) (tmps : Array Value) (w : World) (g T : Nat) (D : Nat → Nat)
    (hp : tmps.getD p undef = .pointer (some ⟨g, 0, none⟩)) (hg : DrumAt w T g D) : (results fn tmps).run Try.prog w = .ok (.agg (dc D)) w :=
  results_cell_row h tmps w g T (dc D) (0, 0) _ hp hg und_drum rfl (by rw [dc_size]; exact size_drum)

/-! ### a region that draws its order, whose operations read old memory and call what lays new memory -/
section
variable {P : Program} {ops : Array Oper} {C : World → Prop} {QQ : Act → Prop} {a : Act} {o : Oper} {rest : List Oper}
theorem wp_region_below {id B : Nat} {Q : Exit → Act → World → Prop} {w0 w : World} {l : List Oper} (hm : P.follows .mixedOrders = true) (hB : Region.lexB .any l.toArray = true) (hw : Below B w0 w)
    (h : wpQuiet P l.toArray (fun W => Below B w0 W) (fun a' => ∀ W, Below B w0 W → Q .normal a' W) l a) : (Code.region id l.toArray true).wp P Q a w :=
  wp_region_quiet (C := fun W => Below B w0 W) hm hB ⟨hw.os, hw.tape, hw.output, hw.size, hw.block⟩ (by simpa using h)
theorem quiet_val (hgd : o.guard = none) (v : Value) (he : ∀ W, C W → (execOp a.eval o).run P W = .ok (.value v) W) (h : wpQuiet P ops C QQ rest (a.put o.dst v)) : wpQuiet P ops C QQ (o :: rest) a := by
  unfold wpQuiet
  rw [if_pos (by simp [Region.wanted, hgd])]
  refine ⟨v, fun w hw => ?_, h⟩
  unfold Oper.quietAt
  rw [he w hw]
  exact ⟨rfl, rfl⟩
theorem quiet_call (hgd : o.guard = none) (f : FuncId) (args : Array Value) (v : Value) (he : ∀ W, (execOp a.eval o).run P W = .ok (.enter f args) W)
    (hc : ∀ W, C W → Calls P f args W fun e W' => e = .returned v ∧ C W') (h : wpQuiet P ops C QQ rest (a.put o.dst v)) : wpQuiet P ops C QQ (o :: rest) a := by
  unfold wpQuiet
  rw [if_pos (by simp [Region.wanted, hgd])]
  refine ⟨v, fun w hw => ?_, h⟩
  unfold Oper.quietAt
  rw [he w]
  exact ⟨rfl, hc w hw⟩
end
theorem quiet_load_drum {ops : Array Oper} {C : World → Prop} {QQ : Act → Prop} {a : Act} {o : Oper} {rest : List Oper} (hgd : o.guard = none) (x : Operand) (ho : o.op = .load 33 x) (g : Nat) (hx : a.eval x = .pointer (some ⟨g, 0, none⟩)) (T : Nat) (D : Nat → Nat)
    (hg : ∀ W, C W → DrumAt W T g D) (h : wpQuiet Try.prog ops C QQ rest (a.put o.dst (.agg (dc D)))) : wpQuiet Try.prog ops C QQ (o :: rest) a := by
  refine quiet_val hgd _ (fun W hW => ?_) h
  unfold execOp
  simp only [ho, hx, Instr.loadAt, Instr.sureAddr, Sem.run_bind, Sem.run_pure, Result.andThen_ok, run_loadVar_row W g T 33 (dc D) (0, 0) _ (hg W hW) und_drum rfl (by rw [dc_size]; exact size_drum)]

/-- the rows below k are of the one, the others of the other -/
def mixD (F D : Nat → Nat) (k : Nat) : Nat → Nat := fun j => if j < k then F j else D j
theorem mixD_zero (F D : Nat → Nat) : mixD F D 0 = D := by funext j; simp [mixD]
theorem mixD_at (F D : Nat → Nat) (k : Nat) : mixD F D k k = D k := by simp [mixD]
theorem mixD_upd (F D : Nat → Nat) (k : Nat) : upd (mixD F D k) k (F k) = mixD F D (k + 1) := by
  funext j
  unfold upd mixD
  by_cases e : j = k
  · subst e; rw [if_pos rfl, if_pos (by omega)]
  · rw [if_neg e]
    by_cases h : j < k
    · rw [if_pos h, if_pos (by omega)]
    · rw [if_neg h, if_neg (by omega)]
theorem mixD_full (F D : Nat → Nat) : dc (mixD F D 96) = dc F := dc_congr fun k hk => by unfold mixD; rw [if_pos hk]
theorem DrumAt.congr {w : World} {T g : Nat} {D E : Nat → Nat} (h : DrumAt w T g D) (e : dc D = dc E) : DrumAt w T g E := by unfold DrumAt at *; rw [← e]; exact h
/-! three blocks laid one behind the other -/
theorem size_alloc1 (w : World) (a : Obj) : (w.alloc a).heap.size = w.heap.size + 1 := by simp
theorem DrumAt.new2 (w : World) (a : Obj) (T : Nat) (D : Nat → Nat) : DrumAt ((w.alloc a).alloc (.cells (dc D) T)) T (w.heap.size + 1) D := by
  have h := DrumAt.new (w.alloc a) T D
  rw [size_alloc1] at h
  exact h
theorem DrumAt.new3 (w : World) (a b : Obj) (T : Nat) (D : Nat → Nat) : DrumAt (((w.alloc a).alloc b).alloc (.cells (dc D) T)) T (w.heap.size + 2) D := by
  have h := DrumAt.new2 (w.alloc a) b T D
  rw [size_alloc1] at h
  exact h
end Go.Proofs.Ytlcfjeofphncgaa
