/- Laws on whole drums ([96]uint32): boxed, laid, loaded, stored, indexed. No conditions. -/
import Derived.Test.YtfefclngfeihiaaBase
namespace Go.Proofs.Ytfefclngfeihiaa
open Go.RowKit
set_option linter.unusedVariables false
set_option linter.unusedSimpArgs false

/-- the block g holds the drum D (T: the type that it was laid with) -/
def DrumAt (w : World) (T g : Nat) (D : Nat → Nat) : Prop := w.heap[g]? = some (.cells (dc D) T (0, 0))
theorem DrumAt.lt {w : World} {T g : Nat} {D : Nat → Nat} (h : DrumAt w T g D) : g < w.heap.size := by
  unfold DrumAt at h
  exact (Array.getElem?_eq_some_iff.1 h).1
theorem DrumAt.cell {w : World} {T g : Nat} {D : Nat → Nat} (h : DrumAt w T g D) (k : Nat) (hk : k < 96) : w.cell? ⟨g, k, none⟩ = some (.int .u32 (D k)) := by
  rw [cell_of_row w g k _ _ _ h, dc_get D k hk]
theorem DrumAt.frozen {w : World} {T g : Nat} {D : Nat → Nat} (h : DrumAt w T g D) (k : Nat) : w.frozen? ⟨g, k, none⟩ = false := frozen_of_row w g k _ _ h
theorem DrumAt.new (w : World) (T : Nat) (D : Nat → Nat) : DrumAt (w.alloc (.cells (dc D) T)) T w.heap.size D := heap_alloc_new w _
theorem DrumAt.alloc {w : World} {T g : Nat} {D : Nat → Nat} (h : DrumAt w T g D) (o : Obj) : DrumAt (w.alloc o) T g D := (Below.heap_alloc w o g h.lt).trans h
theorem DrumAt.drewN {w : World} {T g : Nat} {D : Nat → Nat} (h : DrumAt w T g D) (n : Nat) : DrumAt (w.drewN n) T g D := h
theorem DrumAt.below {B : Nat} {w w' : World} {T g : Nat} {D : Nat → Nat} (h : DrumAt w T g D) (hb : Below B w w') (hg : g < B) : DrumAt w' T g D := (hb.block g hg).trans h
theorem DrumAt.setCell {w : World} {T g : Nat} {D : Nat → Nat} (h : DrumAt w T g D) (k v : Nat) (hk : k < 96) : DrumAt (w.setCell ⟨g, k, none⟩ (.int .u32 v)) T g (upd D k v) := by
  unfold DrumAt
  rw [heap_setCell_same w g k _ _ _ h, dc_set D k v hk]
theorem DrumAt.setOther {w : World} {T g : Nat} {D : Nat → Nat} (h : DrumAt w T g D) (a : Addr) (v : Value) (hne : g ≠ a.block) : DrumAt (w.setCell a v) T g D := (heap_setCell_other w a g v hne).trans h
theorem DrumAt.setRow {w : World} {T g : Nat} {D : Nat → Nat} (h : DrumAt w T g D) (E : Nat → Nat) : DrumAt (w.setRow g (dc E)) T g E := setRow_heap w g _ _ _ _ h
theorem DrumAt.setRowOther {w : World} {T g : Nat} {D : Nat → Nat} (h : DrumAt w T g D) (j : Nat) (cs : Array Value) (hne : g ≠ j) : DrumAt (w.setRow j cs) T g D := (setRow_other w j g cs hne).trans h
theorem below_setRow {B : Nat} {a w : World} (h : Below B a w) {g : Nat} (hg : B ≤ g) (cs : Array Value) : Below B a (w.setRow g cs) :=
  h.trans ⟨rfl, rfl, rfl, by simp, fun k hk => setRow_other w g k cs (by omega)⟩
theorem dc_one (D : Nat → Nat) : (dc D).all (·.oneCell') = true := by
  rw [Array.all_eq_true]
  intro i h
  simp [dc, Value.oneCell']

section
variable {ops : Array Oper} {rest : List Oper} {o : Oper} {a : Act} {w : World} {Q : Exit → Act → World → Prop}
end
/-! ### a region that draws its order, whose operations read old memory and call what lays new memory -/
section
variable {P : Program} {ops : Array Oper} {C : World → Prop} {QQ : Act → Prop} {a : Act} {o : Oper} {rest : List Oper}
theorem wp_region_below {id B : Nat} {Q : Exit → Act → World → Prop} {w0 w : World} {l : List Oper} (hm : P.follows .mixedOrders = true) (hB : Region.lexB .any l.toArray = true) (hw : Below B w0 w)
    (h : wpQuiet P l.toArray (fun W => Below B w0 W) (fun a' => ∀ W, Below B w0 W → Q .normal a' W) l a) : (Code.region id l.toArray true).wp P Q a w :=
  wp_region_quiet (C := fun W => Below B w0 W) hm hB ⟨hw.os, hw.tape, hw.output, hw.size, hw.block⟩ (by simpa using h)
theorem quiet_val (hgd : o.guard = none) (v : Value) (he : ∀ W, C W → (execOp a.eval o).run P W = .ok (.value v) W) (h : wpQuiet P ops C QQ rest (a.put o.dst v)) : wpQuiet P ops C QQ (o :: rest) a := by
  unfold wpQuiet
  rw [if_pos (by simp [Region.wanted, hgd])]
  refine ⟨v, fun w hw => ?_, h⟩
  unfold Oper.quietAt
  rw [he w hw]
  exact ⟨rfl, rfl⟩
theorem quiet_call (hgd : o.guard = none) (f : FuncId) (args : Array Value) (v : Value) (he : ∀ W, (execOp a.eval o).run P W = .ok (.enter f args) W)
    (hc : ∀ W, C W → Calls P f args W fun e W' => e = .returned v ∧ C W') (h : wpQuiet P ops C QQ rest (a.put o.dst v)) : wpQuiet P ops C QQ (o :: rest) a := by
  unfold wpQuiet
  rw [if_pos (by simp [Region.wanted, hgd])]
  refine ⟨v, fun w hw => ?_, h⟩
  unfold Oper.quietAt
  rw [he w]
  exact ⟨rfl, hc w hw⟩
end
/-- the rows below k are of the one, the others of the other -/
def mixD (F D : Nat → Nat) (k : Nat) : Nat → Nat := fun j => if j < k then F j else D j
theorem mixD_zero (F D : Nat → Nat) : mixD F D 0 = D := by funext j; simp [mixD]
theorem mixD_at (F D : Nat → Nat) (k : Nat) : mixD F D k k = D k := by simp [mixD]
theorem mixD_upd (F D : Nat → Nat) (k : Nat) : upd (mixD F D k) k (F k) = mixD F D (k + 1) := by
  funext j
  unfold upd mixD
  by_cases e : j = k
  · subst e; rw [if_pos rfl, if_pos (by omega)]
  · rw [if_neg e]
    by_cases h : j < k
    · rw [if_pos h, if_pos (by omega)]
    · rw [if_neg h, if_neg (by omega)]
theorem mixD_full (F D : Nat → Nat) : dc (mixD F D 96) = dc F := dc_congr fun k hk => by unfold mixD; rw [if_pos hk]
theorem DrumAt.congr {w : World} {T g : Nat} {D E : Nat → Nat} (h : DrumAt w T g D) (e : dc D = dc E) : DrumAt w T g E := by unfold DrumAt at *; rw [← e]; exact h
/-! three blocks laid one behind the other -/
theorem size_alloc1 (w : World) (a : Obj) : (w.alloc a).heap.size = w.heap.size + 1 := by simp
theorem DrumAt.new2 (w : World) (a : Obj) (T : Nat) (D : Nat → Nat) : DrumAt ((w.alloc a).alloc (.cells (dc D) T)) T (w.heap.size + 1) D := by
  have h := DrumAt.new (w.alloc a) T D
  rw [size_alloc1] at h
  exact h
theorem DrumAt.new3 (w : World) (a b : Obj) (T : Nat) (D : Nat → Nat) : DrumAt (((w.alloc a).alloc b).alloc (.cells (dc D) T)) T (w.heap.size + 2) D := by
  have h := DrumAt.new2 (w.alloc a) b T D
  rw [size_alloc1] at h
  exact h
end Go.Proofs.Ytfefclngfeihiaa
