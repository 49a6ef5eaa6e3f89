/- Blocks whose cells are told by a function: laid, read, written. No conditions. -/
import Derived.Test.YtlcfjeofphncgaaBase
namespace Go.Proofs.Ytlcfjeofphncgaa
open Go.RowKit
set_option linter.unusedVariables false
set_option linter.unusedSimpArgs false

/-- N cells, told by a function -/
def cf (N : Nat) (f : Nat → Value) : Array Value := Array.ofFn (n := N) fun i => f i.val
theorem cf_size (N : Nat) (f : Nat → Value) : (cf N f).size = N := by simp [cf]
theorem cf_get (N : Nat) (f : Nat → Value) (k : Nat) (h : k < N) : (cf N f)[k]? = some (f k) := by simp [cf, h]
def updV (f : Nat → Value) (k : Nat) (v : Value) : Nat → Value := fun j => if j = k then v else f j
theorem updV_same (f : Nat → Value) (k : Nat) (v : Value) : updV f k v k = v := if_pos rfl
theorem updV_other (f : Nat → Value) (k : Nat) (v : Value) {j : Nat} (h : j ≠ k) : updV f k v j = f j := if_neg h
theorem cf_set (N : Nat) (f : Nat → Value) (k : Nat) (v : Value) (h : k < N) : (cf N f).setIfInBounds k v = cf N (updV f k v) := by
  apply Array.ext
  · simp [cf]
  · intro i h1 h2
    have hi : i < N := by simpa [cf] using h2
    rw [Array.getElem_setIfInBounds (by simpa [cf] using hi)]
    by_cases e : k = i
    · subst e; simp [cf, updV]
    · rw [if_neg e]; simp [cf, updV, Ne.symm e]
theorem cf_of (cs : Array Value) : ∃ f, cs = cf cs.size f := by
  refine ⟨fun i => cs.getD i undef, ?_⟩
  apply Array.ext
  · simp [cf]
  · intro i h1 h2
    simp [cf, h1]
attribute [irreducible] cf
/-- the block g holds N cells -/
def BlkAt (w : World) (T g N : Nat) (f : Nat → Value) : Prop := w.heap[g]? = some (.cells (cf N f) T (0, 0))
section
variable {w w' : World} {T g N B : Nat} {f : Nat → Value}
theorem BlkAt.lt (h : BlkAt w T g N f) : g < w.heap.size := (Array.getElem?_eq_some_iff.1 h).1
theorem BlkAt.cell (h : BlkAt w T g N f) (k : Nat) (hk : k < N) : w.cell? ⟨g, k, none⟩ = some (f k) := by rw [cell_of_row w g k _ _ _ h, cf_get N f k hk]
theorem BlkAt.frozen (h : BlkAt w T g N f) (k : Nat) : w.frozen? ⟨g, k, none⟩ = false := frozen_of_row w g k _ _ h
theorem BlkAt.new (w : World) (T N : Nat) (f : Nat → Value) : BlkAt (w.alloc (.cells (cf N f) T)) T w.heap.size N f := heap_alloc_new w _
theorem BlkAt.alloc (h : BlkAt w T g N f) (o : Obj) : BlkAt (w.alloc o) T g N f := (Below.heap_alloc w o g h.lt).trans h
theorem BlkAt.drewN (h : BlkAt w T g N f) (n : Nat) : BlkAt (w.drewN n) T g N f := h
theorem BlkAt.below (h : BlkAt w T g N f) (hb : Below B w w') (hg : g < B) : BlkAt w' T g N f := (hb.block g hg).trans h
theorem BlkAt.setCell (h : BlkAt w T g N f) (k : Nat) (v : Value) (hk : k < N) : BlkAt (w.setCell ⟨g, k, none⟩ v) T g N (updV f k v) := by
  unfold BlkAt
  rw [heap_setCell_same w g k _ _ _ h, cf_set N f k v hk]
theorem BlkAt.setOther (h : BlkAt w T g N f) (a : Addr) (v : Value) (hne : g ≠ a.block) : BlkAt (w.setCell a v) T g N f := (heap_setCell_other w a g v hne).trans h
theorem BlkAt.setRowOther (h : BlkAt w T g N f) (j : Nat) (cs : Array Value) (hne : g ≠ j) : BlkAt (w.setRow j cs) T g N f := (setRow_other w j g cs hne).trans h
theorem BlkAt.congr {f' : Nat → Value} (h : BlkAt w T g N f) (e : ∀ k, k < N → f k = f' k) : BlkAt w T g N f' := by
  have e2 : cf N f = cf N f' := by
    apply Array.ext_getElem?
    intro i
    by_cases hi : i < N
    · rw [cf_get _ _ _ hi, cf_get _ _ _ hi, e i hi]
    · rw [Array.getElem?_eq_none (by rw [cf_size]; omega), Array.getElem?_eq_none (by rw [cf_size]; omega)]
  unfold BlkAt at *
  rw [h, e2]
end
theorem made_cf (z : Array Value) (n : Nat) : ∃ f, madeCells z n = cf n f := by
  obtain ⟨f, h⟩ := cf_of (madeCells z n)
  rw [size_madeCells] at h
  exact ⟨f, h⟩
/-- make([]T, n), n a variable, as the walk meets it -/
theorem run_make_n {P : Program} (w : World) (t e : TypeId) (i : TypeInfo) (z : Value) (ht : P.underlying t = some (.slice e)) (hi : P.info? e = some i) (hz : i.zero = some z) (size bytes n : Nat) (hs : i.size = size) (hb : i.bytes = bytes)
    (hn : bytes * n ≤ 281474976710656) (hm : n ≤ 9223372036854775807) :
    ∃ f, (Instr.makeSlice t (.int .i64 (n : Int)) (.int .i64 (n : Int))).run P w = .ok (.slice (some ⟨w.heap.size, 0, none⟩) n n) (w.alloc (.cells (cf (n * size) f) e)) := by
  subst hs hb
  have h := run_make (P := P) w t e i z ht hi hz .i64 .i64 n n (by omega) (by omega) (by rw [← Int.natCast_mul]; omega) (by omega)
  simp only [Int.toNat_natCast] at h
  obtain ⟨f, hf⟩ := made_cf z.cells (n * i.size)
  rw [hf] at h
  exact ⟨f, h⟩
end Go.Proofs.Ytlcfjeofphncgaa
