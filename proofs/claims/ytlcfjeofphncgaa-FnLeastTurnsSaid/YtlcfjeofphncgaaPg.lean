/- Programmes: their cells, copies, equality. No conditions. -/
import Derived.Test.YtlcfjeofphncgaaSec
import Derived.Test.YtlcfjeofphncgaaOwn
import Derived.Outline
namespace Go.Proofs.Ytlcfjeofphncgaa
open Go.RowKit
set_option linter.unusedVariables false
set_option linter.unusedSimpArgs false

/-- the 48 cells of an order -/
def oc (O : Nat → Int) : Array Value := Array.ofFn (n := 48) fun i => .int .i8 (O i.val)
theorem oc_size (O : Nat → Int) : (oc O).size = 48 := by simp [oc]
theorem oc_get (O : Nat → Int) (k : Nat) (h : k < 48) : (oc O)[k]? = some (.int .i8 (O k)) := by simp [oc, h]
theorem oc_one (O : Nat → Int) : (oc O).all (·.oneCell') = true := by
  rw [Array.all_eq_true]; intro i h; simp [oc, Value.oneCell']
theorem oc_congr {O Q : Nat → Int} (h : ∀ k, k < 48 → O k = Q k) : oc O = oc Q := by
  unfold oc; congr 1; funext i; rw [h i.val i.isLt]
theorem oc_zero : oc (fun _ => 0) = Array.replicate 48 (Value.int .i8 0) := by
  apply Array.ext
  · simp [oc]
  · intro i h1 h2; simp [oc]
/-- the 49 cells of a programme -/
def pc (a : Option Addr) (n c : Nat) (O : Nat → Int) : Array Value := #[.slice a n c] ++ oc O
theorem pc_size (a : Option Addr) (n c : Nat) (O : Nat → Int) : (pc a n c O).size = 49 := by simp [pc, oc_size]
theorem pc_get0 (a : Option Addr) (n c : Nat) (O : Nat → Int) : (pc a n c O)[0]? = some (.slice a n c) := by
  unfold pc; rw [Array.getElem?_append_left (by simp)]; rfl
theorem pc_get (a : Option Addr) (n c : Nat) (O : Nat → Int) (k : Nat) (h : k < 48) : (pc a n c O)[1 + k]? = some (.int .i8 (O k)) := by
  unfold pc; rw [Array.getElem?_append_right (by simp)]; simp [oc_get O k h]
theorem pc_one (a : Option Addr) (n c : Nat) (O : Nat → Int) : (pc a n c O).all (·.oneCell') = true := by
  unfold pc; rw [Array.all_append, oc_one]; simp [Value.oneCell']
theorem pc_zero : pc none 0 0 (fun _ => 0) = #[.slice none 0 0] ++ Array.replicate 48 (Value.int .i8 0) := by unfold pc; rw [oc_zero]
def updI (O : Nat → Int) (k : Nat) (v : Int) : Nat → Int := fun j => if j = k then v else O j
theorem oc_set (O : Nat → Int) (k : Nat) (v : Int) (h : k < 48) : (oc O).setIfInBounds k (.int .i8 v) = oc (updI O k v) := by
  apply Array.ext
  · simp [oc]
  · intro i h1 h2
    have hi : i < 48 := by simpa [oc] using h2
    rw [Array.getElem_setIfInBounds (by simpa [oc] using hi)]
    by_cases e : k = i
    · subst e; simp [oc, updI]
    · rw [if_neg e]; simp [oc, updI, Ne.symm e]
attribute [irreducible] oc pc
theorem und_ord : Try.prog.underlying 49 = some (.array 48 48) := by kernel_rfl
theorem size_ord : (Try.prog.info? 49).map (·.size) = some 48 := by kernel_rfl
theorem zero_ord (w : World) : (zeroValue 49).run Try.prog w = .ok (.agg (Array.replicate 48 (.int .i8 0))) w := by kernel_rfl
theorem size_iprog : (Try.prog.info? 51).map (·.size) = some 49 := by kernel_rfl
theorem zero_iprog (w : World) : (zeroValue 51).run Try.prog w = .ok (.agg (#[.slice none 0 0] ++ Array.replicate 48 (.int .i8 0))) w := by kernel_rfl
section
variable {ops : Array Oper} {rest : List Oper} {o : Oper} {a : Act} {w W : World} {Q : Exit → Act → World → Prop}
theorem ex_load_iprog (x : Operand) (ho : o.op = .load 51 x) (g : Nat) (hx : a.eval x = .pointer (some ⟨g, 0, none⟩)) (T : Nat) (b : Option Addr) (n c : Nat) (O : Nat → Int)
    (hg : W.heap[g]? = some (.cells (pc b n c O) T (0, 0))) : (execOp a.eval o).run Try.prog W = .ok (.value (.agg (pc b n c O))) W := by
  unfold execOp; simp only [ho, hx, Instr.loadAt, Instr.sureAddr, Sem.run_bind, Sem.run_pure, Result.andThen_ok, run_loadVar_row W g T 51 _ (0, 0) _ hg Try.underlying51 rfl (by rw [pc_size]; exact size_iprog)]
theorem load_iprog (hgd : o.guard = none) (x : Operand) (ho : o.op = .load 51 x) (g : Nat) (hx : a.eval x = .pointer (some ⟨g, 0, none⟩)) (T : Nat) (b : Option Addr) (n c : Nat) (O : Nat → Int)
    (hg : w.heap[g]? = some (.cells (pc b n c O) T (0, 0))) (h : wpList Try.prog ops Q rest (a.put o.dst (.agg (pc b n c O))) w) : wpList Try.prog ops Q (o :: rest) a w :=
  wpList_load_row hgd _ x ho g hx T _ (0, 0) _ hg Try.underlying51 rfl (by rw [pc_size]; exact size_iprog) h
theorem load_ord (hgd : o.guard = none) (x : Operand) (ho : o.op = .load 49 x) (g : Nat) (hx : a.eval x = .pointer (some ⟨g, 0, none⟩)) (T : Nat) (O : Nat → Int)
    (hg : w.heap[g]? = some (.cells (oc O) T (0, 0))) (h : wpList Try.prog ops Q rest (a.put o.dst (.agg (oc O))) w) : wpList Try.prog ops Q (o :: rest) a w :=
  wpList_load_row hgd _ x ho g hx T _ (0, 0) _ hg und_ord rfl (by rw [oc_size]; exact size_ord) h
/-- the order of a programme is read -/
theorem load_ord_mid (hgd : o.guard = none) (x : Operand) (ho : o.op = .load 49 x) (g : Nat) (hx : a.eval x = .pointer (some ⟨g, 1, none⟩)) (T : Nat) (b : Option Addr) (n c : Nat) (O : Nat → Int)
    (hg : w.heap[g]? = some (.cells (pc b n c O) T (0, 0))) (h : wpList Try.prog ops Q rest (a.put o.dst (.agg (oc O))) w) : wpList Try.prog ops Q (o :: rest) a w := by
  refine wpList_load_mid hgd _ x ho g 1 hx (oc O).toList _ (fun j v hv => ?_) und_ord rfl (by rw [Array.length_toList, oc_size]; exact size_ord) (by simpa using h)
  have hj : j < 48 := by have := (List.getElem?_eq_some_iff.1 hv).1; simpa [oc_size] using this
  have e : (oc O)[j]? = some v := by simpa using hv
  rw [oc_get O j hj] at e
  rw [cell_of_row w g (1 + j) _ _ _ hg, pc_get _ _ _ _ j hj, e]
theorem alloc_ord (hgd : o.guard = none) (ho : o.op = .alloc 49)
    (h : wpList Try.prog ops Q rest (a.put o.dst (.pointer (some ⟨w.heap.size, 0, none⟩))) (w.alloc (.cells (oc fun _ => 0) 49))) : wpList Try.prog ops Q (o :: rest) a w :=
  alloc_row hgd _ ho _ (by rw [oc_zero]; exact zero_ord w) h
theorem alloc_iprog (hgd : o.guard = none) (ho : o.op = .alloc 51)
    (h : wpList Try.prog ops Q rest (a.put o.dst (.pointer (some ⟨w.heap.size, 0, none⟩))) (w.alloc (.cells (pc none 0 0 fun _ => 0) 51))) : wpList Try.prog ops Q (o :: rest) a w :=
  alloc_row hgd _ ho _ (by rw [pc_zero]; exact zero_iprog w) h
theorem store_ord (hgd : o.guard = none) (x y : Operand) (ho : o.op = .store 49 x y) (g : Nat) (E : Nat → Int) (hx : a.eval x = .pointer (some ⟨g, 0, none⟩)) (hy : a.eval y = .agg (oc E)) (T : Nat) (D : Nat → Int) (hg : w.heap[g]? = some (.cells (oc D) T (0, 0)))
    (h : wpList Try.prog ops Q rest (a.put o.dst undef) (w.setRow g (oc E))) : wpList Try.prog ops Q (o :: rest) a w :=
  wpList_store_row hgd _ x y ho g (oc E) hx hy T (oc D) hg (by rw [oc_size]; exact size_ord) (by rw [oc_size, oc_size]) (oc_one E) h
theorem store_iprog (hgd : o.guard = none) (x y : Operand) (ho : o.op = .store 51 x y) (g : Nat) (b : Option Addr) (n c : Nat) (E : Nat → Int) (hx : a.eval x = .pointer (some ⟨g, 0, none⟩)) (hy : a.eval y = .agg (pc b n c E)) (T : Nat) (b' : Option Addr) (n' c' : Nat) (D : Nat → Int) (hg : w.heap[g]? = some (.cells (pc b' n' c' D) T (0, 0)))
    (h : wpList Try.prog ops Q rest (a.put o.dst undef) (w.setRow g (pc b n c E))) : wpList Try.prog ops Q (o :: rest) a w :=
  wpList_store_row hgd _ x y ho g (pc b n c E) hx hy T (pc b' n' c' D) hg (by rw [pc_size]; exact size_iprog) (by rw [pc_size, pc_size]) (pc_one _ _ _ _) h
/-- a copy of a programme is laid: what the world is then -/
theorem copy_prog {o2 o3 : Oper} (hg2 : o2.guard = none) (hg3 : o3.guard = none) (h2 : o2.op = .alloc 51) (x y : Operand) (h3 : o3.op = .store 51 x y) (b : Option Addr) (n c : Nat) (E : Nat → Int)
    (hx : (a.put o2.dst (.pointer (some ⟨w.heap.size, 0, none⟩))).eval x = .pointer (some ⟨w.heap.size, 0, none⟩)) (hy : (a.put o2.dst (.pointer (some ⟨w.heap.size, 0, none⟩))).eval y = .agg (pc b n c E))
    (h : ∀ W, Below w.heap.size w W → W.heap.size = w.heap.size + 1 → W.heap[w.heap.size]? = some (.cells (pc b n c E) 51 (0, 0)) → wpList Try.prog ops Q rest ((a.put o2.dst (.pointer (some ⟨w.heap.size, 0, none⟩))).put o3.dst undef) W) :
    wpList Try.prog ops Q (o2 :: o3 :: rest) a w := by
  refine alloc_iprog hg2 h2 (store_iprog hg3 x y h3 w.heap.size b n c E hx hy _ _ _ _ _ (heap_alloc_new w _) ?_)
  exact h _ (below_setRow ((Below.refl _ _).alloc (Nat.le_refl _) _) (Nat.le_refl _) _) (by simp) (setRow_heap _ _ _ _ _ _ (heap_alloc_new w _))
/-- the order of a programme is written -/
theorem store_ord_mid (hgd : o.guard = none) (x y : Operand) (ho : o.op = .store 49 x y) (g : Nat) (E : Nat → Int) (hx : a.eval x = .pointer (some ⟨g, 1, none⟩)) (hy : a.eval y = .agg (oc E)) (T : Nat) (b : Option Addr) (n c : Nat) (D : Nat → Int) (hg : w.heap[g]? = some (.cells (pc b n c D) T (0, 0)))
    (h : wpList Try.prog ops Q rest (a.put o.dst undef) (w.setRow g (pc b n c E))) : wpList Try.prog ops Q (o :: rest) a w := by
  have hr := run_storeCells_at (P := Try.prog) g 1 T (oc E).toList 0 (pc b n c D) w hg (by rw [Array.length_toList, oc_size, pc_size]; omega) (fun v hv => (Array.all_eq_true_iff_forall_mem.1 (oc_one E)) v (by simpa using hv))
  have e : ((pc b n c D).toList.take (1 + 0) ++ (oc E).toList ++ (pc b n c D).toList.drop (1 + 0 + (oc E).toList.length)).toArray = pc b n c E := by
    have h1 : (pc b n c D).toList = .slice b n c :: (oc D).toList := by unfold pc; simp
    have h2 : (oc E).toList.length = 48 := by rw [Array.length_toList, oc_size]
    have h3 : (oc D).toList.length = 48 := by rw [Array.length_toList, oc_size]
    rw [h1, h2]
    simp only [Nat.add_zero, List.take_succ_cons, List.take_zero, List.drop_succ_cons, show 1 + 48 = 48 + 1 from rfl]
    rw [List.drop_eq_nil_of_le (by omega), List.append_nil]
    unfold pc
    simp
  rw [e] at hr
  have hs : (sizeOf 49).run Try.prog w = .ok 48 w := by kernel_rfl
  refine wpList_plain hgd fun K hK => ?_
  unfold Oper.wp execOp
  have hz : (oc E).size = 48 := oc_size E
  simp only [ho, hx, hy, Instr.storeAt, Instr.sureAddr, Sem.run_bind, Sem.run_pure, Result.andThen_ok, storeVar, Value.cells, hs, hz, ne_eq, not_true_eq_false, if_false, hr]
  exact hK _ _ h
end
theorem pc_set0 (b b' : Option Addr) (n c n' c' : Nat) (D : Nat → Int) : (pc b' n' c' D).setIfInBounds 0 (.slice b n c) = pc b n c D := by
  unfold pc
  apply Array.ext_getElem?
  intro i
  rw [Array.getElem?_setIfInBounds]
  by_cases h : i = 0
  · subst h; rw [if_pos rfl, if_pos (by simp; omega), Array.getElem?_append_left (by simp)]; rfl
  · rw [if_neg (by omega), Array.getElem?_append_right (by simp; omega), Array.getElem?_append_right (by simp; omega)]
    rfl
/-- the first k are of the one, the others of the other -/
def mixI (F D : Nat → Int) (k : Nat) : Nat → Int := fun j => if j < k then F j else D j
theorem mixI_zero (F D : Nat → Int) : mixI F D 0 = D := by funext j; simp [mixI]
theorem mixI_upd (F D : Nat → Int) (k : Nat) : updI (mixI F D k) k (F k) = mixI F D (k + 1) := by
  funext j
  unfold updI mixI
  by_cases e : j = k
  · subst e; rw [if_pos rfl, if_pos (by omega)]
  · rw [if_neg e]
    by_cases h : j < k
    · rw [if_pos h, if_pos (by omega)]
    · rw [if_neg h, if_neg (by omega)]
theorem mixI_full (F D : Nat → Int) : oc (mixI F D 48) = oc F := oc_congr fun k hk => by unfold mixI; rw [if_pos hk]
theorem mixI_at (F D : Nat → Int) (k : Nat) : mixI F D k k = D k := by simp [mixI]
end Go.Proofs.Ytlcfjeofphncgaa
