/- Programmes: their cells, copies, equality. No conditions. -/
import Derived.Test.YtfefclngfeihiaaSec
import Derived.Test.YtfefclngfeihiaaOwn
import Derived.Outline
namespace Go.Proofs.Ytfefclngfeihiaa
open Go.RowKit
set_option linter.unusedVariables false
set_option linter.unusedSimpArgs false

/-- the 48 cells of an order -/
def oc (O : Nat → Int) : Array Value := Array.ofFn (n := 48) fun i => .int .i8 (O i.val)
theorem oc_size (O : Nat → Int) : (oc O).size = 48 := by simp [oc]
theorem oc_get (O : Nat → Int) (k : Nat) (h : k < 48) : (oc O)[k]? = some (.int .i8 (O k)) := by simp [oc, h]
theorem oc_one (O : Nat → Int) : (oc O).all (·.oneCell') = true := by
  rw [Array.all_eq_true]; intro i h; simp [oc, Value.oneCell']
theorem oc_congr {O Q : Nat → Int} (h : ∀ k, k < 48 → O k = Q k) : oc O = oc Q := by
  unfold oc; congr 1; funext i; rw [h i.val i.isLt]
theorem oc_zero : oc (fun _ => 0) = Array.replicate 48 (Value.int .i8 0) := by
  apply Array.ext
  · simp [oc]
  · intro i h1 h2; simp [oc]
/-- the 49 cells of a programme -/
def pc (a : Option Addr) (n c : Nat) (O : Nat → Int) : Array Value := #[.slice a n c] ++ oc O
theorem pc_size (a : Option Addr) (n c : Nat) (O : Nat → Int) : (pc a n c O).size = 49 := by simp [pc, oc_size]
theorem pc_get0 (a : Option Addr) (n c : Nat) (O : Nat → Int) : (pc a n c O)[0]? = some (.slice a n c) := by
  unfold pc; rw [Array.getElem?_append_left (by simp)]; rfl
theorem pc_get (a : Option Addr) (n c : Nat) (O : Nat → Int) (k : Nat) (h : k < 48) : (pc a n c O)[1 + k]? = some (.int .i8 (O k)) := by
  unfold pc; rw [Array.getElem?_append_right (by simp)]; simp [oc_get O k h]
theorem pc_one (a : Option Addr) (n c : Nat) (O : Nat → Int) : (pc a n c O).all (·.oneCell') = true := by
  unfold pc; rw [Array.all_append, oc_one]; simp [Value.oneCell']
theorem pc_zero : pc none 0 0 (fun _ => 0) = #[.slice none 0 0] ++ Array.replicate 48 (Value.int .i8 0) := by unfold pc; rw [oc_zero]
def updI (O : Nat → Int) (k : Nat) (v : Int) : Nat → Int := fun j => if j = k then v else O j
theorem oc_set (O : Nat → Int) (k : Nat) (v : Int) (h : k < 48) : (oc O).setIfInBounds k (.int .i8 v) = oc (updI O k v) := by
  apply Array.ext
  · simp [oc]
  · intro i h1 h2
    have hi : i < 48 := by simpa [oc] using h2
    rw [Array.getElem_setIfInBounds (by simpa [oc] using hi)]
    by_cases e : k = i
    · subst e; simp [oc, updI]
    · rw [if_neg e]; simp [oc, updI, Ne.symm e]
attribute [irreducible] oc pc
theorem und_ord : Try.prog.underlying 28 = some (.array 48 27) := by kernel_rfl
theorem size_ord : (Try.prog.info? 28).map (·.size) = some 48 := by kernel_rfl
theorem zero_ord (w : World) : (zeroValue 28).run Try.prog w = .ok (.agg (Array.replicate 48 (.int .i8 0))) w := by kernel_rfl
theorem size_lprog : (Try.prog.info? 30).map (·.size) = some 49 := by kernel_rfl
theorem size_iprog : (Try.prog.info? 35).map (·.size) = some 49 := by kernel_rfl
theorem zero_iprog (w : World) : (zeroValue 35).run Try.prog w = .ok (.agg (#[.slice none 0 0] ++ Array.replicate 48 (.int .i8 0))) w := by kernel_rfl
section
variable {ops : Array Oper} {rest : List Oper} {o : Oper} {a : Act} {w W : World} {Q : Exit → Act → World → Prop}
theorem ex_load_lprog (x : Operand) (ho : o.op = .load 30 x) (g : Nat) (hx : a.eval x = .pointer (some ⟨g, 0, none⟩)) (T : Nat) (b : Option Addr) (n c : Nat) (O : Nat → Int)
    (hg : W.heap[g]? = some (.cells (pc b n c O) T (0, 0))) : (execOp a.eval o).run Try.prog W = .ok (.value (.agg (pc b n c O))) W := by
  unfold execOp; simp only [ho, hx, Instr.loadAt, Instr.sureAddr, Sem.run_bind, Sem.run_pure, Result.andThen_ok, run_loadVar_row W g T 30 _ (0, 0) _ hg Try.underlying30 rfl (by rw [pc_size]; exact size_lprog)]
theorem ex_load_iprog (x : Operand) (ho : o.op = .load 35 x) (g : Nat) (hx : a.eval x = .pointer (some ⟨g, 0, none⟩)) (T : Nat) (b : Option Addr) (n c : Nat) (O : Nat → Int)
    (hg : W.heap[g]? = some (.cells (pc b n c O) T (0, 0))) : (execOp a.eval o).run Try.prog W = .ok (.value (.agg (pc b n c O))) W := by
  unfold execOp; simp only [ho, hx, Instr.loadAt, Instr.sureAddr, Sem.run_bind, Sem.run_pure, Result.andThen_ok, run_loadVar_row W g T 35 _ (0, 0) _ hg Try.underlying35 rfl (by rw [pc_size]; exact size_iprog)]
theorem load_lprog (hgd : o.guard = none) (x : Operand) (ho : o.op = .load 30 x) (g : Nat) (hx : a.eval x = .pointer (some ⟨g, 0, none⟩)) (T : Nat) (b : Option Addr) (n c : Nat) (O : Nat → Int)
    (hg : w.heap[g]? = some (.cells (pc b n c O) T (0, 0))) (h : wpList Try.prog ops Q rest (a.put o.dst (.agg (pc b n c O))) w) : wpList Try.prog ops Q (o :: rest) a w :=
  wpList_load_row hgd _ x ho g hx T _ (0, 0) _ hg Try.underlying30 rfl (by rw [pc_size]; exact size_lprog) h
theorem load_iprog (hgd : o.guard = none) (x : Operand) (ho : o.op = .load 35 x) (g : Nat) (hx : a.eval x = .pointer (some ⟨g, 0, none⟩)) (T : Nat) (b : Option Addr) (n c : Nat) (O : Nat → Int)
    (hg : w.heap[g]? = some (.cells (pc b n c O) T (0, 0))) (h : wpList Try.prog ops Q rest (a.put o.dst (.agg (pc b n c O))) w) : wpList Try.prog ops Q (o :: rest) a w :=
  wpList_load_row hgd _ x ho g hx T _ (0, 0) _ hg Try.underlying35 rfl (by rw [pc_size]; exact size_iprog) h
theorem load_ord (hgd : o.guard = none) (x : Operand) (ho : o.op = .load 28 x) (g : Nat) (hx : a.eval x = .pointer (some ⟨g, 0, none⟩)) (T : Nat) (O : Nat → Int)
    (hg : w.heap[g]? = some (.cells (oc O) T (0, 0))) (h : wpList Try.prog ops Q rest (a.put o.dst (.agg (oc O))) w) : wpList Try.prog ops Q (o :: rest) a w :=
  wpList_load_row hgd _ x ho g hx T _ (0, 0) _ hg und_ord rfl (by rw [oc_size]; exact size_ord) h
/-- the order of a programme is read -/
theorem load_ord_mid (hgd : o.guard = none) (x : Operand) (ho : o.op = .load 28 x) (g : Nat) (hx : a.eval x = .pointer (some ⟨g, 1, none⟩)) (T : Nat) (b : Option Addr) (n c : Nat) (O : Nat → Int)
    (hg : w.heap[g]? = some (.cells (pc b n c O) T (0, 0))) (h : wpList Try.prog ops Q rest (a.put o.dst (.agg (oc O))) w) : wpList Try.prog ops Q (o :: rest) a w := by
  refine wpList_load_mid hgd _ x ho g 1 hx (oc O).toList _ (fun j v hv => ?_) und_ord rfl (by rw [Array.length_toList, oc_size]; exact size_ord) (by simpa using h)
  have hj : j < 48 := by have := (List.getElem?_eq_some_iff.1 hv).1; simpa [oc_size] using this
  have e : (oc O)[j]? = some v := by simpa using hv
  rw [oc_get O j hj] at e
  rw [cell_of_row w g (1 + j) _ _ _ hg, pc_get _ _ _ _ j hj, e]
theorem alloc_ord (hgd : o.guard = none) (ho : o.op = .alloc 28)
    (h : wpList Try.prog ops Q rest (a.put o.dst (.pointer (some ⟨w.heap.size, 0, none⟩))) (w.alloc (.cells (oc fun _ => 0) 28))) : wpList Try.prog ops Q (o :: rest) a w :=
  alloc_row hgd _ ho _ (by rw [oc_zero]; exact zero_ord w) h
theorem alloc_iprog (hgd : o.guard = none) (ho : o.op = .alloc 35)
    (h : wpList Try.prog ops Q rest (a.put o.dst (.pointer (some ⟨w.heap.size, 0, none⟩))) (w.alloc (.cells (pc none 0 0 fun _ => 0) 35))) : wpList Try.prog ops Q (o :: rest) a w :=
  alloc_row hgd _ ho _ (by rw [pc_zero]; exact zero_iprog w) h
theorem store_ord (hgd : o.guard = none) (x y : Operand) (ho : o.op = .store 28 x y) (g : Nat) (E : Nat → Int) (hx : a.eval x = .pointer (some ⟨g, 0, none⟩)) (hy : a.eval y = .agg (oc E)) (T : Nat) (D : Nat → Int) (hg : w.heap[g]? = some (.cells (oc D) T (0, 0)))
    (h : wpList Try.prog ops Q rest (a.put o.dst undef) (w.setRow g (oc E))) : wpList Try.prog ops Q (o :: rest) a w :=
  wpList_store_row hgd _ x y ho g (oc E) hx hy T (oc D) hg (by rw [oc_size]; exact size_ord) (by rw [oc_size, oc_size]) (oc_one E) h
theorem store_iprog (hgd : o.guard = none) (x y : Operand) (ho : o.op = .store 35 x y) (g : Nat) (b : Option Addr) (n c : Nat) (E : Nat → Int) (hx : a.eval x = .pointer (some ⟨g, 0, none⟩)) (hy : a.eval y = .agg (pc b n c E)) (T : Nat) (b' : Option Addr) (n' c' : Nat) (D : Nat → Int) (hg : w.heap[g]? = some (.cells (pc b' n' c' D) T (0, 0)))
    (h : wpList Try.prog ops Q rest (a.put o.dst undef) (w.setRow g (pc b n c E))) : wpList Try.prog ops Q (o :: rest) a w :=
  wpList_store_row hgd _ x y ho g (pc b n c E) hx hy T (pc b' n' c' D) hg (by rw [pc_size]; exact size_iprog) (by rw [pc_size, pc_size]) (pc_one _ _ _ _) h
/-- a copy of a programme is laid: what the world is then -/
theorem copy_prog {o2 o3 : Oper} (hg2 : o2.guard = none) (hg3 : o3.guard = none) (h2 : o2.op = .alloc 35) (x y : Operand) (h3 : o3.op = .store 35 x y) (b : Option Addr) (n c : Nat) (E : Nat → Int)
    (hx : (a.put o2.dst (.pointer (some ⟨w.heap.size, 0, none⟩))).eval x = .pointer (some ⟨w.heap.size, 0, none⟩)) (hy : (a.put o2.dst (.pointer (some ⟨w.heap.size, 0, none⟩))).eval y = .agg (pc b n c E))
    (h : ∀ W, Below w.heap.size w W → W.heap.size = w.heap.size + 1 → W.heap[w.heap.size]? = some (.cells (pc b n c E) 35 (0, 0)) → wpList Try.prog ops Q rest ((a.put o2.dst (.pointer (some ⟨w.heap.size, 0, none⟩))).put o3.dst undef) W) :
    wpList Try.prog ops Q (o2 :: o3 :: rest) a w := by
  refine alloc_iprog hg2 h2 (store_iprog hg3 x y h3 w.heap.size b n c E hx hy _ _ _ _ _ (heap_alloc_new w _) ?_)
  exact h _ (below_setRow ((Below.refl _ _).alloc (Nat.le_refl _) _) (Nat.le_refl _) _) (by simp) (setRow_heap _ _ _ _ _ _ (heap_alloc_new w _))
/-- the order of a programme is written -/
theorem store_ord_mid (hgd : o.guard = none) (x y : Operand) (ho : o.op = .store 28 x y) (g : Nat) (E : Nat → Int) (hx : a.eval x = .pointer (some ⟨g, 1, none⟩)) (hy : a.eval y = .agg (oc E)) (T : Nat) (b : Option Addr) (n c : Nat) (D : Nat → Int) (hg : w.heap[g]? = some (.cells (pc b n c D) T (0, 0)))
    (h : wpList Try.prog ops Q rest (a.put o.dst undef) (w.setRow g (pc b n c E))) : wpList Try.prog ops Q (o :: rest) a w := by
  have hr := run_storeCells_at (P := Try.prog) g 1 T (oc E).toList 0 (pc b n c D) w hg (by rw [Array.length_toList, oc_size, pc_size]; omega) (fun v hv => (Array.all_eq_true_iff_forall_mem.1 (oc_one E)) v (by simpa using hv))
  have e : ((pc b n c D).toList.take (1 + 0) ++ (oc E).toList ++ (pc b n c D).toList.drop (1 + 0 + (oc E).toList.length)).toArray = pc b n c E := by
    have h1 : (pc b n c D).toList = .slice b n c :: (oc D).toList := by unfold pc; simp
    have h2 : (oc E).toList.length = 48 := by rw [Array.length_toList, oc_size]
    have h3 : (oc D).toList.length = 48 := by rw [Array.length_toList, oc_size]
    rw [h1, h2]
    simp only [Nat.add_zero, List.take_succ_cons, List.take_zero, List.drop_succ_cons, show 1 + 48 = 48 + 1 from rfl]
    rw [List.drop_eq_nil_of_le (by omega), List.append_nil]
    unfold pc
    simp
  rw [e] at hr
  have hs : (sizeOf 28).run Try.prog w = .ok 48 w := by kernel_rfl
  refine wpList_plain hgd fun K hK => ?_
  unfold Oper.wp execOp
  have hz : (oc E).size = 48 := oc_size E
  simp only [ho, hx, hy, Instr.storeAt, Instr.sureAddr, Sem.run_bind, Sem.run_pure, Result.andThen_ok, storeVar, Value.cells, hs, hz, ne_eq, not_true_eq_false, if_false, hr]
  exact hK _ _ h
end
theorem pc_set0 (b b' : Option Addr) (n c n' c' : Nat) (D : Nat → Int) : (pc b' n' c' D).setIfInBounds 0 (.slice b n c) = pc b n c D := by
  unfold pc
  apply Array.ext_getElem?
  intro i
  rw [Array.getElem?_setIfInBounds]
  by_cases h : i = 0
  · subst h; rw [if_pos rfl, if_pos (by simp; omega), Array.getElem?_append_left (by simp)]; rfl
  · rw [if_neg (by omega), Array.getElem?_append_right (by simp; omega), Array.getElem?_append_right (by simp; omega)]
    rfl
/-- the first k are of the one, the others of the other -/
def mixI (F D : Nat → Int) (k : Nat) : Nat → Int := fun j => if j < k then F j else D j
theorem mixI_zero (F D : Nat → Int) : mixI F D 0 = D := by funext j; simp [mixI]
theorem mixI_upd (F D : Nat → Int) (k : Nat) : updI (mixI F D k) k (F k) = mixI F D (k + 1) := by
  funext j
  unfold updI mixI
  by_cases e : j = k
  · subst e; rw [if_pos rfl, if_pos (by omega)]
  · rw [if_neg e]
    by_cases h : j < k
    · rw [if_pos h, if_pos (by omega)]
    · rw [if_neg h, if_neg (by omega)]
theorem mixI_full (F D : Nat → Int) : oc (mixI F D 48) = oc F := oc_congr fun k hk => by unfold mixI; rw [if_pos hk]
theorem mixI_at (F D : Nat → Int) (k : Nat) : mixI F D k k = D k := by simp [mixI]
set_option maxRecDepth 100000 in
theorem toInt8A48_any (O : Nat → Int) (w : World) :
    Calls Try.prog 21 #[.agg (oc O)] w fun e w' => e = .returned (.agg (oc O)) ∧ Below w.heap.size w w' := by
  have KB := Kp.base w
  replace KB := KB.alloc (.cells (oc O) 28)
  have K0 := kp_new1 w (oc O) 28 (g := w.heap.size) (by simp)
  replace KB := KB.alloc (.cells (oc fun _ => 0) 28)
  replace K0 := K0.alloc (.cells (oc fun _ => 0) 28)
  have K1 := kp_new1 (w.alloc (.cells (oc O) 28)) (oc fun _ => 0) 28 (g := w.heap.size + 1) (by simp)
  replace KB := KB.alloc (.cells (oc fun _ => 0) 28)
  replace K0 := K0.alloc (.cells (oc fun _ => 0) 28)
  replace K1 := K1.alloc (.cells (oc fun _ => 0) 28)
  have K2 := kp_new1 ((w.alloc (.cells (oc O) 28)).alloc (.cells (oc fun _ => 0) 28)) (oc fun _ => 0) 28 (g := w.heap.size + 1 + 1) (by simp)
  have HZ := Lib.hid (show (((w.alloc (.cells (oc O) 28)).alloc (.cells (oc fun _ => 0) 28)).alloc (.cells (oc fun _ => 0) 28)).heap.size = w.heap.size + 1 + 1 + 1 by simp)
  go_enter Try.func21, Try.ntmps21
  go_wp2_with (with_reducible refine alloc_ord ?_ ?_ ?_; with_reducible rfl; with_reducible rfl)
  generalize (((w.alloc (.cells (oc O) 28)).alloc (.cells (oc fun _ => 0) 28)).alloc (.cells (oc fun _ => 0) 28)) = W at KB K0 K1 K2 HZ ⊢
  have HB := Lib.hid KB.here; have H0 := Lib.hid K0.here; have H1 := Lib.hid K1.here; have H2 := Lib.hid K2.here
  clear KB K0 K1 K2 HZ
  go_loopw [4] (fun i w' => Below w.heap.size w w' ∧ w'.heap[w.heap.size]? = some (.cells (oc O) 28 (0, 0)) ∧ w'.heap[w.heap.size + 1]? = some (.cells (oc fun _ => 0) 28 (0, 0)) ∧ ∃ k : Nat, k ≤ 48 ∧ i = .int .i64 k ∧ w'.heap[w.heap.size + 1 + 1]? = some (.cells (oc (mixI O (fun _ => 0) k)) 28 (0, 0))) (fun i _ => 48 - (intOf i).toNat)
  case atStart => exact ⟨HB.out, H0.out, H1.out, 0, by omega, rfl, by rw [mixI_zero]; exact H2.out⟩
  case round =>
    clear H0 H1 H2 HB
    obtain ⟨hb, h0, h1, k, hk, rfl, h2⟩ := hrel
    have H0 := Lib.hid h0; have H1 := Lib.hid h1; have H2 := Lib.hid h2; clear h0 h1 h2
    by_cases hlt : k < 48
    · have c0 : wr.cell? ⟨w.heap.size, k, none⟩ = some (.int .i8 (O k)) := by rw [row_cell k H0.out, oc_get O k hlt]
      have c2 : wr.cell? ⟨w.heap.size + 1 + 1, k, none⟩ = some (.int .i8 0) := by rw [row_cell k H2.out, oc_get _ k hlt, mixI_at]
      have hf := frozen_of_row wr (w.heap.size + 1 + 1) k _ _ H2.out
      go_wp2
      go_roundw
      case rel =>
        have h2 := heap_setCell_same wr (w.heap.size + 1 + 1) k _ _ (.int .i8 (O k)) H2.out
        rw [oc_set _ _ _ hlt, mixI_upd] at h2
        exact ⟨hb.setCell (by simp; omega) _, (heap_setCell_other wr _ _ _ (by simp; omega)).trans H0.out, (heap_setCell_other wr _ _ _ (by simp)).trans H1.out, k + 1, by omega, by go_num, h2⟩
      case measure => simp [intOf]; omega
    · have hk48 : k = 48 := by omega
      subst hk48
      have h2 := H2.out
      rw [mixI_full] at h2
      have h1 := H1.out
      have h1' := setRow_heap wr (w.heap.size + 1) _ (oc O) _ _ h1
      go_wp2_with (first | (with_reducible refine load_ord rfl _ rfl (w.heap.size + 1 + 1) rfl _ O h2 ?_) | (with_reducible refine store_ord rfl _ _ rfl (w.heap.size + 1) O rfl rfl _ _ h1 ?_))
      refine bodyPost_ret (results_cell_row rfl _ _ (w.heap.size + 1) _ (oc O) (0, 0) _ rfl h1' und_ord rfl (by rw [oc_size]; exact size_ord)) rfl ⟨rfl, below_setRow hb (by omega) _⟩
set_option maxRecDepth 100000 in
theorem toProgramme_own (a : Option Addr) (n c : Nat) (F S O : Nat → Int) (w : World) (hn : n ≤ 1048576) (hh : SecIn w a n F S) :
    Calls Try.prog 8 #[.agg (pc a n c O)] w fun e w' => ∃ b, e = .returned (.agg (pc b n n O)) ∧ Below w.heap.size w w' ∧ Kp w' (fun V => SecAt V b n F S) ∧ ∃ xs, Kp w' (fun V => V.ownsRow w.heap.size 55 2 (.slice b n n) n xs) := by
  have KB := Kp.base w; have KH := kp_secIn hh; clear hh
  replace KB := KB.alloc (.cells (pc a n c O) 30)
  replace KH := KH.alloc (.cells (pc a n c O) 30)
  have K0 := kp_new1 w (pc a n c O) 30 (g := w.heap.size) (by simp)
  replace KB := KB.alloc (.cells (pc none 0 0 fun _ => 0) 35)
  replace KH := KH.alloc (.cells (pc none 0 0 fun _ => 0) 35)
  replace K0 := K0.alloc (.cells (pc none 0 0 fun _ => 0) 35)
  have K1 := kp_new1 (w.alloc (.cells (pc a n c O) 30)) (pc none 0 0 fun _ => 0) 35 (g := w.heap.size + 1) (by simp)
  replace KB := KB.alloc (.cells (pc none 0 0 fun _ => 0) 35)
  replace KH := KH.alloc (.cells (pc none 0 0 fun _ => 0) 35)
  replace K0 := K0.alloc (.cells (pc none 0 0 fun _ => 0) 35)
  replace K1 := K1.alloc (.cells (pc none 0 0 fun _ => 0) 35)
  have K2 := kp_new1 ((w.alloc (.cells (pc a n c O) 30)).alloc (.cells (pc none 0 0 fun _ => 0) 35)) (pc none 0 0 fun _ => 0) 35 (g := w.heap.size + 1 + 1) (by simp)
  have HZ := Lib.hid (show (((w.alloc (.cells (pc a n c O) 30)).alloc (.cells (pc none 0 0 fun _ => 0) 35)).alloc (.cells (pc none 0 0 fun _ => 0) 35)).heap.size = w.heap.size + 1 + 1 + 1 by simp)
  have d0 := row_cell 0 K0.here
  rw [pc_get0] at d0
  have D0 := Lib.hid d0; clear d0
  go_enter Try.func8, Try.ntmps8
  have d0 := D0.out
  go_wp2_with (with_reducible refine alloc_iprog ?_ ?_ ?_; with_reducible rfl; with_reducible rfl)
  generalize (((w.alloc (.cells (pc a n c O) 30)).alloc (.cells (pc none 0 0 fun _ => 0) 35)).alloc (.cells (pc none 0 0 fun _ => 0) 35)) = W at KB KH K0 K1 K2 HZ ⊢
  have hz := HZ.out
  clear d0 D0 HZ
  refine (toSectionS_any a n c F S W hn KH.here).mono ?_
  rintro e w1 ⟨rfl, hb1, f, hB, hF⟩
  have hBl := hB.lt
  have HS1 := Lib.hid (hB.setOther ⟨w.heap.size + 1 + 1, 0, none⟩ (.slice (some ⟨W.heap.size, 0, none⟩) n n) (by simp; omega))
  have HSF := Lib.hid hF
  clear hB hF
  replace KB := KB.on hb1
  replace K0 := K0.on hb1
  replace K1 := K1.on hb1
  replace K2 := K2.on hb1
  have hz1 : w.heap.size + 1 + 1 + 1 ≤ w1.heap.size := by have := hb1.size; omega
  have HB := Lib.hid KB.here; have H0 := Lib.hid K0.here; have H1 := Lib.hid K1.here; have H2 := Lib.hid K2.here
  clear KB K0 K1 K2 hb1
  have c2 := row_cell 0 H2.out
  rw [pc_get0] at c2
  have f2 := frozen_of_row w1 (w.heap.size + 1 + 1) 0 _ _ H2.out
  obtain ⟨b, hb⟩ : ∃ b, b = some ({ block := W.heap.size, off := 0 } : Addr) := ⟨_, rfl⟩
  rw [← hb] at HS1 ⊢
  have HBD := Lib.hid hb; clear hb
  have H3 := Lib.hid (show (w1.setCell ⟨w.heap.size + 1 + 1, 0, none⟩ (.slice b n n)).heap[w.heap.size + 1 + 1]? = some (.cells (pc b n n fun _ => 0) 35 (0, 0)) by
    have h := heap_setCell_same w1 (w.heap.size + 1 + 1) 0 _ _ (.slice b n n) H2.out
    rw [pc_set0] at h
    exact h)
  have G0 := Lib.hid ((heap_setCell_other w1 ⟨w.heap.size + 1 + 1, 0, none⟩ w.heap.size (.slice b n n) (by simp; omega)).trans H0.out)
  have G1 := Lib.hid ((heap_setCell_other w1 ⟨w.heap.size + 1 + 1, 0, none⟩ (w.heap.size + 1) (.slice b n n) (by simp)).trans H1.out)
  have GB := Lib.hid (HB.out.setCell (p := ⟨w.heap.size + 1 + 1, 0, none⟩) (by simp; omega) (.slice b n n))
  have GS := Lib.hid (show (w1.setCell ⟨w.heap.size + 1 + 1, 0, none⟩ (.slice b n n)).heap.size = w1.heap.size by simp)
  go_wp2_with (with_reducible refine load_ord_mid rfl _ rfl w.heap.size rfl _ a n c O G0.out ?_)
  generalize w1.setCell ⟨w.heap.size + 1 + 1, 0, none⟩ (.slice b n n) = w1' at H3 G0 G1 GB GS HS1 ⊢
  have gs := GS.out
  refine (toInt8A48_any O _).mono ?_
  rintro e w2 ⟨rfl, hb2⟩
  have hs2 := hb2.size
  have I3 := (hb2.block (w.heap.size + 1 + 1) (by omega)).trans H3.out
  have I1 := (hb2.block (w.heap.size + 1) (by omega)).trans G1.out
  have GB2 := Lib.hid (GB.out.trans (hb2.mono (by omega)))
  have HS2 := Lib.hid ((HS1.out.below hb2 (by omega)).setRowOther (w.heap.size + 1 + 1) (pc b n n O) (by omega))
  clear hb2 HS1 H0 H1 H2 H3 G0 G1 GB c2 f2 HB
  have I4 := setRow_heap w2 (w.heap.size + 1 + 1) _ (pc b n n O) _ _ I3
  have I5 := (setRow_other w2 (w.heap.size + 1 + 1) (w.heap.size + 1) (pc b n n O) (by omega)).trans I1
  have I6 := setRow_heap _ (w.heap.size + 1) _ (pc b n n O) _ _ I5
  go_wp2_with (first | (with_reducible refine store_ord_mid rfl _ _ rfl (w.heap.size + 1 + 1) O rfl rfl _ b n n (fun _ => 0) I3 ?_) | (with_reducible refine load_iprog rfl _ rfl (w.heap.size + 1 + 1) rfl _ b n n O I4 ?_) | (with_reducible refine store_iprog rfl _ _ rfl (w.heap.size + 1) b n n O rfl rfl _ none 0 0 (fun _ => 0) I5 ?_))
  refine bodyPost_ret (results_cell_row rfl _ _ (w.heap.size + 1) _ (pc b n n O) (0, 0) _ rfl I6 Try.underlying35 rfl (by rw [pc_size]; exact size_iprog)) rfl ⟨_, rfl, below_setRow (below_setRow GB2.out (by omega) _) (by omega) _, ?_⟩
  have h := HS2.out.setRowOther (w.heap.size + 1) (pc b n n O) (by omega)
  rw [HBD.out]
  rw [HBD.out] at h
  exact ⟨kp_sec (HSF.out.at h), _, kp_ownR (own_blk h (by omega) (by omega) (by unfold maxLen; omega))⟩
theorem toProgramme_kp (a : Option Addr) (n c : Nat) (F S O : Nat → Int) (w : World) (hn : n ≤ 1048576) (hh : SecIn w a n F S) :
    Calls Try.prog 8 #[.agg (pc a n c O)] w fun e w' => ∃ b, e = .returned (.agg (pc b n n O)) ∧ Below w.heap.size w w' ∧ Kp w' (fun V => SecAt V b n F S) :=
  (toProgramme_own a n c F S O w hn hh).mono fun _ _ ⟨b, he, hb, hk, _⟩ => ⟨b, he, hb, hk⟩
set_option maxRecDepth 100000 in
theorem szProgramme_kp (a : Option Addr) (n c : Nat) (O : Nat → Int) (l : Int) (w : World) (hn : n ≤ 9223372036854775807) (hl : 0 ≤ l ∧ l ≤ 1048576) :
    Calls Try.prog 5 #[.agg (pc a n c O), .int .i64 l] w fun e w' => e = .returned (.int .i64 (szOf l n)) ∧ Below w.heap.size w w' := by
  have KB := Kp.base w
  replace KB := KB.alloc (.cells (pc a n c O) 30)
  have K0 := kp_new1 w (pc a n c O) 30 (g := w.heap.size) (by simp)
  have HZ := Lib.hid (show (w.alloc (.cells (pc a n c O) 30)).heap.size = w.heap.size + 1 by simp)
  have d0 := row_cell 0 K0.here
  rw [pc_get0] at d0
  have D0 := Lib.hid d0; clear d0
  by_cases h : l < n
  · go_enter Try.func5, Try.ntmps5
    have d0 := D0.out
    go_wp2_with (go_at_call 16; refine (szSectionS_any a n c l _ hn hl).mono ?_; rw [szOf_lt h]; rintro e w' ⟨rfl, rfl⟩)
    go_ret
    exact ⟨ret_int (by rw [szOf_lt h]), KB.here⟩
  · go_enter Try.func5, Try.ntmps5
    have d0 := D0.out
    go_wp2_with (go_at_call 16; refine (szSectionS_any a n c l _ hn hl).mono ?_; rw [szOf_ge (by omega)]; rintro e w' ⟨rfl, rfl⟩)
    go_ret
    exact ⟨ret_int (by rw [szOf_ge (by omega)]), KB.here⟩
set_option maxRecDepth 100000 in
theorem eqInt8A48_any (O : Nat → Int) (w : World) :
    Calls Try.prog 30 #[.agg (oc O), .agg (oc O)] w fun e w' => e = .returned (.bool true) ∧ Below w.heap.size w w' := by
  have KB := Kp.base w
  replace KB := KB.alloc (.cells (oc O) 28)
  have K0 := kp_new1 w (oc O) 28 (g := w.heap.size) (by simp)
  replace KB := KB.alloc (.cells (oc O) 28)
  replace K0 := K0.alloc (.cells (oc O) 28)
  have K1 := kp_new1 (w.alloc (.cells (oc O) 28)) (oc O) 28 (g := w.heap.size + 1) (by simp)
  have HZ := Lib.hid (show ((w.alloc (.cells (oc O) 28)).alloc (.cells (oc O) 28)).heap.size = w.heap.size + 1 + 1 by simp)
  go_enter Try.func30, Try.ntmps30
  go_wp2
  generalize ((w.alloc (.cells (oc O) 28)).alloc (.cells (oc O) 28)) = W at KB K0 K1 HZ ⊢
  go_loopw [5] (fun i w' => Below W.heap.size W w' ∧ ∃ k : Nat, k ≤ 48 ∧ i = .int .i64 k) (fun i _ => 48 - (intOf i).toNat)
  case atStart => exact ⟨Below.refl _ _, 0, by omega, rfl⟩
  case round =>
    obtain ⟨hb, k, hk, rfl⟩ := hrel
    replace KB := KB.on hb
    replace K0 := K0.on hb
    replace K1 := K1.on hb
    by_cases hlt : k < 48
    · have c0 : wr.cell? ⟨w.heap.size, k, none⟩ = some (.int .i8 (O k)) := by rw [row_cell k K0.here, oc_get O k hlt]
      have c1 : wr.cell? ⟨w.heap.size + 1, k, none⟩ = some (.int .i8 (O k)) := by rw [row_cell k K1.here, oc_get O k hlt]
      go_wp2
      go_quiet (fail)
      go_wp2
      go_roundw
      case rel => exact ⟨below_drewN hb _, k + 1, by omega, by go_num⟩
      case measure => simp [intOf]; omega
    · go_wp2
      go_ret
      exact ⟨rfl, KB.here⟩
set_option maxRecDepth 100000 in
theorem eqProgramme_kp (a b : Option Addr) (n c d : Nat) (F S O : Nat → Int) (w : World) (hn : n ≤ 1000000000) (ha : SecAt w a n F S) (hb : SecAt w b n F S) :
    Calls Try.prog 10 #[.agg (pc a n c O), .agg (pc b n d O)] w fun e w' => e = .returned (.bool true) ∧ Below w.heap.size w w' := by
  have KB := Kp.base w; have KA := kp_sec ha; have KC := kp_sec hb; clear ha hb
  replace KB := KB.alloc (.cells (pc a n c O) 35)
  replace KA := KA.alloc (.cells (pc a n c O) 35)
  replace KC := KC.alloc (.cells (pc a n c O) 35)
  have K0 := kp_new1 w (pc a n c O) 35 (g := w.heap.size) (by simp)
  replace KB := KB.alloc (.cells (pc b n d O) 35)
  replace KA := KA.alloc (.cells (pc b n d O) 35)
  replace KC := KC.alloc (.cells (pc b n d O) 35)
  replace K0 := K0.alloc (.cells (pc b n d O) 35)
  have K1 := kp_new1 (w.alloc (.cells (pc a n c O) 35)) (pc b n d O) 35 (g := w.heap.size + 1) (by simp)
  have HZ := Lib.hid (show ((w.alloc (.cells (pc a n c O) 35)).alloc (.cells (pc b n d O) 35)).heap.size = w.heap.size + 1 + 1 by simp)
  have d0 := row_cell 0 K0.here
  have d1 := row_cell 0 K1.here
  rw [pc_get0] at d0 d1
  have D0 := Lib.hid d0; have D1 := Lib.hid d1; clear d0 d1
  go_enter Try.func10, Try.ntmps10
  have d0 := D0.out; have d1 := D1.out
  go_wp2_with fail
  clear d0 d1 D0 D1
  generalize ((w.alloc (.cells (pc a n c O) 35)).alloc (.cells (pc b n d O) 35)) = W at KB KA KC K0 K1 HZ ⊢
  refine (eqSectionS_any a b n c d F S W (by omega) KA.here KC.here).mono ?_
  rintro e w1 ⟨rfl, hb1⟩
  replace KB := KB.on hb1
  replace K0 := K0.on hb1
  replace K1 := K1.on hb1
  clear hb1
  go_wp2_with (first | (with_reducible refine load_ord_mid rfl _ rfl w.heap.size rfl _ a n c O K0.here ?_) | (with_reducible refine load_ord_mid rfl _ rfl (w.heap.size + 1) rfl _ b n d O K1.here ?_))
  refine (eqInt8A48_any O w1).mono ?_
  rintro e w2 ⟨rfl, hb2⟩
  go_wp2
  go_ret
  exact ⟨rfl, KB.at hb2⟩
end Go.Proofs.Ytfefclngfeihiaa
