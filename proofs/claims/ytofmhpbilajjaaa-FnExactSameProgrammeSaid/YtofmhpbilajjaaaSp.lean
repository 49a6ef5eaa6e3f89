/- SameProgramme, by the reference and by the program. No conditions. -/
import Derived.Test.YtofmhpbilajjaaaPg
import Derived.ChangeKeysEq
import Derived.Outline
namespace Go.Proofs.Ytofmhpbilajjaaa
open Go.RowKit
set_option linter.unusedVariables false
set_option linter.unusedSimpArgs false

/-- two orders are the same -/
def eqO (O Q : Nat → Int) : Bool := (List.range 48).all fun k => O k == Q k
theorem eq_items (d : Nat) (O Q : Nat → Int) (w : World) : ∀ is : List Nat, (∀ i ∈ is, i < 48) → (Op.eqItems (d + 1) 30 1 (oc O) (oc Q) is).run Try.prog w = .ok (is.all fun k => O k == Q k) w
  | [], _ => by simp [Op.eqItems]
  | i :: is, h => by
    have hi := h i (by simp)
    have hp : ∀ (E : Nat → Int), (part 30 (oc E) (i * 1)).run Try.prog w = .ok (.int .i8 (E i)) w := fun E => by
      have ha : (isAgg 30).run Try.prog w = .ok false w := by kernel_rfl
      simp only [part, Sem.run_bind, ha, Result.andThen_ok, Nat.mul_one, oc_get E i hi]
      rfl
    have ih := eq_items d O Q w is (fun j hj => h j (by simp [hj]))
    have he := run_equalIn_int (P := Try.prog) (w := w) d 30 .i8 .i8 (O i) (Q i) Try.underlying30
    simp only [Op.eqItems, Sem.run_bind, hp, Result.andThen_ok, he]
    cases hq : (O i == Q i)
    · simp [hq]
    · simp [hq, ih]
theorem cells_i8 : Try.prog.cellsOf 30 = 1 := by kernel_rfl
theorem run_eq_ord (O Q : Nat → Int) (w : World) : (Op.equalIn 10000 31 (.agg (oc O)) (.agg (oc Q))).run Try.prog w = .ok (eqO O Q) w := by
  obtain ⟨i, hi⟩ := info_of_underlying (P := Try.prog) Try.underlying30
  rw [show (10000 : Nat) = 9999 + 1 from rfl, run_equalIn_array w 9999 (oc O) (oc Q) und_ord hi, cells_i8, show (9999 : Nat) = 9998 + 1 from rfl, eq_items 9998 O Q w _ (fun i hi => by simpa using hi)]
  rfl
attribute [irreducible] eqO
/-- sections are the same -/
def eqS (m m' : Nat) (F S F' S' : Nat → Int) : Bool := decide (m = m') && (List.range m).all fun k => decide (F k = F' k ∧ S k = S' k)
theorem eqS_iff {m m' : Nat} {F S F' S' : Nat → Int} : eqS m m' F S F' S' = true ↔ m = m' ∧ ∀ k, k < m → F k = F' k ∧ S k = S' k := by
  simp only [eqS, Bool.and_eq_true, decide_eq_true_eq, List.all_eq_true, List.mem_range]
theorem eqS_false {m m' : Nat} {F S F' S' : Nat → Int} (h : ¬ (m = m' ∧ ∀ k, k < m → F k = F' k ∧ S k = S' k)) : eqS m m' F S F' S' = false := by
  rw [← Bool.not_eq_true, eqS_iff]; exact h
attribute [irreducible] eqS
set_option maxRecDepth 100000 in
set_option maxHeartbeats 1000000 in
theorem equalSec_any (a : Option Addr) (n c : Nat) (F S : Nat → Int) (a' : Option Addr) (n' c' : Nat) (F' S' : Nat → Int) (w : World) (hn : n ≤ 1048576) (hn' : n' ≤ 1048576) (ha : SecAt w a n F S) (hb : SecAt w a' n' F' S') :
    Calls Try.prog 76 #[.slice a n c, .slice a' n' c'] w fun e w' => e = .returned (.bool (eqS n n' F S F' S')) ∧ Below w.heap.size w w' := by
  have KA := kp_sec ha; have KC := kp_sec hb; clear ha hb
  by_cases hnn : n = n'
  · subst hnn
    go_enter Try.func76, Try.ntmps76
    go_wp2
    go_loopw [13] (fun i w' => Below w.heap.size w w' ∧ ∃ k : Nat, k ≤ n ∧ i = .int .i64 k ∧ ∀ j, j < k → F j = F' j ∧ S j = S' j) (fun i _ => n - (intOf i).toNat)
    case atStart => exact ⟨Below.refl _ _, 0, by omega, rfl, fun j hj => by omega⟩
    case round =>
      obtain ⟨hb, k, hk, rfl, hK⟩ := hrel
      have HK := Lib.hid hK; clear hK
      replace KA := KA.on hb
      replace KC := KC.on hb
      by_cases hlt : k < n
      · have hx := SecAt.get KA.here (show 0 < n by omega)
        have hy := SecAt.get KC.here (show 0 < n by omega)
        obtain ⟨g, off, rfl, hg, hc⟩ := hx
        obtain ⟨g', off', rfl, hg', hc'⟩ := hy
        have c0 := (hc k hlt).1; have c1 := (hc k hlt).2
        have e0 := (hc' k hlt).1; have e1 := (hc' k hlt).2
        clear hc hc'
        have hk' : (k : Int) < n := by omega
        by_cases h1 : F k = F' k
        · by_cases h2 : S k = S' k
          · rw [← h1] at e0
            rw [← h2] at e1
            have h1 := Lib.hid h1; have h2 := Lib.hid h2
            go_wp2
            go_quiet (fail)
            go_wp2
            go_roundw
            case rel => exact ⟨below_drewN hb _, k + 1, by omega, by go_num, fun j hj => if e : j = k then e ▸ ⟨h1.out, h2.out⟩ else HK.out j (by omega)⟩
            case measure => simp [intOf]; omega
          · have hne : (S k == S' k) = false := beq_false_of_ne h2
            have h2 := Lib.hid h2
            rw [← h1] at e0
            have h1 := Lib.hid h1
            go_wp2
            go_quiet (fail)
            go_wp2
            go_ret
            exact ⟨ret_bool (eqS_false fun H => h2.out (H.2 k hlt).2).symm, below_drewN hb _⟩
        · have hne : (F k == F' k) = false := beq_false_of_ne h1
          have h1 := Lib.hid h1
          go_wp2
          go_quiet (fail)
          go_wp2
          go_ret
          exact ⟨ret_bool (eqS_false fun H => h1.out (H.2 k hlt).1).symm, below_drewN hb _⟩
      · go_wp2
        go_ret
        exact ⟨ret_bool (eqS_iff.2 ⟨rfl, fun j hj => HK.out j (by omega)⟩).symm, hb⟩
  · have hne : ((n : Int) == (n' : Int)) = false := beq_false_of_ne (by omega)
    have hne2 : ¬ (n : Int) = n' := by omega
    go_enter Try.func76, Try.ntmps76
    go_wp2
    go_ret
    exact ⟨ret_bool (eqS_false fun H => hnn H.1).symm, Below.refl _ _⟩
theorem run_load_ord (W : World) (g T : Nat) (b : Option Addr) (n c : Nat) (O : Nat → Int) (hg : W.heap[g]? = some (.cells (pc b n c O) T (0, 0))) : (loadVar 31 ⟨g, 1, none⟩).run Try.prog W = .ok (.agg (oc O)) W := by
  have h := run_loadVar_mid (P := Try.prog) W g 1 31 (oc O).toList _ (fun j v hv => by
    have hj : j < 48 := by have := (List.getElem?_eq_some_iff.1 hv).1; simpa [oc_size] using this
    have e : (oc O)[j]? = some v := by simpa using hv
    rw [oc_get O j hj] at e
    rw [cell_of_row W g (1 + j) _ _ _ hg, pc_get _ _ _ _ j hj, e]) und_ord rfl (by rw [Array.length_toList, oc_size]; exact size_ord)
  rwa [Array.toArray_toList] at h
theorem run_loadAt_ord (W : World) (g T : Nat) (b : Option Addr) (n c : Nat) (O : Nat → Int) (hg : W.heap[g]? = some (.cells (pc b n c O) T (0, 0))) : (Instr.loadAt 31 (.pointer (some ⟨g, 1, none⟩))).run Try.prog W = .ok (.agg (oc O)) W := by
  simp only [Instr.loadAt, Instr.sureAddr, Sem.run_bind, Sem.run_pure, Result.andThen_ok, run_load_ord W g T b n c O hg]
section
variable {ops : Array Oper} {rest : List Oper} {o : Oper} {a : Act} {w : World} {Q : Exit → Act → World → Prop}
theorem load_ord_midG (x : Operand) (ho : o.op = .load 31 x) (g : Nat) (hx : a.eval x = .pointer (some ⟨g, 1, none⟩)) (T : Nat) (b : Option Addr) (n c : Nat) (O : Nat → Int)
    (hg : w.heap[g]? = some (.cells (pc b n c O) T (0, 0))) (hw : Region.wanted o (yielded ops a.tmps) = true) (h : wpList Try.prog ops Q rest (a.put o.dst (.agg (oc O))) w) : wpList Try.prog ops Q (o :: rest) a w := by
  refine wpList_step fun K hK => ?_
  rw [if_pos hw]
  unfold Oper.wp execOp
  simp only [ho, hx, run_loadAt_ord w g T b n c O hg, Sem.run_bind, Result.andThen_ok, Sem.run_pure]
  exact hK _ _ h
end
theorem guard_ord : Try.prog.eqGuardType Try.prog.depth 31 = false := by kernel_rfl
theorem neq_ord {ops : Array Oper} {rest : List Oper} {o : Oper} {a : Act} {w : World} {Q : Exit → Act → World → Prop} (hgd : o.guard = none) (x y : Operand) (ho : o.op = .binOp .neq 31 x y 31) (O O' : Nat → Int) (hx : a.eval x = .agg (oc O)) (hy : a.eval y = .agg (oc O'))
    (h : wpList Try.prog ops Q rest (a.put o.dst (.bool (!eqO O O'))) w) : wpList Try.prog ops Q (o :: rest) a w := by
  refine wpList_plain hgd fun K hK => ?_
  have he := run_eq_ord O O' w
  have hg := guard_ord
  unfold Oper.wp
  have e : (execOp a.eval o).run Try.prog w = .ok (.value (.bool (!eqO O O'))) w := by
    unfold execOp
    simp only [ho, hx, hy]
    simp [go_sem, he, hg]
  rw [e]
  exact hK _ _ h
/-- two programmes are the same -/
def sameP (m : Nat) (F S O : Nat → Int) (m' : Nat) (F' S' O' : Nat → Int) : Bool := eqS m m' F S F' S' && eqO O O'
theorem sameP_def (m : Nat) (F S O : Nat → Int) (m' : Nat) (F' S' O' : Nat → Int) : sameP m F S O m' F' S' O' = (eqS m m' F S F' S' && eqO O O') := rfl
attribute [irreducible] sameP
set_option maxRecDepth 100000 in
theorem implSameProgramme_any (a : Option Addr) (n c : Nat) (F S O : Nat → Int) (b : Option Addr) (m d : Nat) (F' S' O' : Nat → Int) (w : World) (hn : n ≤ 1048576) (hF : I16 F) (hS : I16 S) (hO : I8 O) (ha : SecAt w a n F S) (hm : m ≤ 1048576) (hF' : I16 F') (hS' : I16 S') (hO' : I8 O') (hb : SecAt w b m F' S') :
    Calls Try.prog 22 #[.agg (pc a n c O), .agg (pc b m d O')] w fun e w' => e = .returned (.bool (sameP n F S O m F' S' O')) ∧ Below w.heap.size w w' := by
  have KB := Kp.base w; have KA := kp_sec ha; have KC := kp_sec hb; clear ha hb
  replace KB := KB.alloc (.cells (pc a n c O) 38)
  replace KA := KA.alloc (.cells (pc a n c O) 38)
  replace KC := KC.alloc (.cells (pc a n c O) 38)
  have K0 := kp_new1 w (pc a n c O) 38 (g := w.heap.size) (by simp)
  replace KB := KB.alloc (.cells (pc b m d O') 38)
  replace KA := KA.alloc (.cells (pc b m d O') 38)
  replace KC := KC.alloc (.cells (pc b m d O') 38)
  replace K0 := K0.alloc (.cells (pc b m d O') 38)
  have K1 := kp_new1 (w.alloc (.cells (pc a n c O) 38)) (pc b m d O') 38 (g := w.heap.size + 1) (by simp)
  have HZ := Lib.hid (show ((w.alloc (.cells (pc a n c O) 38)).alloc (.cells (pc b m d O') 38)).heap.size = w.heap.size + 1 + 1 by simp)
  have d0 := row_cell 0 K0.here
  have d1 := row_cell 0 K1.here
  rw [pc_get0] at d0 d1
  have D0 := Lib.hid d0; have D1 := Lib.hid d1; clear d0 d1
  go_enter Try.func22, Try.ntmps22
  have d0 := D0.out; have d1 := D1.out
  go_wp2_with fail
  clear d0 d1 D0 D1
  generalize ((w.alloc (.cells (pc a n c O) 38)).alloc (.cells (pc b m d O') 38)) = W at KB KA KC K0 K1 HZ ⊢
  clear HZ
  refine (equalSec_any a n c F S b m d F' S' W hn hm KA.here KC.here).mono ?_
  rintro e w1 ⟨rfl, hb1⟩
  replace KB := KB.on hb1
  replace K0 := K0.on hb1
  replace K1 := K1.on hb1
  clear hb1
  have hsd := sameP_def n F S O m F' S' O'
  cases hq : eqS n m F S F' S'
  · rw [hq, Bool.false_and] at hsd
    have HSD := Lib.hid hsd; clear hsd hq
    go_wp2
    go_ret
    exact ⟨ret_bool HSD.out.symm, KB.here⟩
  · rw [hq, Bool.true_and] at hsd
    have HSD := Lib.hid hsd; clear hsd hq
    have he := run_eq_ord O O' w1
    go_wp2_with (first | (with_reducible refine load_ord_midG _ rfl w.heap.size rfl _ a n c O K0.here ?_ ?_) | (with_reducible refine load_ord_midG _ rfl (w.heap.size + 1) rfl _ b m d O' K1.here ?_ ?_))
    go_ret
    exact ⟨ret_bool HSD.out.symm, KB.here⟩
set_option maxRecDepth 100000 in
set_option maxHeartbeats 1000000 in
theorem specSameProgramme_any (a : Option Addr) (n c : Nat) (F S O : Nat → Int) (b : Option Addr) (m d : Nat) (F' S' O' : Nat → Int) (w : World) (hn : n ≤ 1048576) (hF : I16 F) (hS : I16 S) (hO : I8 O) (ha : SecAt w a n F S) (hm : m ≤ 1048576) (hF' : I16 F') (hS' : I16 S') (hO' : I8 O') (hb : SecAt w b m F' S') :
    Calls Try.prog 20 #[.agg (pc a n c O), .agg (pc b m d O')] w fun e w' => e = .returned (.bool (sameP n F S O m F' S' O')) ∧ Below w.heap.size w w' := by
  have KB := Kp.base w; have KA := kp_sec ha; have KC := kp_sec hb; clear ha hb
  replace KB := KB.alloc (.cells (pc a n c O) 38)
  replace KA := KA.alloc (.cells (pc a n c O) 38)
  replace KC := KC.alloc (.cells (pc a n c O) 38)
  have K0 := kp_new1 w (pc a n c O) 38 (g := w.heap.size) (by simp)
  replace KB := KB.alloc (.cells (pc b m d O') 38)
  replace KA := KA.alloc (.cells (pc b m d O') 38)
  replace KC := KC.alloc (.cells (pc b m d O') 38)
  replace K0 := K0.alloc (.cells (pc b m d O') 38)
  have K1 := kp_new1 (w.alloc (.cells (pc a n c O) 38)) (pc b m d O') 38 (g := w.heap.size + 1) (by simp)
  have HZ := Lib.hid (show ((w.alloc (.cells (pc a n c O) 38)).alloc (.cells (pc b m d O') 38)).heap.size = w.heap.size + 1 + 1 by simp)
  have d0 := row_cell 0 K0.here
  have d1 := row_cell 0 K1.here
  rw [pc_get0] at d0 d1
  have D0 := Lib.hid d0; have D1 := Lib.hid d1; clear d0 d1
  have hsd := sameP_def n F S O m F' S' O'
  cases hq : eqO O O'
  · rw [hq, Bool.and_false] at hsd
    have HSD := Lib.hid hsd; have HQ := Lib.hid hq; clear hsd hq
    go_enter Try.func20, Try.ntmps20
    have d0 := D0.out; have d1 := D1.out; have hq := HQ.out
    go_wp2_with (first | (with_reducible refine load_ord_mid rfl _ rfl w.heap.size rfl _ a n c O K0.here ?_) | (with_reducible refine load_ord_mid rfl _ rfl (w.heap.size + 1) rfl _ b m d O' K1.here ?_) | (with_reducible refine neq_ord rfl _ _ rfl O O' rfl rfl ?_))
    go_ret
    exact ⟨ret_bool HSD.out.symm, KB.here⟩
  · rw [hq, Bool.and_true] at hsd
    have HQ := Lib.hid hq; clear hq
    by_cases hnm : n = m
    · subst hnm
      have HSD := Lib.hid hsd; clear hsd
      go_enter Try.func20, Try.ntmps20
      have d0 := D0.out; have d1 := D1.out; have hq := HQ.out
      go_wp2_with (first | (with_reducible refine load_ord_mid rfl _ rfl w.heap.size rfl _ a n c O K0.here ?_) | (with_reducible refine load_ord_mid rfl _ rfl (w.heap.size + 1) rfl _ b n d O' K1.here ?_) | (with_reducible refine neq_ord rfl _ _ rfl O O' rfl rfl ?_))
      clear d0 d1 D0 D1 hq
      generalize ((w.alloc (.cells (pc a n c O) 38)).alloc (.cells (pc b n d O') 38)) = W at KB KA KC K0 K1 HZ ⊢
      clear HZ
      go_loopw [5] (fun i w' => Below W.heap.size W w' ∧ ∃ k : Nat, k ≤ n ∧ i = .int .i64 k ∧ ∀ j, j < k → F j = F' j ∧ S j = S' j) (fun i _ => n - (intOf i).toNat)
      case atStart => exact ⟨Below.refl _ _, 0, by omega, rfl, fun j hj => by omega⟩
      case round =>
        obtain ⟨hb, k, hk, rfl, hK⟩ := hrel
        have HK := Lib.hid hK; clear hK
        replace KB := KB.on hb
        replace KA := KA.on hb
        replace KC := KC.on hb
        replace K0 := K0.on hb
        replace K1 := K1.on hb
        have d0 := row_cell 0 K0.here
        have d1 := row_cell 0 K1.here
        rw [pc_get0] at d0 d1
        by_cases hlt : k < n
        · have hx := SecAt.get KA.here (show 0 < n by omega)
          have hy := SecAt.get KC.here (show 0 < n by omega)
          obtain ⟨g, off, rfl, hg, hc⟩ := hx
          obtain ⟨g', off', rfl, hg', hc'⟩ := hy
          have c0 := (hc k hlt).1; have c1 := (hc k hlt).2
          have e0 := (hc' k hlt).1; have e1 := (hc' k hlt).2
          clear hc hc'
          have hk' : (k : Int) < n := by omega
          by_cases h1 : F k = F' k
          · by_cases h2 : S k = S' k
            · rw [← h1] at e0
              rw [← h2] at e1
              have h1 := Lib.hid h1; have h2 := Lib.hid h2
              go_wp2
              go_quiet (fail)
              go_wp2
              go_roundw
              case rel => exact ⟨below_drewN hb _, k + 1, by omega, by go_num, fun j hj => if e : j = k then e ▸ ⟨h1.out, h2.out⟩ else HK.out j (by omega)⟩
              case measure => simp [intOf]; omega
            · have hne : (S k == S' k) = false := beq_false_of_ne h2
              have h2 := Lib.hid h2
              rw [← h1] at e0
              have h1 := Lib.hid h1
              go_wp2
              go_quiet (fail)
              go_wp2
              go_ret
              exact ⟨ret_bool (by rw [HSD.out, eqS_false fun H => h2.out (H.2 k hlt).2]), below_drewN KB.here _⟩
          · have hne : (F k == F' k) = false := beq_false_of_ne h1
            have h1 := Lib.hid h1
            go_wp2
            go_quiet (fail)
            go_wp2
            go_ret
            exact ⟨ret_bool (by rw [HSD.out, eqS_false fun H => h1.out (H.2 k hlt).1]), below_drewN KB.here _⟩
        · go_wp2
          go_ret
          exact ⟨ret_bool (by rw [HSD.out, eqS_iff.2 ⟨rfl, fun j hj => HK.out j (by omega)⟩]), KB.here⟩
    · have hne2 : ¬ (n : Int) = m := by omega
      rw [eqS_false fun H => hnm H.1] at hsd
      have HSD := Lib.hid hsd; clear hsd
      go_enter Try.func20, Try.ntmps20
      have d0 := D0.out; have d1 := D1.out; have hq := HQ.out
      go_wp2_with (first | (with_reducible refine load_ord_mid rfl _ rfl w.heap.size rfl _ a n c O K0.here ?_) | (with_reducible refine load_ord_mid rfl _ rfl (w.heap.size + 1) rfl _ b m d O' K1.here ?_) | (with_reducible refine neq_ord rfl _ _ rfl O O' rfl rfl ?_))
      go_ret
      exact ⟨ret_bool HSD.out.symm, KB.here⟩
end Go.Proofs.Ytofmhpbilajjaaa
