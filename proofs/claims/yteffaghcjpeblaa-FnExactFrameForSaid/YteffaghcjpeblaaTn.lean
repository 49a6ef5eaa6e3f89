/- Tunes: when they are valid, how long they are. No conditions. -/
import Derived.Test.YteffaghcjpeblaaNote
import Derived.Test.YteffaghcjpeblaaFrame2
import Derived.Test.YteffaghcjpeblaaHeld2
import Derived.Deep.RegionWith
import Derived.Outline
namespace Go.Proofs.Yteffaghcjpeblaa
open Go.RowKit
set_option linter.unusedVariables false
set_option linter.unusedSimpArgs false

/-- there may be such a note -/
def noteB (a p : Int) : Bool := inB a 0 199 && inB p 0 47
theorem noteB_def (a p : Int) : noteB a p = (inB a 0 199 && inB p 0 47) := rfl
theorem noteB_iff {a p : Int} : noteB a p = true ↔ (0 ≤ a ∧ a ≤ 199) ∧ 0 ≤ p ∧ p ≤ 47 := by unfold noteB; rw [Bool.and_eq_true, inB_iff, inB_iff]
attribute [irreducible] noteB
/-- a note comes before another -/
def befB (a p b q : Int) : Bool := decide (a < b) || (decide (a = b) && decide (p < q))
theorem befB_def (a p b q : Int) : befB a p b q = (decide (a < b) || (decide (a = b) && decide (p < q))) := rfl
theorem befB_iff {a p b q : Int} : befB a p b q = true ↔ a < b ∨ a = b ∧ p < q := by unfold befB; simp
attribute [irreducible] befB
/-- how two notes compare -/
def cmpN (a p b q : Int) : Int := if a < b then -1 else if b < a then 1 else if p < q then -1 else if q < p then 1 else 0
def cmp1 (a b : Int) : Int := if a < b then -1 else if b < a then 1 else 0
theorem cmp1_def (a b : Int) : cmp1 a b = if a < b then -1 else if b < a then 1 else 0 := rfl
theorem cmp1_lt {a b : Int} (h : a < b) : cmp1 a b = -1 := if_pos h
theorem cmp1_gt {a b : Int} (h : b < a) : cmp1 a b = 1 := by unfold cmp1; rw [if_neg (by omega), if_pos h]
theorem cmp1_eq (a : Int) : cmp1 a a = 0 := by unfold cmp1; rw [if_neg (by omega), if_neg (by omega)]
theorem cmpN_first {a b : Int} (p q : Int) (h : ¬ cmp1 a b = 0) : cmpN a p b q = cmp1 a b := by
  unfold cmpN; unfold cmp1 at h ⊢
  by_cases h1 : a < b
  · rw [if_pos h1, if_pos h1]
  · rw [if_neg h1] at h ⊢
    by_cases h2 : b < a
    · rw [if_pos h2, if_neg h1, if_pos h2]
    · rw [if_neg h2] at h; exact absurd rfl h
theorem cmpN_second {a b : Int} (p q : Int) (h : cmp1 a b = 0) : cmpN a p b q = cmp1 p q := by
  unfold cmpN; unfold cmp1 at h ⊢
  by_cases h1 : a < b
  · rw [if_pos h1] at h; omega
  · rw [if_neg h1] at h ⊢
    by_cases h2 : b < a
    · rw [if_pos h2] at h; omega
    · rw [if_neg h2]
theorem cmpN_neg (a p b q : Int) : cmpN a p b q < 0 ↔ befB a p b q = true := by
  rw [befB_iff]; unfold cmpN
  by_cases h1 : a < b
  · rw [if_pos h1]; simp [h1]
  · rw [if_neg h1]
    by_cases h2 : b < a
    · rw [if_pos h2]; constructor <;> intro h <;> omega
    · rw [if_neg h2]
      by_cases h3 : p < q
      · rw [if_pos h3]; constructor <;> intro h <;> omega
      · rw [if_neg h3]; by_cases h4 : q < p
        · rw [if_pos h4]; constructor <;> intro h <;> omega
        · rw [if_neg h4]; constructor <;> intro h <;> omega
attribute [irreducible] cmpN cmp1
/-- a note is wrong where it stands -/
def tbad (A P : Nat → Int) (i : Nat) : Bool := !noteB (A i) (P i) || (decide (0 < i) && !befB (A (i - 1)) (P (i - 1)) (A i) (P i))
theorem tbad_note {A P : Nat → Int} {i : Nat} (h : noteB (A i) (P i) = false) : tbad A P i = true := by unfold tbad; rw [h]; rfl
theorem tbad_zero {A P : Nat → Int} (h : noteB (A 0) (P 0) = true) : tbad A P 0 = false := by unfold tbad; rw [h]; rfl
theorem tbad_bef {A P : Nat → Int} {i : Nat} (hi : 0 < i) (h : noteB (A i) (P i) = true) : tbad A P i = !befB (A (i - 1)) (P (i - 1)) (A i) (P i) := by unfold tbad; rw [h, decide_eq_true hi]; rfl
theorem tbad_no {A P : Nat → Int} {i : Nat} (h : tbad A P i = false) : noteB (A i) (P i) = true ∧ (0 < i → befB (A (i - 1)) (P (i - 1)) (A i) (P i) = true) := by
  unfold tbad at h
  rw [Bool.or_eq_false_iff, Bool.and_eq_false_iff] at h
  obtain ⟨h1, h2⟩ := h
  refine ⟨by simpa using h1, fun h0 => ?_⟩
  rcases h2 with h2 | h2
  · simp at h2; omega
  · simpa using h2
attribute [irreducible] tbad
/-- a tune is valid -/
def vTune (n : Nat) (A P : Nat → Int) : Bool := !anyB (tbad A P) n && decide ((n : Int) ≤ 120)
theorem vTune_bad {n : Nat} {A P : Nat → Int} {i : Nat} (hi : i < n) (h : tbad A P i = true) : vTune n A P = false := by unfold vTune; rw [anyB_iff.2 ⟨i, hi, h⟩]; rfl
theorem vTune_good {n : Nat} {A P : Nat → Int} (h : ∀ i, i < n → tbad A P i = false) : vTune n A P = decide ((n : Int) ≤ 120) := by unfold vTune; rw [anyB_false h]; rfl
theorem vTune_facts {n : Nat} {A P : Nat → Int} (h : vTune n A P = true) : n ≤ 120 ∧ (∀ i, i < n → (0 ≤ A i ∧ A i ≤ 199) ∧ 0 ≤ P i ∧ P i ≤ 47) ∧ ∀ i, i + 1 < n → befB (A i) (P i) (A (i + 1)) (P (i + 1)) = true := by
  unfold vTune at h
  rw [Bool.and_eq_true] at h
  obtain ⟨h1, h2⟩ := h
  have hno : ∀ i, i < n → tbad A P i = false := fun i hi => by
    cases hh : tbad A P i
    · rfl
    · rw [anyB_iff.2 ⟨i, hi, hh⟩] at h1; cases h1
  refine ⟨by simp at h2; omega, fun i hi => noteB_iff.1 (tbad_no (hno i hi)).1, fun i hi => ?_⟩
  have := (tbad_no (hno (i + 1) hi)).2 (by omega)
  rwa [Nat.add_sub_cancel] at this
attribute [irreducible] vTune
/-- how long a tune is -/
def tLen (n : Nat) (A : Nat → Int) : Int := if n = 0 then 0 else A (n - 1) + 1
theorem tLen_zero (A : Nat → Int) : tLen 0 A = 0 := rfl
theorem tLen_pos {n : Nat} (A : Nat → Int) (h : 0 < n) : tLen n A = A (n - 1) + 1 := by unfold tLen; rw [if_neg (by omega)]
attribute [irreducible] tLen
set_option maxRecDepth 100000 in
theorem isNote_any (a p : Int) (w : World) (ha : -32768 ≤ a ∧ a ≤ 32767) (hp : -128 ≤ p ∧ p ≤ 127) :
    Calls Try.prog 69 #[.agg #[.int .i16 a, .int .i8 p]] w fun e w' => e = .returned (.bool (noteB a p)) ∧ Below w.heap.size w w' := by
  have KB := Kp.base w
  replace KB := KB.alloc (.cells #[.int .i16 a, .int .i8 p] 56)
  have K0 := kp_new1 w #[.int .i16 a, .int .i8 p] 56 (g := w.heap.size) (by simp)
  have HZ := Lib.hid (show (w.alloc (.cells #[.int .i16 a, .int .i8 p] 56)).heap.size = w.heap.size + 1 by simp)
  go_enter Try.func69, Try.ntmps69
  have hd := noteB_def a p
  cases hx : inB a 0 199
  · rw [hx, Bool.false_and] at hd
    have HD := Lib.hid hd; clear hd
    go_wp2_with (first | (go_at_call 47; refine (within_any _ _ _ _).mono ?_; rw [hx]; rintro e w2 ⟨rfl, rfl⟩) | (go_at_call 83; refine (isPitch_any _ _).mono ?_; rintro e w2 ⟨rfl, rfl⟩))
    go_ret
    exact ⟨ret_bool HD.out.symm, KB.here⟩
  · rw [hx, Bool.true_and] at hd
    have HD := Lib.hid hd; clear hd
    go_wp2_with (first | (go_at_call 47; refine (within_any _ _ _ _).mono ?_; rw [hx]; rintro e w2 ⟨rfl, rfl⟩) | (go_at_call 83; refine (isPitch_any _ _).mono ?_; rintro e w2 ⟨rfl, rfl⟩))
    go_ret
    exact ⟨ret_bool HD.out.symm, KB.here⟩
set_option maxRecDepth 100000 in
theorem l01Note_any (a p : Int) (w : World) (ha : -32768 ≤ a ∧ a ≤ 32767) (hp : -128 ≤ p ∧ p ≤ 127) :
    Calls Try.prog 40 #[.agg #[.int .i16 a, .int .i8 p]] w fun e w' => e = .returned (.bool (noteB a p)) ∧ Below w.heap.size w w' := by
  have KB := Kp.base w
  replace KB := KB.alloc (.cells #[.int .i16 a, .int .i8 p] 56)
  have K0 := kp_new1 w #[.int .i16 a, .int .i8 p] 56 (g := w.heap.size) (by simp)
  have HZ := Lib.hid (show (w.alloc (.cells #[.int .i16 a, .int .i8 p] 56)).heap.size = w.heap.size + 1 by simp)
  go_enter Try.func40, Try.ntmps40
  have hd := noteB_def a p
  cases hx : inB a 0 199
  · rw [hx, Bool.false_and] at hd
    have HD := Lib.hid hd; clear hd
    go_wp2_with (go_at_call 42; refine (l00In_any _ _ _ _).mono ?_; rw [hx]; rintro e w2 ⟨rfl, rfl⟩)
    go_ret
    exact ⟨ret_bool HD.out.symm, KB.here⟩
  · rw [hx, Bool.true_and] at hd
    have HD := Lib.hid hd; clear hd
    cases hy : inB p 0 47
    all_goals
      have HY := Lib.hid hy
      go_wp2_with (go_at_call 42; refine (l00In_any _ _ _ _).mono ?_; (first | rw [hx] | rw [hy]); rintro e w2 ⟨rfl, rfl⟩)
      go_ret
      exact ⟨ret_bool (by rw [HD.out, HY.out]), KB.here⟩
theorem l01Before_any (a p b q : Int) (w : World) :
    Calls Try.prog 41 #[.agg #[.int .i16 a, .int .i8 p], .agg #[.int .i16 b, .int .i8 q]] w fun e w' => e = .returned (.bool (befB a p b q)) ∧ Below w.heap.size w w' := by
  have KB := Kp.base w
  replace KB := KB.alloc (.cells #[.int .i16 a, .int .i8 p] 56)
  have K0 := kp_new1 w #[.int .i16 a, .int .i8 p] 56 (g := w.heap.size) (by simp)
  replace KB := KB.alloc (.cells #[.int .i16 b, .int .i8 q] 56)
  replace K0 := K0.alloc (.cells #[.int .i16 b, .int .i8 q] 56)
  have K1 := kp_new1 (w.alloc (.cells #[.int .i16 a, .int .i8 p] 56)) #[.int .i16 b, .int .i8 q] 56 (g := w.heap.size + 1) (by simp)
  have HZ := Lib.hid (show ((w.alloc (.cells #[.int .i16 a, .int .i8 p] 56)).alloc (.cells #[.int .i16 b, .int .i8 q] 56)).heap.size = w.heap.size + 1 + 1 by simp)
  have hd := Lib.hid (befB_def a p b q)
  by_cases h1 : a < b
  · go_enter Try.func41, Try.ntmps41
    go_wp2
    all_goals go_ret
    all_goals exact ⟨ret_bool (by rw [hd.out]; simp [h1]), KB.here⟩
  · have h1' : b ≤ a := by omega
    by_cases h2 : b < a
    · have h3 : ¬ a = b := by omega
      go_enter Try.func41, Try.ntmps41
      go_wp2
      all_goals go_ret
      all_goals exact ⟨ret_bool (by rw [hd.out]; simp [h1, h3]), KB.here⟩
    · obtain rfl : a = b := by omega
      go_enter Try.func41, Try.ntmps41
      go_wp2
      all_goals go_ret
      all_goals exact ⟨ret_bool (by rw [hd.out]; simp), KB.here⟩
theorem isNaN_int16 (a : Int) (w : World) : Calls Try.prog 96 #[.int .i16 a] w fun e w' => e = .returned (.bool false) ∧ w = w' := by
  go_enter Try.func96, Try.ntmps96
  go_wp2
  go_ret
  exact ⟨rfl, rfl⟩
theorem compare_int16 (a b : Int) (w : World) : Calls Try.prog 85 #[.int .i16 a, .int .i16 b] w fun e w' => e = .returned (.int .i64 (cmp1 a b)) ∧ w = w' := by
  have hd := Lib.hid (cmp1_def a b)
  go_enter Try.func85, Try.ntmps85
  go_wp2_with (go_at_call 96; refine (isNaN_int16 _ _).mono ?_; rintro e w2 ⟨rfl, rfl⟩)
  all_goals go_ret
  all_goals exact ⟨ret_int (by rw [hd.out]; split <;> (try split) <;> omega), rfl⟩
theorem isNaN_int8 (a : Int) (w : World) : Calls Try.prog 97 #[.int .i8 a] w fun e w' => e = .returned (.bool false) ∧ w = w' := by
  go_enter Try.func97, Try.ntmps97
  go_wp2
  go_ret
  exact ⟨rfl, rfl⟩
theorem compare_int8 (a b : Int) (w : World) : Calls Try.prog 86 #[.int .i8 a, .int .i8 b] w fun e w' => e = .returned (.int .i64 (cmp1 a b)) ∧ w = w' := by
  have hd := Lib.hid (cmp1_def a b)
  go_enter Try.func86, Try.ntmps86
  go_wp2_with (go_at_call 97; refine (isNaN_int8 _ _).mono ?_; rintro e w2 ⟨rfl, rfl⟩)
  all_goals go_ret
  all_goals exact ⟨ret_int (by rw [hd.out]; split <;> (try split) <;> omega), rfl⟩
def or2 (x y : Int) : Int := if x = 0 then y else x
theorem or2_cmp (a p b q : Int) : or2 (cmp1 a b) (cmp1 p q) = cmpN a p b q := by
  unfold or2
  by_cases h : cmp1 a b = 0
  · rw [if_pos h, cmpN_second p q h]
  · rw [if_neg h, cmpN_first p q h]
theorem or2_zero (y : Int) : or2 0 y = y := rfl
theorem or2_first {x : Int} (y : Int) (h : ¬ x = 0) : or2 x y = x := if_neg h
attribute [irreducible] or2
set_option maxRecDepth 100000 in
theorem cmpOr_any (g : Nat) (x y : Int) (w : World) (hg : w.heap[g]? = some (.cells #[.int .i64 x, .int .i64 y] 3 (0, 0))) :
    Calls Try.prog 84 #[.slice (some ⟨g, 0, none⟩) 2 2] w fun e w' => e = .returned (.int .i64 (or2 x y)) ∧ w = w' := by
  have c0 := row_cell 0 hg
  have c1 := row_cell 1 hg
  have HG := Lib.hid hg; clear hg
  go_enter Try.func84, Try.ntmps84
  go_wp2
  go_loop [8] (fun i => ∃ k : Nat, k ≤ 2 ∧ i = .int .i64 k ∧ (0 < k → x = 0) ∧ (1 < k → y = 0)) (fun i => 2 - (intOf i).toNat)
  case atStart => exact ⟨0, by omega, rfl, fun h => by omega, fun h => by omega⟩
  case round =>
    obtain ⟨k, hk, rfl, hx, hy⟩ := hrel
    obtain rfl | rfl | rfl : k = 0 ∨ k = 1 ∨ k = 2 := by omega
    · clear hx hy
      by_cases h : x = 0
      · subst h
        go_wp2
        go_round
        case rel => exact ⟨1, by omega, by go_num, by simp, fun h => by omega⟩
        case measure => simp [intOf]
      · have h' := Lib.hid (or2_first y h)
        go_wp2
        go_ret
        exact ⟨ret_int h'.out.symm, rfl⟩
    · have hx0 := hx (by omega)
      subst hx0
      clear hx hy
      by_cases h : y = 0
      · subst h
        go_wp2
        go_round
        case rel => exact ⟨2, by omega, by go_num, by simp, by simp⟩
        case measure => simp [intOf]
      · go_wp2
        go_ret
        exact ⟨ret_int (or2_zero y).symm, rfl⟩
    · have hx0 := hx (by omega)
      have hy0 := hy (by omega)
      subst hx0; subst hy0
      clear hx hy
      go_wp2
      go_ret
      exact ⟨ret_int (or2_zero 0).symm, rfl⟩
set_option maxRecDepth 100000 in
set_option maxHeartbeats 1000000 in
theorem compareNotes_any (a p b q : Int) (w : World) :
    Calls Try.prog 70 #[.agg #[.int .i16 a, .int .i8 p], .agg #[.int .i16 b, .int .i8 q]] w fun e w' => e = .returned (.int .i64 (cmpN a p b q)) ∧ Below w.heap.size w w' := by
  have KB := Kp.base w
  replace KB := KB.alloc (.cells #[.int .i16 a, .int .i8 p] 56)
  have K0 := kp_new1 w #[.int .i16 a, .int .i8 p] 56 (g := w.heap.size) (by simp)
  replace KB := KB.alloc (.cells #[.int .i16 b, .int .i8 q] 56)
  replace K0 := K0.alloc (.cells #[.int .i16 b, .int .i8 q] 56)
  have K1 := kp_new1 (w.alloc (.cells #[.int .i16 a, .int .i8 p] 56)) #[.int .i16 b, .int .i8 q] 56 (g := w.heap.size + 1) (by simp)
  have HZ := Lib.hid (show ((w.alloc (.cells #[.int .i16 a, .int .i8 p] 56)).alloc (.cells #[.int .i16 b, .int .i8 q] 56)).heap.size = w.heap.size + 1 + 1 by simp)
  go_enter Try.func70, Try.ntmps70
  go_wp2
  generalize ((w.alloc (.cells #[.int .i16 a, .int .i8 p] 56)).alloc (.cells #[.int .i16 b, .int .i8 q] 56)) = W at KB K0 K1 HZ ⊢
  clear HZ
  have hS0 := below_drew W
  refine wp_region_S (fun V => Below W.heap.size W V) (by kernel_rfl) hS0 ?_
  refine take_val 0 (.pointer (some ⟨w.heap.size, 0, none⟩)) rfl (by kernel_rfl) (by kernel_rfl) (by kernel_rfl) (fun _ _ _ h => h) rfl (fun V hV => by simp [go_sem]) hS0 ?_
  simp only [List.getElem_toArray, List.getElem_cons_zero, List.getElem_cons_succ, Act.put, List.setIfInBounds_toArray, List.set_cons_zero, List.set_cons_succ]
  refine take_val 1 (.int .i16 a) rfl (by kernel_rfl) (by kernel_rfl) (by kernel_rfl) (fun _ _ _ h => h) rfl (fun V hV => by have c := row_cell 0 (K0.at hV); simp [go_sem, c]) hS0 ?_
  simp only [List.getElem_toArray, List.getElem_cons_zero, List.getElem_cons_succ, Act.put, List.setIfInBounds_toArray, List.set_cons_zero, List.set_cons_succ]
  refine take_val 2 (.pointer (some ⟨w.heap.size + 1, 0, none⟩)) rfl (by kernel_rfl) (by kernel_rfl) (by kernel_rfl) (fun _ _ _ h => h) rfl (fun V hV => by simp [go_sem]) hS0 ?_
  simp only [List.getElem_toArray, List.getElem_cons_zero, List.getElem_cons_succ, Act.put, List.setIfInBounds_toArray, List.set_cons_zero, List.set_cons_succ]
  refine take_val 3 (.int .i16 b) rfl (by kernel_rfl) (by kernel_rfl) (by kernel_rfl) (fun _ _ _ h => h) rfl (fun V hV => by have c := row_cell 0 (K1.at hV); simp [go_sem, c]) hS0 ?_
  simp only [List.getElem_toArray, List.getElem_cons_zero, List.getElem_cons_succ, Act.put, List.setIfInBounds_toArray, List.set_cons_zero, List.set_cons_succ]
  refine take_val 5 (.pointer (some ⟨w.heap.size, 1, none⟩)) rfl (by kernel_rfl) (by kernel_rfl) (by kernel_rfl) (fun _ _ _ h => h) rfl (fun V hV => by simp [go_sem]) hS0 ?_
  simp only [List.getElem_toArray, List.getElem_cons_zero, List.getElem_cons_succ, Act.put, List.setIfInBounds_toArray, List.set_cons_zero, List.set_cons_succ]
  refine take_val 6 (.int .i8 p) rfl (by kernel_rfl) (by kernel_rfl) (by kernel_rfl) (fun _ _ _ h => h) rfl (fun V hV => by have c := row_cell 1 (K0.at hV); simp [go_sem, c]) hS0 ?_
  simp only [List.getElem_toArray, List.getElem_cons_zero, List.getElem_cons_succ, Act.put, List.setIfInBounds_toArray, List.set_cons_zero, List.set_cons_succ]
  refine take_val 7 (.pointer (some ⟨w.heap.size + 1, 1, none⟩)) rfl (by kernel_rfl) (by kernel_rfl) (by kernel_rfl) (fun _ _ _ h => h) rfl (fun V hV => by simp [go_sem]) hS0 ?_
  simp only [List.getElem_toArray, List.getElem_cons_zero, List.getElem_cons_succ, Act.put, List.setIfInBounds_toArray, List.set_cons_zero, List.set_cons_succ]
  refine take_val 8 (.int .i8 q) rfl (by kernel_rfl) (by kernel_rfl) (by kernel_rfl) (fun _ _ _ h => h) rfl (fun V hV => by have c := row_cell 1 (K1.at hV); simp [go_sem, c]) hS0 ?_
  simp only [List.getElem_toArray, List.getElem_cons_zero, List.getElem_cons_succ, Act.put, List.setIfInBounds_toArray, List.set_cons_zero, List.set_cons_succ]
  refine step_call 4 85 #[.int .i16 a, .int .i16 b] (by kernel_rfl) rfl rfl (by simp [go_sem]) ?_
  refine (compare_int16 a b _).mono ?_
  rintro e w2 ⟨rfl, rfl⟩
  refine ⟨_, rfl, hS0, ?_⟩
  simp only [List.getElem_toArray, List.getElem_cons_zero, List.getElem_cons_succ, Act.put, List.setIfInBounds_toArray, List.set_cons_zero, List.set_cons_succ]
  refine step_call 9 86 #[.int .i8 p, .int .i8 q] (by kernel_rfl) rfl rfl (by simp [go_sem]) ?_
  refine (compare_int8 p q _).mono ?_
  rintro e w2 ⟨rfl, rfl⟩
  refine ⟨_, rfl, hS0, ?_⟩
  simp only [List.getElem_toArray, List.getElem_cons_zero, List.getElem_cons_succ, Act.put, List.setIfInBounds_toArray, List.set_cons_zero, List.set_cons_succ]
  have hS1 := hS0.alloc (o := .cells #[.int .i64 (cmp1 a b), .int .i64 (cmp1 p q)] 3) hS0.size
  have hx := cmpOr_any W.drew.heap.size (cmp1 a b) (cmp1 p q) _ (heap_alloc_new W.drew _)
  rw [or2_cmp] at hx
  generalize cmp1 a b = x at hx hS1 ⊢
  generalize cmp1 p q = y at hx hS1 ⊢
  generalize hz : cmpN a p b q = z at hx ⊢
  have HZ := Lib.hid hz; clear hz
  refine step_val 10 (.slice (some ⟨W.drew.heap.size, 0, none⟩) 2 2) (W.drew.alloc (.cells #[.int .i64 x, .int .i64 y] 3)) (by kernel_rfl) rfl rfl (by simp [go_sem]) hS1 ?_
  simp only [List.getElem_toArray, List.getElem_cons_zero, List.getElem_cons_succ, Act.put, List.setIfInBounds_toArray, List.set_cons_zero, List.set_cons_succ]
  refine step_call 11 84 #[.slice (some ⟨W.drew.heap.size, 0, none⟩) 2 2] (by kernel_rfl) rfl rfl (by simp [go_sem]) ?_
  refine hx.mono ?_
  rintro e w2 ⟨rfl, rfl⟩
  refine ⟨_, rfl, hS1, ?_⟩
  simp only [List.getElem_toArray, List.getElem_cons_zero, List.getElem_cons_succ, Act.put, List.setIfInBounds_toArray, List.set_cons_zero, List.set_cons_succ]
  refine take_val 12 (.int .i64 z) rfl (by kernel_rfl) (by kernel_rfl) (by kernel_rfl) (fun _ _ _ h => h) rfl (fun V hV => by simp [go_sem]) hS1 ?_
  simp only [List.getElem_toArray, List.getElem_cons_zero, List.getElem_cons_succ, Act.put, List.setIfInBounds_toArray, List.set_cons_zero, List.set_cons_succ]
  refine wpAnyH_done (by kernel_rfl) ?_ _
  have hbe := KB.at hS1
  go_wp2
  go_ret
  exact ⟨ret_int HZ.out.symm, hbe⟩
end Go.Proofs.Yteffaghcjpeblaa
