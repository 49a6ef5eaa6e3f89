/- FrameFor: what both sides compute; steps and ready. No conditions. -/
import Derived.Test.YteffaghcjpeblaaFh
import Derived.Test.YteffaghcjpeblaaTu
import Derived.Test.YteffaghcjpeblaaOwnH
import Derived.Outline
namespace Go.Proofs.Yteffaghcjpeblaa
open Go.RowKit
set_option linter.unusedVariables false
set_option linter.unusedSimpArgs false

theorem i8_idF {x : Int} (h : -128 ≤ x ∧ x ≤ 127) : IntKind.i8.wrap x = x := by simp [IntKind.wrap, IntKind.bits, IntKind.signed]; omega
theorem i16_idF {x : Int} (h : -32768 ≤ x ∧ x ≤ 32767) : IntKind.i16.wrap x = x := by simp [IntKind.wrap, IntKind.bits, IntKind.signed]; omega
/-- steps and ready are as told -/
def rdB (s r : Int) : Bool := inB s 2 96 && inB r 1 20 && decide (r ≤ s)
theorem rdB_iff {s r : Int} : rdB s r = true ↔ (2 ≤ s ∧ s ≤ 96) ∧ (1 ≤ r ∧ r ≤ 20) ∧ r ≤ s := by unfold rdB; rw [Bool.and_eq_true, Bool.and_eq_true, inB_iff, inB_iff, decide_eq_true_iff]; exact ⟨fun h => ⟨h.1.1, h.1.2, h.2⟩, fun h => ⟨⟨h.1, h.2.1⟩, h.2.2⟩⟩
section
variable (s r : Int) (n : Nat) (A P : Nat → Int)
/-- the steps of a pitch's notes, among the first k -/
def pAt (p : Int) : Nat → List Int
  | 0 => []
  | k + 1 => if P k = p then pAt p k ++ [A k] else pAt p k
theorem pAt_zero (p : Int) : pAt A P p 0 = [] := rfl
theorem pAt_yes {p : Int} {k : Nat} (h : P k = p) : pAt A P p (k + 1) = pAt A P p k ++ [A k] := if_pos h
theorem pAt_no {p : Int} {k : Nat} (h : ¬ P k = p) : pAt A P p (k + 1) = pAt A P p k := if_neg h
theorem pAt_len (p : Int) (k : Nat) : (pAt A P p k).length ≤ k := by
  induction k with
  | zero => exact Nat.le_refl _
  | succ k ih =>
    by_cases h : P k = p
    · rw [pAt_yes A P h, List.length_append]; simp; exact ih
    · rw [pAt_no A P h]; omega
theorem pAt_in {p : Int} {k : Nat} {q : Int → Prop} (h : ∀ i, i < k → q (A i)) : ∀ x ∈ pAt A P p k, q x := by
  induction k with
  | zero => intro x hx; exact absurd hx List.not_mem_nil
  | succ k ih =>
    intro x hx
    by_cases e : P k = p
    · rw [pAt_yes A P e] at hx
      rcases List.mem_append.1 hx with h1 | h1
      · exact ih (fun i hi => h i (by omega)) x h1
      · rw [List.mem_singleton.1 h1]; exact h k (by omega)
    · rw [pAt_no A P e] at hx
      exact ih (fun i hi => h i (by omega)) x hx
theorem pAt_inS {p : Int} {k : Nat} (h : ∀ i, i < k → 0 ≤ A i ∧ A i < s) : inS s (pAt A P p k) := by
  intro x hx
  have e : (pAt A P p k).getD x 0 = (pAt A P p k)[x] := by simp [List.getD, hx]
  rw [e]
  exact pAt_in A P (q := fun y => 0 ≤ y ∧ y < s) h _ (List.getElem_mem hx)
/-- too many notes of one pitch -/
def bigB (p : Nat) : Bool := decide (14 < (pAt A P (p : Int) n).length)
/-- the hammers of the pitches below p -/
def hmL : Nat → List (Int × Int)
  | 0 => []
  | p + 1 => hmL p ++ List.replicate (needN s r (pAt A P (p : Int) n)) ((p : Int), r)
theorem hmL_zero : hmL s r n A P 0 = [] := rfl
theorem hmL_succ (p : Nat) : hmL s r n A P (p + 1) = hmL s r n A P p ++ List.replicate (needN s r (pAt A P (p : Int) n)) ((p : Int), r) := rfl
theorem hmL_len (p : Nat) : (hmL s r n A P (p + 1)).length = (hmL s r n A P p).length + needN s r (pAt A P (p : Int) n) := by rw [hmL_succ, List.length_append, List.length_replicate]
/-- the code of the arguments -/
def ffA : Int := if vTune n A P then (if rdB s r && decide (tLen n A ≤ s) then 0 else 2) else 1
theorem ffA_zero (h : ffA s r n A P = 0) : vTune n A P = true ∧ rdB s r = true ∧ tLen n A ≤ s := by
  unfold ffA at h
  cases hv : vTune n A P
  · rw [hv] at h; simp at h
  · rw [hv] at h
    by_cases e : (rdB s r && decide (tLen n A ≤ s)) = true
    · rw [Bool.and_eq_true, decide_eq_true_iff] at e; exact ⟨rfl, e.1, e.2⟩
    · simp only [if_true, if_neg e] at h; cases h
theorem ffA_tune (h : vTune n A P = false) : ffA s r n A P = 1 := by unfold ffA; rw [h]; rfl
theorem ffA_rd (h : vTune n A P = true) (h2 : rdB s r = false) : ffA s r n A P = 2 := by unfold ffA; rw [h, h2]; rfl
theorem ffA_len (h : vTune n A P = true) (h2 : rdB s r = true) (h3 : ¬ tLen n A ≤ s) : ffA s r n A P = 2 := by unfold ffA; rw [h, h2, decide_eq_false h3]; rfl
theorem ffA_ok (h : vTune n A P = true) (h2 : rdB s r = true) (h3 : tLen n A ≤ s) : ffA s r n A P = 0 := by unfold ffA; rw [h, h2, decide_eq_true h3]; rfl
theorem ffA_first : firstL [unl (vTune n A P) 1, unl (rdB s r && decide (tLen n A ≤ s)) 2] = ffA s r n A P := by
  unfold ffA
  cases vTune n A P <;> cases (rdB s r && decide (tLen n A ≤ s)) <;> simp [firstL, unl_true, unl_false]
/-- the code -/
def ffC : Int := if ffA s r n A P = 0 then (if anyB (bigB n A P) 48 then 3 else if 24 < (hmL s r n A P 48).length then 3 else if n = 0 then 6 else 0) else ffA s r n A P
def ffL : List (Int × Int) := if ffC s r n A P = 0 then hmL s r n A P 48 else []
def ffS : Int := if ffC s r n A P = 0 then s else 0
theorem ff_err {x : Int} (hx : x ≠ 0) (h : ffC s r n A P = x) : ffL s r n A P = [] ∧ ffS s r n A P = 0 ∧ ffC s r n A P = x := ⟨if_neg (by rw [h]; exact hx), if_neg (by rw [h]; exact hx), h⟩
theorem ff_bad (h : ¬ ffA s r n A P = 0) : ffL s r n A P = [] ∧ ffS s r n A P = 0 ∧ ffC s r n A P = ffA s r n A P := ff_err s r n A P h (if_neg h)
theorem ff_big (h : ffA s r n A P = 0) {p : Nat} (hp : p < 48) (hb : bigB n A P p = true) : ffL s r n A P = [] ∧ ffS s r n A P = 0 ∧ ffC s r n A P = 3 :=
  ff_err s r n A P (by decide) (by unfold ffC; rw [if_pos h, if_pos (anyB_iff.2 ⟨p, hp, hb⟩)])
theorem ff_many (h : ffA s r n A P = 0) (hb : ∀ p, p < 48 → bigB n A P p = false) (hm : 24 < (hmL s r n A P 48).length) : ffL s r n A P = [] ∧ ffS s r n A P = 0 ∧ ffC s r n A P = 3 :=
  ff_err s r n A P (by decide) (by unfold ffC; rw [if_pos h, anyB_false hb, if_neg (by simp), if_pos hm])
theorem ff_none (h : ffA s r n A P = 0) (hb : ∀ p, p < 48 → bigB n A P p = false) (hm : ¬ 24 < (hmL s r n A P 48).length) (hn : n = 0) : ffL s r n A P = [] ∧ ffS s r n A P = 0 ∧ ffC s r n A P = 6 :=
  ff_err s r n A P (by decide) (by unfold ffC; rw [if_pos h, anyB_false hb, if_neg (by simp), if_neg hm, if_pos hn])
theorem ff_ok (h : ffA s r n A P = 0) (hb : ∀ p, p < 48 → bigB n A P p = false) (hm : ¬ 24 < (hmL s r n A P 48).length) (hn : ¬ n = 0) : ffL s r n A P = hmL s r n A P 48 ∧ ffS s r n A P = s ∧ ffC s r n A P = 0 := by
  have e : ffC s r n A P = 0 := by unfold ffC; rw [if_pos h, anyB_false hb, if_neg (by simp), if_neg hm, if_neg hn]
  exact ⟨if_pos e, if_pos e, e⟩
theorem ffL_len : (ffL s r n A P).length ≤ 1000000 := by
  unfold ffL
  split
  · rename_i h
    unfold ffC at h
    split at h
    · split at h
      · cases h
      · split at h
        · cases h
        · omega
    · rename_i h2; exact absurd h h2
  · simp
theorem bigB_iff {p : Nat} : bigB n A P p = true ↔ 14 < (pAt A P (p : Int) n).length := by unfold bigB; rw [decide_eq_true_iff]
/-- where the notes of a good tune lie -/
theorem ff_steps (h : vTune n A P = true) (hl : tLen n A ≤ s) : ∀ i, i < n → 0 ≤ A i ∧ A i < s := by
  obtain ⟨h1, h2, h3⟩ := vTune_facts h
  have mono : ∀ d i, i + d < n → A i ≤ A (i + d) := by
    intro d
    induction d with
    | zero => intro i _; exact Int.le_refl _
    | succ d ih =>
      intro i hi
      have e1 := ih i (by omega)
      have e2 := h3 (i + d) (by omega)
      rw [befB_iff] at e2
      have e3 : i + (d + 1) = i + d + 1 := by omega
      rw [e3]
      rcases e2 with e2 | ⟨e2, _⟩ <;> omega
  intro i hi
  have h4 := mono (n - 1 - i) i (by omega)
  rw [show i + (n - 1 - i) = n - 1 by omega] at h4
  rw [tLen_pos A (by omega)] at hl
  exact ⟨(h2 i hi).1.1, by omega⟩
end
attribute [irreducible] rdB pAt bigB hmL ffA ffC ffL ffS
set_option maxRecDepth 100000 in
theorem l03Sized_any (s r : Int) (w : World) : Calls Try.prog 20 #[.int .i64 s, .int .i64 r] w fun e w' => e = .returned (.bool (rdB s r)) ∧ w = w' := by
  have HR := Lib.hid (show rdB s r = (inB s 2 96 && inB r 1 20 && decide (r ≤ s)) by unfold rdB; rfl)
  have h1 := fun V : World => l00In_any s 2 96 V
  have h2 := fun V : World => l00In_any r 1 20 V
  cases e1 : inB s 2 96
  · rw [e1] at h1 HR
    have H1 := Lib.hid h1; clear h1 h2
    go_enter Try.func20, Try.ntmps20
    go_wp2_with (go_at_call 42; refine (H1.out _).mono ?_; rintro e w2 ⟨rfl, rfl⟩)
    go_ret
    exact ⟨ret_bool HR.out.symm, rfl⟩
  · rw [e1] at h1 HR
    cases e2 : inB r 1 20
    · rw [e2] at h2 HR
      have H1 := Lib.hid h1; have H2 := Lib.hid h2; clear h1 h2
      go_enter Try.func20, Try.ntmps20
      go_wp2_with (go_at_call 42; first | (with_reducible refine (H1.out _).mono ?_; rintro e w2 ⟨rfl, rfl⟩) | (with_reducible refine (H2.out _).mono ?_; rintro e w2 ⟨rfl, rfl⟩))
      go_ret
      exact ⟨ret_bool HR.out.symm, rfl⟩
    · rw [e2] at h2 HR
      have H1 := Lib.hid h1; have H2 := Lib.hid h2; clear h1 h2
      by_cases e3 : r ≤ s
      all_goals
        go_enter Try.func20, Try.ntmps20
        go_wp2_with (go_at_call 42; first | (with_reducible refine (H1.out _).mono ?_; rintro e w2 ⟨rfl, rfl⟩) | (with_reducible refine (H2.out _).mono ?_; rintro e w2 ⟨rfl, rfl⟩))
        go_ret
        exact ⟨ret_bool (by rw [HR.out]; simp [e3]), rfl⟩
theorem rdB_min {s r m : Int} (h : inB s 2 96 = true) (hm : (m = 20 ∧ 20 ≤ s) ∨ (m = s ∧ s ≤ 20)) : inB r 1 m = rdB s r := by
  rw [inB_iff] at h
  have e : (inB r 1 m = true) ↔ rdB s r = true := by rw [inB_iff, rdB_iff]; omega
  cases h1 : inB r 1 m <;> cases h2 : rdB s r <;> simp_all
set_option maxRecDepth 100000 in
theorem isReady_any (s r : Int) (w : World) : Calls Try.prog 27 #[.int .i64 s, .int .i64 r] w fun e w' => e = .returned (.bool (rdB s r)) ∧ w = w' := by
  have h1 := fun V : World => within_any s 2 96 V
  cases e1 : inB s 2 96
  · have HR := Lib.hid (show rdB s r = false by unfold rdB; rw [e1]; rfl)
    rw [e1] at h1
    have H1 := Lib.hid h1; clear h1
    go_enter Try.func27, Try.ntmps27
    go_wp2_with (go_at_call 47; refine (H1.out _).mono ?_; rintro e w2 ⟨rfl, rfl⟩)
    go_ret
    exact ⟨ret_bool HR.out.symm, rfl⟩
  · rw [e1] at h1
    by_cases hm : (20 : Int) ≤ s
    · have h2 := fun V : World => within_any r 1 20 V
      rw [rdB_min e1 (.inl ⟨rfl, hm⟩)] at h2
      have H1 := Lib.hid h1; have H2 := Lib.hid h2; clear h1 h2
      go_enter Try.func27, Try.ntmps27
      go_wp2_with (go_at_call 47; first | (with_reducible refine (H1.out _).mono ?_; rintro e w2 ⟨rfl, rfl⟩) | (with_reducible refine (H2.out _).mono ?_; rintro e w2 ⟨rfl, rfl⟩))
      go_ret
      exact ⟨rfl, rfl⟩
    · have h2 := fun V : World => within_any r 1 s V
      rw [rdB_min e1 (.inr ⟨rfl, by omega⟩)] at h2
      have H1 := Lib.hid h1; have H2 := Lib.hid h2; clear h1 h2
      go_enter Try.func27, Try.ntmps27
      go_wp2_with (go_at_call 47; first | (with_reducible refine (H1.out _).mono ?_; rintro e w2 ⟨rfl, rfl⟩) | (with_reducible refine (H2.out _).mono ?_; rintro e w2 ⟨rfl, rfl⟩))
      go_ret
      exact ⟨rfl, rfl⟩
end Go.Proofs.Yteffaghcjpeblaa
