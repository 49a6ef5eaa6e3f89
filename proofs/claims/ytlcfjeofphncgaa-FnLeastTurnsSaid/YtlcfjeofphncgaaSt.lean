/- StepsTo, by the reference and by the program. No conditions. -/
import Derived.Test.YtlcfjeofphncgaaPc
import Derived.Outline
namespace Go.Proofs.Ytlcfjeofphncgaa
open Go.RowKit
set_option linter.unusedVariables false
set_option linter.unusedSimpArgs false

theorem vProg_facts {s : Int} {n : Nat} {P R : Nat → Int} {m : Nat} {F S O : Nat → Int} (h : vProg s n P R m F S O = true) : (2 ≤ s ∧ s ≤ 96) ∧ m ≤ 12 ∧ (∀ k, k < m → 0 ≤ F k ∧ F k < s ∧ 1 ≤ S k ∧ F k + S k ≤ s) ∧ ∀ k, k < 48 → -1 ≤ O k ∧ O k ≤ (m : Int) - 1 := by
  obtain ⟨h1, h2, h3⟩ := vProg_iff.1 h
  obtain ⟨h4, h5⟩ := vSecs_iff.1 h2
  have hp : ∀ k, k < m → 0 ≤ F k := by
    intro k
    induction k with
    | zero => intro hk; have := (h5 0 hk).1; rw [endTo_zero] at this; exact this
    | succ k ih => intro hk; have := (h5 (k + 1) hk).1; rw [endTo_succ] at this; have := ih (by omega); have := (h5 k (by omega)).2.2.1; omega
  exact ⟨(vFrame_iff.1 h1).1, h4, fun k hk => ⟨hp k hk, (h5 k hk).2⟩, vOrd_iff.1 h3⟩
/-- how far the drum turns from a step to another -/
def stT (s f t : Int) : Int := (f - t + s) % s
theorem stT_def (s f t : Int) : stT s f t = (f - t + s) % s := rfl
theorem stT_bound {s f t : Int} (h : 0 < s) : 0 ≤ stT s f t ∧ stT s f t < s := ⟨Int.emod_nonneg _ (by omega), Int.emod_lt_of_pos _ h⟩
theorem stT_tmod {s f t : Int} (h : 0 ≤ f - t + s) : (f - t + s).tmod s = stT s f t := Int.tmod_eq_emod_of_nonneg h
attribute [irreducible] stT
def stCode (s : Int) (n : Nat) (P R : Nat → Int) (m : Nat) (F S O : Nat → Int) (t x : Int) : Int := pcode (vProg s n P R m F S O) (inB t 0 (s - 1) && inB x 0 ((m : Int) - 1))
def stVal (s : Int) (n : Nat) (P R : Nat → Int) (m : Nat) (F S O : Nat → Int) (t x : Int) : Int := if stCode s n P R m F S O t x = 0 then stT s (F x.toNat) t else 0
theorem stVal_no {s : Int} {n : Nat} {P R : Nat → Int} {m : Nat} {F S O : Nat → Int} {t x : Int} (h : ¬ stCode s n P R m F S O t x = 0) : stVal s n P R m F S O t x = 0 := if_neg h
theorem stVal_yes {s : Int} {n : Nat} {P R : Nat → Int} {m : Nat} {F S O : Nat → Int} {t x : Int} (h : stCode s n P R m F S O t x = 0) : stVal s n P R m F S O t x = stT s (F x.toNat) t := if_pos h
theorem stCode_def (s : Int) (n : Nat) (P R : Nat → Int) (m : Nat) (F S O : Nat → Int) (t x : Int) : stCode s n P R m F S O t x = pcode (vProg s n P R m F S O) (inB t 0 (s - 1) && inB x 0 ((m : Int) - 1)) := rfl
attribute [irreducible] stCode stVal

set_option maxRecDepth 100000 in
theorem stepsTo_any (s : Int) (a : Option Addr) (n c : Nat) (f l t : Int) (w : World) (hs : 2 ≤ s ∧ s ≤ 96) (hf : -32768 ≤ f ∧ f ≤ 32767) (ht : -100 ≤ t ∧ t ≤ 100) (h0 : 0 ≤ f - t + s) :
    Calls Try.prog 61 #[.agg #[.int .i16 s, .slice a n c], .agg #[.int .i16 f, .int .i16 l], .int .i64 t] w fun e w' => e = .returned (.int .i64 (stT s f t)) ∧ Below w.heap.size w w' := by
  have hr := stT_tmod h0
  have hr2 := (stT_def s f t).symm
  have q1 := i64_id (x := f) (by omega)
  have q2 := i64_id (x := s) (by omega)
  have q3 := i64_id (x := f - t) (by omega)
  have q4 := i64_id (x := f - t + s) (by omega)
  have hs0 : ¬ s = 0 := by omega
  go_enter Try.func61, Try.ntmps61
  go_wp2
  go_ret
  exact ⟨rfl, ((Below.refl _ _).alloc (Nat.le_refl _) _).alloc (by simp) _⟩
set_option maxRecDepth 100000 in
theorem l04To_any (gf : Nat) (s : Int) (a : Option Addr) (n c : Nat) (f l t : Int) (w : World) (hs : 2 ≤ s ∧ s ≤ 96) (hf : -32768 ≤ f ∧ f ≤ 32767) (ht : -100 ≤ t ∧ t ≤ 100) (h0 : 0 ≤ f - t + s) (hg : w.heap[gf]? = some (.cells #[.int .i16 s, .slice a n c] 27 (0, 0))) :
    Calls Try.prog 102 #[.pointer (some ⟨gf, 0, none⟩), .agg #[.int .i16 f, .int .i16 l], .int .i64 t] w fun e w' => e = .returned (.int .i64 (stT s f t)) ∧ Below w.heap.size w w' := by
  have hr := stT_tmod h0
  have hr2 := (stT_def s f t).symm
  have q1 := i64_id (x := f) (by omega)
  have q2 := i64_id (x := s) (by omega)
  have q3 := i64_id (x := f - t) (by omega)
  have q4 := i64_id (x := f - t + s) (by omega)
  have hs0 : ¬ s = 0 := by omega
  have d0 := row_cell 0 hg
  have hl := row_lt hg
  clear hg
  go_enter Try.func102, Try.ntmps102
  go_wp2
  go_ret
  exact ⟨rfl, (Below.refl _ _).alloc (Nat.le_refl _) _⟩
set_option maxRecDepth 100000 in
theorem implStepsTo_any (s : Int) (a : Option Addr) (n c : Nat) (P R : Nat → Int) (b : Option Addr) (m d : Nat) (F S O : Nat → Int) (t x : Int) (w : World) (hs : -32768 ≤ s ∧ s ≤ 32767) (hn : n ≤ 1048576) (hP : I8 P) (hR : I8 R) (hh : HamAt w a n P R) (hm : m ≤ 1048576) (hF : I16 F) (hS : I16 S) (hO : I8 O) (hl : SecAt w b m F S) (ht : -9223372036854775808 ≤ t ∧ t ≤ 9223372036854775807) (hx : -9223372036854775808 ≤ x ∧ x ≤ 9223372036854775807) :
    Calls Try.prog 28 #[.agg #[.int .i16 s, .slice a n c], .agg (pc b m d O), .int .i64 t, .int .i64 x] w fun e w' => e = .returned (.tuple #[.int .i64 (stVal s n P R m F S O t x), .int .i64 (stCode s n P R m F S O t x)]) ∧ Below w.heap.size w w' := by
  have HP := Lib.hid hP; have HR := Lib.hid hR; have HF := Lib.hid hF; have HS := Lib.hid hS; have HO := Lib.hid hO
  clear hP hR hF hS hO
  have KB := Kp.base w
  have KH := kp_ham hh; have KL := kp_sec hl; clear hh hl
  replace KB := KB.alloc (.cells #[.int .i16 s, .slice a n c] 27)
  replace KH := KH.alloc (.cells #[.int .i16 s, .slice a n c] 27)
  replace KL := KL.alloc (.cells #[.int .i16 s, .slice a n c] 27)
  have KF := kp_new1 w #[.int .i16 s, .slice a n c] 27 (g := w.heap.size) (by simp)
  replace KB := KB.alloc (.cells (pc b m d O) 51)
  replace KH := KH.alloc (.cells (pc b m d O) 51)
  replace KL := KL.alloc (.cells (pc b m d O) 51)
  replace KF := KF.alloc (.cells (pc b m d O) 51)
  have KP := kp_new1 (w.alloc (.cells #[.int .i16 s, .slice a n c] 27)) (pc b m d O) 51 (g := w.heap.size + 1) (by simp)
  have HZ := Lib.hid (show ((w.alloc (.cells #[.int .i16 s, .slice a n c] 27)).alloc (.cells (pc b m d O) 51)).heap.size = w.heap.size + 1 + 1 by simp)
  go_enter Try.func28, Try.ntmps28
  go_wp2_with (first | (with_reducible refine load_iframe rfl _ rfl w.heap.size rfl _ s a n c KF.here ?_) | (with_reducible refine load_iprog rfl _ rfl (w.heap.size + 1) rfl _ b m d O KP.here ?_))
  generalize ((w.alloc (.cells #[.int .i16 s, .slice a n c] 27)).alloc (.cells (pc b m d O) 51)) = W at KB KH KL KF KP HZ ⊢
  have hq := IntAt.one W x 2 (fun _ => x) rfl
  rw [HZ.out] at hq
  clear HZ
  replace KB := KB.alloc (.cells #[.int .i64 x] 2)
  replace KH := KH.alloc (.cells #[.int .i64 x] 2)
  replace KL := KL.alloc (.cells #[.int .i64 x] 2)
  replace KF := KF.alloc (.cells #[.int .i64 x] 2)
  replace KP := KP.alloc (.cells #[.int .i64 x] 2)
  refine (programmeCode_any s a n c P R b m d F S O none 0 0 (fun _ => 0) _ 1 1 (fun _ => x) _ hs hn HP.out HR.out KH.here hm HF.out HS.out HO.out KL.here (by omega) (IntAt.nil _ _) (by omega) hq).mono ?_
  rw [allIn_zero, allIn_one, Bool.true_and]
  rintro e w1 ⟨rfl, hb1⟩
  replace KB := KB.on hb1
  replace KL := KL.on hb1
  replace KF := KF.on hb1
  replace KP := KP.on hb1
  clear hb1 hq
  have hcd := stCode_def s n P R m F S O t x
  cases hv : vProg s n P R m F S O
  · rw [hv, pcode_f] at hcd
    rw [pcode_f]
    have hvl := Lib.hid (stVal_no (s := s) (n := n) (P := P) (R := R) (m := m) (F := F) (S := S) (O := O) (t := t) (x := x) (by rw [hcd]; simp))
    have HCD := Lib.hid hcd; clear hcd hv
    go_wp2
    go_ret2
    exact ⟨by rw [hvl.out, HCD.out]; rfl, KB.here⟩
  · obtain ⟨hs2, hm2, hsec, _⟩ := vProg_facts hv
    have HSEC := Lib.hid hsec; clear hsec
    rw [hv] at hcd
    clear hv
    have d0 := row_cell 0 KF.here
    have d1 := row_cell 1 KF.here
    have p0 := row_cell 0 KP.here
    rw [pc_get0] at p0
    have q1 := i64_id (x := s) (by omega)
    have q2 := i64_id (x := s - 1) (by omega)
    by_cases h2 : 0 ≤ x ∧ x ≤ (m : Int) - 1
    · have h2' := inB_true h2
      rw [h2', pcode_tt]
      by_cases h1 : 0 ≤ t ∧ t ≤ s - 1
      · have h1' := inB_true h1
        rw [h1', h2', Bool.and_self, pcode_tt] at hcd
        have hvl := Lib.hid (stVal_yes hcd)
        have HCD := Lib.hid hcd; clear hcd
        obtain ⟨k, rfl⟩ : ∃ k : Nat, x = k := ⟨x.toNat, by omega⟩
        have hk : k < m := by omega
        have hk' : (k : Int) < m := by omega
        have hx := SecAt.get KL.here (show 0 < m by omega)
        obtain ⟨g, off, rfl, hg, hc⟩ := hx
        have c0 := (hc k hk).1
        have c1 := (hc k hk).2
        clear hc
        have hfk := HSEC.out k hk
        have hf2 := HF.out k
        go_wp2_with (go_at_call 60; refine (within_any _ _ _ _).mono ?_; rintro e w2 ⟨rfl, rfl⟩)
        go_still_tail 7, (by kernel_rfl)
        go_wp2_with (go_at_call 61; refine (stepsTo_any s a n c (F k) (S k) t _ hs2 hf2 (by omega) (by omega)).mono ?_; rintro e w2 ⟨rfl, hb2⟩)
        go_ret2
        exact ⟨by rw [hvl.out, HCD.out]; rfl, KB.at ((below_drew _).trans hb2)⟩
      · have h1' := inB_false h1
        rw [h1', Bool.false_and, pcode_tf] at hcd
        have hvl := Lib.hid (stVal_no (s := s) (n := n) (P := P) (R := R) (m := m) (F := F) (S := S) (O := O) (t := t) (x := x) (by rw [hcd]; simp))
        have HCD := Lib.hid hcd; clear hcd
        go_wp2_with (go_at_call 60; refine (within_any _ _ _ _).mono ?_; rintro e w2 ⟨rfl, rfl⟩)
        go_ret2
        exact ⟨by rw [hvl.out, HCD.out]; rfl, KB.here⟩
    · have h2' := inB_false h2
      rw [h2', pcode_tf]
      rw [h2', Bool.and_false, pcode_tf] at hcd
      have hvl := Lib.hid (stVal_no (s := s) (n := n) (P := P) (R := R) (m := m) (F := F) (S := S) (O := O) (t := t) (x := x) (by rw [hcd]; simp))
      have HCD := Lib.hid hcd; clear hcd
      go_wp2
      go_ret2
      exact ⟨by rw [hvl.out, HCD.out]; rfl, KB.here⟩
end Go.Proofs.Ytlcfjeofphncgaa
