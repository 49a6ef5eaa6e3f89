/- The statements' own conversions of frames and drums: sizes, copies, equality. No conditions. -/
import Derived.Test.YteffaghcjpeblaaDrum
import Derived.Outline
namespace Go.Proofs.Yteffaghcjpeblaa
open Go.RowKit
set_option linter.unusedVariables false
set_option linter.unusedSimpArgs false

theorem toHammer_any (p r : Int) (w : World) :
    Calls Try.prog 57 #[.agg #[.int .i8 p, .int .i8 r]] w fun e w' => e = .returned (.agg #[.int .i8 p, .int .i8 r]) ∧ Below w.heap.size w w' := by
  go_enter Try.func57, Try.ntmps57
  go_wp2
  refine bodyPost_ret (v := .agg #[.int .i8 p, .int .i8 r]) (by simp [results, Try.results57, go_sem]) rfl ⟨rfl, ?_⟩
  exact (((Below.refl _ _).alloc (Nat.le_refl _) _).alloc (by simp) _).alloc (by simp; omega) _
/-- what is left of l when n is taken, -1 if that is too much -/
def szOf (l n : Int) : Int := if l < n then -1 else l - n
theorem szOf_lt {l n : Int} (h : l < n) : szOf l n = -1 := by unfold szOf; rw [if_pos h]
theorem szOf_ge {l n : Int} (h : n ≤ l) : szOf l n = l - n := by unfold szOf; rw [if_neg (by omega)]
attribute [irreducible] szOf
theorem szHammerS_any (a : Option Addr) (n c : Nat) (l : Int) (w : World) (hn : n ≤ 9223372036854775807) (hl : 0 ≤ l ∧ l ≤ 1048576) :
    Calls Try.prog 34 #[.slice a n c, .int .i64 l] w fun e w' => e = .returned (.int .i64 (szOf l n)) ∧ w = w' := by
  by_cases h : l < n
  · go_enter Try.func34, Try.ntmps34
    go_wp2
    go_ret
    exact ⟨ret_int (by rw [szOf_lt h]), rfl⟩
  · go_enter Try.func34, Try.ntmps34
    go_wp2
    go_ret
    exact ⟨ret_int (by rw [szOf_ge (by omega)]), rfl⟩
theorem szFrame_any (s : Int) (a : Option Addr) (n c : Nat) (l : Int) (w : World) (hn : n ≤ 9223372036854775807) (hl : 0 ≤ l ∧ l ≤ 1048576) :
    Calls Try.prog 14 #[.agg #[.int .i16 s, .slice a n c], .int .i64 l] w fun e w' => e = .returned (.int .i64 (szOf l n)) ∧ Below w.heap.size w w' := by
  by_cases h : l < n
  · go_enter Try.func14, Try.ntmps14
    go_wp2_with (go_at_call 34; refine (szHammerS_any a n c l _ hn hl).mono ?_; rw [szOf_lt h]; rintro e w' ⟨rfl, rfl⟩)
    go_ret
    exact ⟨ret_int (by rw [szOf_lt h]), (Below.refl _ _).alloc (Nat.le_refl _) _⟩
  · go_enter Try.func14, Try.ntmps14
    go_wp2_with (go_at_call 34; refine (szHammerS_any a n c l _ hn hl).mono ?_; rw [szOf_ge (by omega)]; rintro e w' ⟨rfl, rfl⟩)
    go_ret
    exact ⟨ret_int (by rw [szOf_ge (by omega)]), (Below.refl _ _).alloc (Nat.le_refl _) _⟩
theorem toDrum_any (D : Nat → Nat) (w : World) :
    Calls Try.prog 17 #[.agg (dc D)] w fun e w' => e = .returned (.agg (dc D)) ∧ Below w.heap.size w w' := by
  have hg0 := ((DrumAt.new w 42 D).alloc (.cells (dc fun _ => 0) 47)).alloc (.cells (dc fun _ => 0) 47)
  have hg1 := (DrumAt.new2 w (.cells (dc D) 42) 47 (fun _ => 0)).alloc (.cells (dc fun _ => 0) 47)
  have hg2 := DrumAt.new3 w (.cells (dc D) 42) (.cells (dc fun _ => 0) 47) 47 (mixD D (fun _ => 0) 0)
  have hbel : Below w.heap.size w (((w.alloc (.cells (dc D) 42)).alloc (.cells (dc fun _ => 0) 47)).alloc (.cells (dc fun _ => 0) 47)) := (((Below.refl _ _).alloc (Nat.le_refl _) _).alloc (by simp) _).alloc (by simp; omega) _
  have H0 := Lib.hid hg0; have H1 := Lib.hid hg1; have H2 := Lib.hid hg2; have HB := Lib.hid hbel
  clear hg0 hg1 hg2 hbel
  go_enter Try.func17, Try.ntmps17
  go_wp2_with (with_reducible refine alloc_drum ?_ ?_ ?_; with_reducible rfl; with_reducible rfl)
  go_loopw [4] (fun i w' => Below w.heap.size w w' ∧ DrumAt w' 42 w.heap.size D ∧ DrumAt w' 47 (w.heap.size + 1) (fun _ => 0) ∧ ∃ k : Nat, k ≤ 96 ∧ i = .int .i64 k ∧ DrumAt w' 47 (w.heap.size + 1 + 1) (mixD D (fun _ => 0) k)) (fun i _ => 96 - (intOf i).toNat)
  case atStart => exact ⟨HB.out, H0.out, H1.out, 0, by omega, rfl, by have := H2.out; rw [mixD_zero] at this ⊢; exact this⟩
  case round =>
    clear H0 H1 H2 HB
    obtain ⟨hb, h0, h1, k, hk, rfl, h2⟩ := hrel
    have H0 := Lib.hid h0; have H1 := Lib.hid h1; have H2 := Lib.hid h2; clear h0 h1 h2
    by_cases hlt : k < 96
    · have c0 := H0.out.cell k hlt
      have c2 := H2.out.cell k hlt
      rw [mixD_at] at c2
      have hf := H2.out.frozen k
      go_wp2
      go_roundw
      case rel =>
        have h2 := H2.out.setCell k (D k) hlt
        rw [mixD_upd] at h2
        exact ⟨hb.setCell (by simp; omega) _, H0.out.setOther _ _ (by simp; omega), H1.out.setOther _ _ (by simp), k + 1, by omega, by go_num, h2⟩
      case measure => simp [intOf]; omega
    · have hk96 : k = 96 := by omega
      subst hk96
      have h2 := H2.out.congr (mixD_full _ _)
      have h1 := H1.out
      have h1' := h1.setRow D
      go_wp2_with (first | (with_reducible refine load_drum rfl _ rfl (w.heap.size + 1 + 1) rfl _ D h2 ?_) | (with_reducible refine store_drum rfl _ _ rfl (w.heap.size + 1) D rfl rfl _ _ h1 ?_))
      refine bodyPost_ret (results_drum rfl _ _ (w.heap.size + 1) _ D rfl h1') rfl ⟨rfl, below_setRow hb (by omega) _⟩
end Go.Proofs.Yteffaghcjpeblaa
