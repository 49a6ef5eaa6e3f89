/- Costs of drums behind each other, by the reference and by the program. No conditions. -/
import Derived.Test.YtkefjgbcpoggiaaArr
import Derived.Test.YtkefjgbcpoggiaaCount
import Derived.Outline
namespace Go.Proofs.Ytkefjgbcpoggiaa
open Go.RowKit
set_option linter.unusedVariables false
set_option linter.unusedSimpArgs false

theorem count_any (D : Nat → Nat) (hD : D32 D) (w : World) :
    Calls Try.prog 95 #[.agg (dc D)] w fun e w' => e = .returned (.int .i64 (cnt D)) ∧ Below w.heap.size w w' := by
  go_enter Try.func95, Try.ntmps95
  have hg := DrumAt.new w 33 D
  go_wp2_with (with_reducible refine load_drum rfl _ rfl w.heap.size rfl _ D hg ?_)
  go_loopw [3, 7] (fun t i w' => Below w.heap.size w w' ∧ ∃ k : Nat, k ≤ 96 ∧ i = .int .i64 k ∧ t = .int .i64 (sumTo (fun k => popc (D k)) k)) (fun _ i _ => 96 - (intOf i).toNat)
  case atStart => exact ⟨(Below.refl _ _).alloc (Nat.le_refl _) _, 0, by omega, rfl, by rw [sumTo_zero]; rfl⟩
  case round =>
    obtain ⟨hb, k, hk, rfl, rfl⟩ := hrel
    have hs := sumTo_le (fun k => popc (D k)) 32 (fun k => popc_le _) k
    have hp := popc_le (D k)
    by_cases hlt : k < 96
    · have hix := index_drum D k hlt
      go_wp2_with (go_at_call 165; refine (countBits_any _ (hD k) _).mono ?_; rintro e w' ⟨rfl, q, rfl⟩)
      go_roundw
      case rel => exact ⟨below_drewN hb _, k + 1, by omega, by go_num, by rw [sumTo_succ]; go_num⟩
      case measure => simp [intOf]; omega
    · go_wp2
      go_ret
      exact ⟨ret_int (by rw [show k = 96 by omega, cnt_def]), hb⟩
theorem less_any (D E : Nat → Nat) (hD : D32 D) (hE : D32 E) (w : World) :
    Calls Try.prog 223 #[.agg (dc D), .agg (dc E)] w fun e w' => e = .returned (.agg (dc (lessD D E))) ∧ Below w.heap.size w w' := by
  go_enter Try.func223, Try.ntmps223
  have hg0 := ((DrumAt.new w 33 D).alloc (.cells (dc E) 33)).alloc (.cells (dc fun _ => 0) 33)
  have hg1 := (DrumAt.new2 w (.cells (dc D) 33) 33 E).alloc (.cells (dc fun _ => 0) 33)
  have hg2 := DrumAt.new3 w (.cells (dc D) 33) (.cells (dc E) 33) 33 (fun _ => 0)
  go_wp2_with (first | (with_reducible refine alloc_drum ?_ ?_ ?_; with_reducible rfl; with_reducible rfl) | (with_reducible refine load_drum rfl _ rfl (w.heap.size + 1) rfl _ E hg1 ?_))
  clear hg1
  have hg0' : DrumAt (((w.alloc (.cells (dc D) 33)).alloc (.cells (dc E) 33)).alloc (.cells (dc fun _ => 0) 33)) 33 w.heap.size (mixD (lessD D E) D 0) := by rw [mixD_zero]; exact hg0
  have hbel : Below w.heap.size w (((w.alloc (.cells (dc D) 33)).alloc (.cells (dc E) 33)).alloc (.cells (dc fun _ => 0) 33)) := (((Below.refl _ _).alloc (Nat.le_refl _) _).alloc (by simp) _).alloc (by simp; omega) _
  clear hg0
  go_loopw [8] (fun i w' => Below w.heap.size w w' ∧ DrumAt w' 33 (w.heap.size + 1 + 1) (fun _ => 0) ∧ ∃ k : Nat, k ≤ 96 ∧ i = .int .i64 k ∧ DrumAt w' 33 w.heap.size (mixD (lessD D E) D k)) (fun i _ => 96 - (intOf i).toNat)
  case atStart => exact ⟨hbel, hg2, 0, by omega, rfl, hg0'⟩
  case round =>
    clear hg2 hg0' hbel
    obtain ⟨hb, h2, k, hk, rfl, h0⟩ := hrel
    have H2 := Lib.hid h2; have H0 := Lib.hid h0; clear h2 h0
    by_cases hlt : k < 96
    · have hix := index_drum E k hlt
      have hc := H0.out.cell k hlt
      rw [mixD_at] at hc
      have hf := H0.out.frozen k
      have hbit := bits_andNot_u32 (hD k) (hE k)
      go_wp2
      go_roundw
      case rel =>
        have h0 := H0.out.setCell k (lessD D E k) hlt
        rw [mixD_upd] at h0
        exact ⟨hb.setCell (Nat.le_refl _) _, H2.out.setOther _ _ (by simp; omega), k + 1, by omega, by go_num, h0⟩
      case measure => simp [intOf]; omega
    · have hk96 : k = 96 := by omega
      subst hk96
      have h0 := H0.out.congr (mixD_full _ _)
      have h2 := H2.out
      have h2' := h2.setRow (lessD D E)
      go_wp2_with (first | (with_reducible refine load_drum rfl _ rfl w.heap.size rfl _ (lessD D E) h0 ?_) | (with_reducible refine store_drum rfl _ _ rfl (w.heap.size + 1 + 1) (lessD D E) rfl rfl _ _ h2 ?_))
      refine bodyPost_ret (results_drum rfl _ _ (w.heap.size + 1 + 1) _ (lessD D E) rfl h2') rfl ⟨rfl, below_setRow hb (by omega) _⟩
/-- how many pins must be taken out and put in -/
theorem cost_any (D E : Nat → Nat) (hD : D32 D) (hE : D32 E) (w : World) :
    Calls Try.prog 197 #[.agg (dc D), .agg (dc E)] w fun e w' => e = .returned (.int .i64 (cnt (lessD D E) + cnt (lessD E D) : Nat)) ∧ Below w.heap.size w w' := by
  have hg0 := (DrumAt.new w 33 D).alloc (.cells (dc E) 33)
  have hg1 := DrumAt.new2 w (.cells (dc D) 33) 33 E
  have hb0 : Below w.heap.size w ((w.alloc (.cells (dc D) 33)).alloc (.cells (dc E) 33)) := ((Below.refl _ _).alloc (Nat.le_refl _) _).alloc (by simp) _
  have l0 : ∀ W, Below (w.heap.size + 2) ((w.alloc (.cells (dc D) 33)).alloc (.cells (dc E) 33)) W → DrumAt W 33 w.heap.size D := fun W hW => hg0.below hW (by omega)
  have l1 : ∀ W, Below (w.heap.size + 2) ((w.alloc (.cells (dc D) 33)).alloc (.cells (dc E) 33)) W → DrumAt W 33 (w.heap.size + 1) E := fun W hW => hg1.below hW (by omega)
  have hsz : ((w.alloc (.cells (dc D) 33)).alloc (.cells (dc E) 33)).heap.size = w.heap.size + 2 := by simp
  have H0 := Lib.hid l0; have H1 := Lib.hid l1; have HB := Lib.hid hb0; have HZ := Lib.hid hsz
  clear hg0 hg1 l0 l1 hb0 hsz
  have c1 := cnt_le (lessD D E)
  have c2 := cnt_le (lessD E D)
  go_enter Try.func197, Try.ntmps197
  go_wp2
  refine wp_region_below (B := w.heap.size + 2) (by kernel_rfl) (by kernel_rfl) (Below.refl _ _) ?_
  refine quiet_load_drum rfl _ rfl w.heap.size rfl _ D H0.out ?_
  refine quiet_load_drum rfl _ rfl (w.heap.size + 1) rfl _ E H1.out ?_
  refine quiet_call rfl 223 #[.agg (dc D), .agg (dc E)] (.agg (dc (lessD D E))) (fun W => by simp [go_sem]) (fun W hW => (less_any D E hD hE W).mono fun e W' ⟨he, hb⟩ => ⟨he, hW.trans (hb.mono (by have := hW.size; have := HZ.out; omega))⟩) ?_
  refine quiet_call rfl 95 #[.agg (dc (lessD D E))] (.int .i64 (cnt (lessD D E))) (fun W => by simp [go_sem]) (fun W hW => (count_any _ (lessD_32 hD) W).mono fun e W' ⟨he, hb⟩ => ⟨he, hW.trans (hb.mono (by have := hW.size; have := HZ.out; omega))⟩) ?_
  refine quiet_load_drum rfl _ rfl (w.heap.size + 1) rfl _ E H1.out ?_
  refine quiet_load_drum rfl _ rfl w.heap.size rfl _ D H0.out ?_
  refine quiet_call rfl 223 #[.agg (dc E), .agg (dc D)] (.agg (dc (lessD E D))) (fun W => by simp [go_sem]) (fun W hW => (less_any E D hE hD W).mono fun e W' ⟨he, hb⟩ => ⟨he, hW.trans (hb.mono (by have := hW.size; have := HZ.out; omega))⟩) ?_
  refine quiet_call rfl 95 #[.agg (dc (lessD E D))] (.int .i64 (cnt (lessD E D))) (fun W => by simp [go_sem]) (fun W hW => (count_any _ (lessD_32 hE) W).mono fun e W' ⟨he, hb⟩ => ⟨he, hW.trans (hb.mono (by have := hW.size; have := HZ.out; omega))⟩) ?_
  refine quiet_val rfl (.int .i64 (cnt (lessD D E) + cnt (lessD E D) : Nat)) (fun W _ => by simp [go_sem]; exact i64_id (by omega)) ?_
  refine quiet_val rfl (.int .i64 (cnt (lessD D E) + cnt (lessD E D) : Nat)) (fun W _ => by simp [go_sem]) ?_
  refine wpQuiet_nil ?_
  intro W hW
  simp only [Act.put, List.setIfInBounds_toArray, List.set_cons_zero, List.set_cons_succ]
  go_wp2
  go_ret
  exact ⟨rfl, HB.out.trans (hW.mono (by omega))⟩
end Go.Proofs.Ytkefjgbcpoggiaa
