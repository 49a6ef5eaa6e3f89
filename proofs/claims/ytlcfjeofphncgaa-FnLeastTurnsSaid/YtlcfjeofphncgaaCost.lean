/- Costs of drums behind each other, by the reference and by the program. No conditions. -/
import Derived.Test.YtlcfjeofphncgaaArr
import Derived.Test.YtlcfjeofphncgaaCount
import Derived.Outline
namespace Go.Proofs.Ytlcfjeofphncgaa
open Go.RowKit
set_option linter.unusedVariables false
set_option linter.unusedSimpArgs false

theorem count_any (D : Nat → Nat) (hD : D32 D) (w : World) :
    Calls Try.prog 39 #[.agg (dc D)] w fun e w' => e = .returned (.int .i64 (cnt D)) ∧ Below w.heap.size w w' := by
  go_enter Try.func39, Try.ntmps39
  have hg := DrumAt.new w 33 D
  go_wp2_with (with_reducible refine load_drum rfl _ rfl w.heap.size rfl _ D hg ?_)
  go_loopw [3, 7] (fun t i w' => Below w.heap.size w w' ∧ ∃ k : Nat, k ≤ 96 ∧ i = .int .i64 k ∧ t = .int .i64 (sumTo (fun k => popc (D k)) k)) (fun _ i _ => 96 - (intOf i).toNat)
  case atStart => exact ⟨(Below.refl _ _).alloc (Nat.le_refl _) _, 0, by omega, rfl, by rw [sumTo_zero]; rfl⟩
  case round =>
    obtain ⟨hb, k, hk, rfl, rfl⟩ := hrel
    have hs := sumTo_le (fun k => popc (D k)) 32 (fun k => popc_le _) k
    have hp := popc_le (D k)
    by_cases hlt : k < 96
    · have hix := index_drum D k hlt
      go_wp2_with (go_at_call 68; refine (countBits_any _ (hD k) _).mono ?_; rintro e w' ⟨rfl, q, rfl⟩)
      go_roundw
      case rel => exact ⟨below_drewN hb _, k + 1, by omega, by go_num, by rw [sumTo_succ]; go_num⟩
      case measure => simp [intOf]; omega
    · go_wp2
      go_ret
      exact ⟨ret_int (by rw [show k = 96 by omega, cnt_def]), hb⟩
end Go.Proofs.Ytlcfjeofphncgaa
