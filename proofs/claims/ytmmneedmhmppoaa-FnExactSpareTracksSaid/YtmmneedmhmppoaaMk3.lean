/- What the statements write over, and look for again: pairs. No conditions. -/
import Derived.Test.YtmmneedmhmppoaaMk1
namespace Go.Proofs.Ytmmneedmhmppoaa
open Go.RowKit
set_option linter.unusedVariables false
set_option linter.unusedSimpArgs false

def mkInt64A2 (j x : Nat) : Value := .int .i64 ((j + x : Nat) : Int)
theorem mkInt64A2_at (j x y : Nat) (h : j + x = y) : mkInt64A2 j x = .int .i64 (y : Int) := by unfold mkInt64A2; rw [h]
set_option maxRecDepth 100000 in
theorem markInt64A2S_own (base : Nat) (v : Value) (n : Nat) (xs : List Value) (j : Nat) (w : World) (hn : n ≤ 1048576) (hj : j ≤ 1000000000) (ha : w.ownsRow base 129 2 v n xs) :
    Calls Try.prog 37 #[v, .int .i64 (j : Int)] w fun e w' => e = .returned (.int .i64 ((j + n * 2 : Nat) : Int)) ∧ w.grownBy w' v.ownBlock ∧ w'.ownsRow base 129 2 v n (mks (mkInt64A2 j) (n * 2)) := by
  obtain ⟨hl, h⟩ := ha
  rcases h with ⟨rfl, rfl⟩ | ⟨g, cap, cur, rfl, hg, hb, hc, hm, hs, ht⟩
  · go_enter Try.func37, Try.ntmps37
    go_wp2
    go_loop [1, 5] (fun t i => t = .int .i64 (j : Int) ∧ i = .int .i64 0) (fun _ _ => 0)
    case atStart => exact ⟨rfl, rfl⟩
    case round =>
      obtain ⟨rfl, rfl⟩ := hrel
      go_wp2
      go_ret
      exact ⟨rfl, grown_refl _ _, World.ownsRow_nil _ _ _ _⟩
  · clear ht hl
    have HB := Lib.hid hb; clear hb
    have HS := Lib.hid hs; clear hs
    obtain ⟨row, hrow⟩ : ∃ r, r = (Value.slice (some ⟨g, 0, none⟩) n cap).ownBlock := ⟨_, rfl⟩
    rw [← hrow]
    have HR := Lib.hid (show row = some g from hrow); clear hrow
    go_enter Try.func37, Try.ntmps37
    go_wp2
    go_loopw [1, 5] (fun t i w' => w.grownBy w' row ∧ ∃ k : Nat, k ≤ n ∧ i = .int .i64 k ∧ t = .int .i64 ((j + k * 2 : Nat) : Int) ∧ ∃ cur' : Array Value, w'.heap[g]? = some (.cells cur' 129 (0, 0)) ∧ cur'.size = cap * 2 ∧ ∀ x, x < k * 2 → cur'[x]? = some (mkInt64A2 j x)) (fun _ i _ => n - (intOf i).toNat)
    case atStart => exact ⟨grown_refl _ _, 0, by omega, rfl, rfl, cur, HB.out, HS.out, fun x hx => absurd hx (by omega)⟩
    case round =>
      clear HB HS
      obtain ⟨hgr, k, hk, rfl, rfl, cur', hrow, hcs, hcells⟩ := hrel
      have HG := Lib.hid hgr; have HROW := Lib.hid hrow; have HCE := Lib.hid hcells; have HCS := Lib.hid hcs; clear hgr hrow hcells hcs
      by_cases hlt : k < n
      · have hk' : (k : Int) < n := by omega
        obtain ⟨U, rfl⟩ : ∃ U, U = wr := ⟨wr, rfl⟩
        go_wp2
        go_loopw [1, 6] (fun t i w' => w.grownBy w' row ∧ ∃ m : Nat, m ≤ 2 ∧ i = .int .i64 m ∧ t = .int .i64 ((j + k * 2 + m : Nat) : Int) ∧ ∃ cur' : Array Value, w'.heap[g]? = some (.cells cur' 129 (0, 0)) ∧ cur'.size = cap * 2 ∧ ∀ x, x < k * 2 + m → cur'[x]? = some (mkInt64A2 j x)) (fun _ i _ => 2 - (intOf i).toNat)
        case atStart => exact ⟨HG.out, 0, by omega, rfl, rfl, cur', HROW.out, HCS.out, HCE.out⟩
        case round =>
          clear HG HROW HCE HCS
          obtain ⟨hgr, m, hm', rfl, rfl, cur', hrow, hcs, hcells⟩ := hrel
          have HG := Lib.hid hgr; have HROW := Lib.hid hrow; have HCE := Lib.hid hcells; clear hgr hrow hcells
          by_cases hlm : m < 2
          · have hm2 : (m : Int) < 2 := by omega
            obtain ⟨z, hz⟩ : ∃ z, cur'[k * 2 + m]? = some z := ⟨_, Array.getElem?_eq_getElem (show k * 2 + m < cur'.size by omega)⟩
            have c0 : wr.cell? ⟨g, k * 2 + m, none⟩ = some z := by rw [row_cell _ HROW.out, hz]
            have f0 := frozen_of_row wr g (k * 2 + m) _ _ HROW.out
            have HCS := Lib.hid hcs
            clear hz hcs
            obtain ⟨y, hy⟩ : ∃ y : Nat, j + k * 2 + m = y := ⟨_, rfl⟩
            rw [hy]
            have HY := Lib.hid hy; clear hy
            have hyb : y ≤ 2000000000 := by have := HY.out; omega
            go_wp2
            go_roundw
            case rel =>
              have hcs := HCS.out; have hy := HY.out
              exact ⟨grown_set HG.out HR.out _ _, m + 1, by omega, by go_num, by rw [show j + k * 2 + (m + 1) = y + 1 by omega]; go_num, _, heap_setCell_same _ g (k * 2 + m) _ _ _ HROW.out, by simp; omega, set_keep HCE.out (by omega) (mkInt64A2_at _ _ _ (by omega)).symm⟩
            case measure => simp [intOf]; omega
          · have hm2 : m = 2 := by omega
            subst hm2
            go_wp2
            go_roundw
            case rel => exact ⟨HG.out, k + 1, by omega, by go_num, by rw [show j + (k + 1) * 2 = j + k * 2 + 2 by omega], cur', HROW.out, hcs, fun x hx => HCE.out x (by omega)⟩
            case measure => simp [intOf]; omega
      · have hkn : k = n := by omega
        subst hkn
        go_wp2
        go_ret
        exact ⟨rfl, HG.out, own_done hg HROW.out hc hm HCS.out HCE.out⟩
set_option maxRecDepth 100000 in
theorem heldInt64A2S_own (base : Nat) (v : Value) (n : Nat) (j : Nat) (w : World) (hn : n ≤ 1048576) (hj : j ≤ 1000000000) (ha : w.ownsRow base 129 2 v n (mks (mkInt64A2 j) (n * 2))) :
    Calls Try.prog 38 #[v, .int .i64 (j : Int)] w fun e w' => e = .returned (.int .i64 ((j + n * 2 : Nat) : Int)) ∧ w = w' := by
  rcases own_at ha with ⟨rfl, rfl⟩ | ⟨g, cap, rfl, hg, hlt, hc⟩
  · go_enter Try.func38, Try.ntmps38
    go_wp2
    go_loop [1, 5] (fun t i => t = .int .i64 (j : Int) ∧ i = .int .i64 0) (fun _ _ => 0)
    case atStart => exact ⟨rfl, rfl⟩
    case round =>
      obtain ⟨rfl, rfl⟩ := hrel
      go_wp2
      go_ret
      exact ⟨rfl, rfl⟩
  · have HC := Lib.hid hc; clear hc ha
    go_enter Try.func38, Try.ntmps38
    go_wp2
    go_loop [1, 5] (fun t i => ∃ k : Nat, k ≤ n ∧ i = .int .i64 k ∧ t = .int .i64 ((j + k * 2 : Nat) : Int)) (fun _ i => n - (intOf i).toNat)
    case atStart => exact ⟨0, by omega, rfl, rfl⟩
    case round =>
      obtain ⟨k, hk, rfl, rfl⟩ := hrel
      by_cases hlt : k < n
      · have hk' : (k : Int) < n := by omega
        go_wp2
        go_loop [1, 6] (fun t i => ∃ m : Nat, m ≤ 2 ∧ i = .int .i64 m ∧ t = .int .i64 ((j + k * 2 + m : Nat) : Int)) (fun _ i => 2 - (intOf i).toNat)
        case atStart => exact ⟨0, by omega, rfl, rfl⟩
        case round =>
          obtain ⟨m, hm, rfl, rfl⟩ := hrel
          by_cases hlm : m < 2
          · have hm2 : (m : Int) < 2 := by omega
            obtain ⟨y, hy⟩ : ∃ y : Nat, j + k * 2 + m = y := ⟨_, rfl⟩
            rw [hy]
            have c0 := HC.out (k * 2 + m) (by omega)
            rw [mks_get _ _ _ (by omega), mkInt64A2_at j (k * 2 + m) y (by omega)] at c0
            have HY := Lib.hid hy; clear hy
            have hyb : y ≤ 2000000000 := by have := HY.out; omega
            go_wp2
            go_round
            case rel => exact ⟨m + 1, by omega, by go_num, by rw [show j + k * 2 + (m + 1) = y + 1 by have := HY.out; omega]; go_num⟩
            case measure => simp [intOf]; omega
          · have hm2 : m = 2 := by omega
            subst hm2
            go_wp2
            go_round
            case rel => exact ⟨k + 1, by omega, by go_num, by rw [show j + (k + 1) * 2 = j + k * 2 + 2 by omega]⟩
            case measure => simp [intOf]; omega
      · have hkn : k = n := by omega
        subst hkn
        go_wp2
        go_ret
        exact ⟨rfl, rfl⟩
end Go.Proofs.Ytmmneedmhmppoaa
