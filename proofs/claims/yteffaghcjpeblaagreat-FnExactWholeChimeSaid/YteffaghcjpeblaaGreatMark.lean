/- Slices of numbers that a function hands back: compared, marked, looked at again by the statements. No conditions. -/
import Derived.Test.YteffaghcjpeblaaGreatAp
import Derived.Outline
namespace Go.Proofs.YteffaghcjpeblaaGreat
open Go.RowKit
set_option linter.unusedVariables false
set_option linter.unusedSimpArgs false

set_option maxRecDepth 100000 in
theorem eqInt64S_any (a b : Option Addr) (n c d : Nat) (Z : Nat → Int) (w : World) (hn : n ≤ 1000000000) (ha : IntAt w a n Z) (hb : IntAt w b n Z) :
    Calls Tryz.prog 14 #[.slice a n c, .slice b n d] w fun e w' => e = .returned (.bool true) ∧ Below w.heap.size w w' := by
  have KA := kp_int ha; have KC := kp_int hb; clear ha hb
  go_enter Tryz.func14, Tryz.ntmps14
  go_wp2
  go_loopw [5] (fun i w' => Below w.heap.size w w' ∧ ∃ k : Nat, k ≤ n ∧ i = .int .i64 k) (fun i _ => n - (intOf i).toNat)
  case atStart => exact ⟨Below.refl _ _, 0, by omega, rfl⟩
  case round =>
    obtain ⟨hb, k, hk, rfl⟩ := hrel
    replace KA := KA.on hb
    replace KC := KC.on hb
    by_cases hlt : k < n
    · have hx := IntAt.get KA.here (show 0 < n by omega)
      have hy := IntAt.get KC.here (show 0 < n by omega)
      obtain ⟨g, off, rfl, hg, hc⟩ := hx
      obtain ⟨g', off', rfl, hg', hc'⟩ := hy
      have c0 := hc k hlt
      have e0 := hc' k hlt
      clear hc hc'
      have hk' : (k : Int) < n := by omega
      go_wp2
      go_quiet (fail)
      go_wp2
      go_roundw
      case rel => exact ⟨below_drewN hb _, k + 1, by omega, by go_num⟩
      case measure => simp [intOf]; omega
    · go_wp2
      go_ret
      exact ⟨rfl, hb⟩
set_option maxRecDepth 100000 in
/-- what was marked from j on still holds -/
theorem heldInt64S_any (a : Option Addr) (n c : Nat) (j : Nat) (w : World) (hn : n ≤ 1000000) (hj : j ≤ 1000000) (ha : IntAt w a n (fun i => ((j + i : Nat) : Int))) :
    Calls Tryz.prog 20 #[.slice a n c, .int .i64 (j : Int)] w fun e w' => e = .returned (.int .i64 ((j + n : Nat) : Int)) ∧ w = w' := by
  have HA := Lib.hid ha; clear ha
  go_enter Tryz.func20, Tryz.ntmps20
  go_wp2
  go_loop [1, 5] (fun t i => ∃ k : Nat, k ≤ n ∧ i = .int .i64 k ∧ t = .int .i64 ((j + k : Nat) : Int)) (fun _ i => n - (intOf i).toNat)
  case atStart => exact ⟨0, by omega, rfl, rfl⟩
  case round =>
    obtain ⟨k, hk, rfl, rfl⟩ := hrel
    by_cases hlt : k < n
    · have hx := IntAt.get HA.out (show 0 < n by omega)
      obtain ⟨g, off, rfl, hg, hc⟩ := hx
      have c0 := hc k hlt
      clear hc
      have hk' : (k : Int) < n := by omega
      obtain ⟨y, hy⟩ : ∃ y : Nat, j + k = y := ⟨_, rfl⟩
      rw [hy] at c0 ⊢
      go_wp2
      go_round
      case rel => exact ⟨k + 1, by omega, by go_num, by go_num⟩
      case measure => simp [intOf]; omega
    · have hkn : k = n := by omega
      subst hkn
      go_wp2
      go_ret
      exact ⟨rfl, rfl⟩
set_option maxRecDepth 100000 in
/-- the numbers from j on are written into a slice of one's own -/
theorem markInt64S_any (base : Nat) (v : Value) (l : List Int) (j : Nat) (w : World) (hn : l.length ≤ 1000000) (hj : j ≤ 1000000) (hbase : base ≤ w.heap.size) (ha : OwnI w base v l) :
    Calls Tryz.prog 19 #[v, .int .i64 (j : Int)] w fun e w' => e = .returned (.int .i64 ((j + l.length : Nat) : Int)) ∧ Below base w w' ∧ (∀ g, some g ≠ v.ownBlock → w'.heap[g]? = w.heap[g]?) ∧ OwnI w' base v ((List.range l.length).map fun i => ((j + i : Nat) : Int)) := by
  obtain ⟨hl, h⟩ := ha
  rcases h with ⟨rfl, h0⟩ | ⟨g, cap, cur, rfl, hg, hb, hc, hm, hs, ht⟩
  · rw [h0]
    go_enter Tryz.func19, Tryz.ntmps19
    go_wp2
    go_loop [1, 5] (fun t i => t = .int .i64 (j : Int) ∧ i = .int .i64 0) (fun _ _ => 0)
    case atStart => exact ⟨rfl, rfl⟩
    case round =>
      obtain ⟨rfl, rfl⟩ := hrel
      go_wp2
      go_ret
      exact ⟨rfl, Below.refl _ _, fun _ _ => rfl, World.ownsRow_nil _ _ _ _⟩
  · obtain ⟨n, hln⟩ : ∃ n, l.length = n := ⟨_, rfl⟩
    rw [hln] at hn hc ⊢
    clear ht hln hl
    rw [Nat.mul_one] at hs
    have HB := Lib.hid hb; clear hb
    go_enter Tryz.func19, Tryz.ntmps19
    go_wp2
    go_loopw [1, 5] (fun t i w' => Below base w w' ∧ (∀ x, x ≠ g → w'.heap[x]? = w.heap[x]?) ∧ ∃ k : Nat, k ≤ n ∧ i = .int .i64 k ∧ t = .int .i64 ((j + k : Nat) : Int) ∧ ∃ cur' : Array Value, w'.heap[g]? = some (.cells cur' 2 (0, 0)) ∧ cur'.size = cap ∧ ∀ x, x < k → cur'[x]? = some (.int .i64 ((j + x : Nat) : Int))) (fun _ i _ => n - (intOf i).toNat)
    case atStart => exact ⟨Below.refl _ _, fun _ _ => rfl, 0, by omega, rfl, rfl, cur, HB.out, hs, fun x hx => absurd hx (by omega)⟩
    case round =>
      obtain ⟨hbl, hoth, k, hk, rfl, rfl, cur', hrow, hcs, hcells⟩ := hrel
      have HO := Lib.hid hoth; have HROW := Lib.hid hrow; have HCE := Lib.hid hcells; clear hoth hrow hcells
      by_cases hlt : k < n
      · have hk' : (k : Int) < n := by omega
        obtain ⟨z, hz⟩ : ∃ z, cur'[k]? = some z := ⟨_, Array.getElem?_eq_getElem (show k < cur'.size by omega)⟩
        have c0 : wr.cell? ⟨g, k, none⟩ = some z := by rw [row_cell k HROW.out, hz]
        have hf := frozen_of_row wr g k _ _ HROW.out
        clear hz
        obtain ⟨y, hy⟩ : ∃ y : Nat, j + k = y := ⟨_, rfl⟩
        rw [hy]
        go_wp2
        go_roundw
        case rel =>
          have h2 := heap_setCell_same wr g k _ _ (.int .i64 (y : Int)) HROW.out
          refine ⟨hbl.setCell hg _, fun x hx => (heap_setCell_other wr _ x _ hx).trans (HO.out x hx), k + 1, by omega, by go_num, by go_num, _, h2, by simpa using hcs, fun x hx => ?_⟩
          rw [Array.getElem?_setIfInBounds]
          by_cases e : k = x
          · subst e; rw [if_pos rfl, if_pos (by omega), hy]
          · rw [if_neg e]; exact HCE.out x (by omega)
        case measure => simp [intOf]; omega
      · have hkn : k = n := by omega
        subst hkn
        go_wp2
        go_ret
        refine ⟨rfl, hbl, fun x hx => HO.out x (by intro e; subst e; exact hx rfl), ?_⟩
        unfold OwnI
        refine ⟨by simp, .inr ⟨g, cap, cur', by simp, hg, HROW.out, by simpa using hc, hm, by omega, ?_⟩⟩
        apply List.ext_getElem?
        intro x
        rw [List.getElem?_take]
        by_cases hx : x < k
        · rw [if_pos (by simpa using hx), Array.getElem?_toList, HCE.out x hx]
          simp [hx]
        · rw [if_neg (by simpa using hx)]
          simp [hx]
end Go.Proofs.YteffaghcjpeblaaGreat
