/- Pairs of numbers: slices of them. No conditions. -/
import Derived.Test.YtmmneedmhmppoaaSec
import Derived.Test.YtmmneedmhmppoaaOwn
import Derived.Outline
namespace Go.Proofs.Ytmmneedmhmppoaa
open Go.RowKit
set_option linter.unusedVariables false
set_option linter.unusedSimpArgs false

/-- a slice at the address a reads as n pairs -/
def PairAt (w : World) (a : Option Addr) (n : Nat) (P R : Nat → Int) : Prop :=
  0 < n → ∃ g off, a = some ⟨g, off, none⟩ ∧ g < w.heap.size ∧
    ∀ i, i < n → w.cell? ⟨g, off + i * 2, none⟩ = some (.int .i64 (P i)) ∧ w.cell? ⟨g, off + i * 2 + 1, none⟩ = some (.int .i64 (R i))
theorem PairAt.get {w : World} {a : Option Addr} {n : Nat} {P R : Nat → Int} (h : PairAt w a n P R) (hn : 0 < n) : ∃ g off, a = some ⟨g, off, none⟩ ∧ g < w.heap.size ∧
    ∀ i, i < n → w.cell? ⟨g, off + i * 2, none⟩ = some (.int .i64 (P i)) ∧ w.cell? ⟨g, off + i * 2 + 1, none⟩ = some (.int .i64 (R i)) := h hn
theorem PairAt.below {w w' : World} {a : Option Addr} {n : Nat} {P R : Nat → Int} (h : PairAt w a n P R) (hb : Below w.heap.size w w') : PairAt w' a n P R := by
  intro hn
  obtain ⟨g, off, rfl, hg, hc⟩ := h hn
  refine ⟨g, off, rfl, Nat.lt_of_lt_of_le hg hb.size, fun i hi => ?_⟩
  rw [hb.cell (p := ⟨g, off + i * 2, none⟩) hg, hb.cell (p := ⟨g, off + i * 2 + 1, none⟩) hg]
  exact hc i hi
theorem kp_pair {w : World} {a : Option Addr} {n : Nat} {F S : Nat → Int} (h : PairAt w a n F S) : Kp w (fun V => PairAt V a n F S) := Kp.mk fun _ hb => h.below hb
/-- a slice that came in reads as n pairs -/
def PairIn (w : World) (a : Option Addr) (n : Nat) (P R : Nat → Int) : Prop :=
  0 < n → ∃ ad, a = some ad ∧ ad.block < w.heap.size ∧
    ∀ i, i < n → w.cell? (ad.add (i * 2)) = some (.int .i64 (P i)) ∧ w.cell? ⟨(ad.add (i * 2)).block, (ad.add (i * 2)).off + 1, none⟩ = some (.int .i64 (R i))
theorem PairIn.get {w : World} {a : Option Addr} {n : Nat} {P R : Nat → Int} (h : PairIn w a n P R) (hn : 0 < n) : ∃ ad, a = some ad ∧ ad.block < w.heap.size ∧
    ∀ i, i < n → w.cell? (ad.add (i * 2)) = some (.int .i64 (P i)) ∧ w.cell? ⟨(ad.add (i * 2)).block, (ad.add (i * 2)).off + 1, none⟩ = some (.int .i64 (R i)) := h hn
theorem PairIn.below {w w' : World} {a : Option Addr} {n : Nat} {P R : Nat → Int} (h : PairIn w a n P R) (hb : Below w.heap.size w w') : PairIn w' a n P R := by
  intro hn
  obtain ⟨ad, rfl, hg, hc⟩ := h hn
  refine ⟨ad, rfl, Nat.lt_of_lt_of_le hg hb.size, fun i hi => ?_⟩
  rw [hb.cell (p := ad.add (i * 2)) (by rw [add_block]; exact hg), hb.cell (p := ⟨(ad.add (i * 2)).block, (ad.add (i * 2)).off + 1, none⟩) (by rw [add_block]; exact hg)]
  exact hc i hi
theorem kp_pairIn {w : World} {a : Option Addr} {n : Nat} {F S : Nat → Int} (h : PairIn w a n F S) : Kp w (fun V => PairIn V a n F S) := Kp.mk fun _ hb => h.below hb
set_option maxRecDepth 100000 in
theorem eqInt64A2_any (p r : Int) (w : World) :
    Calls Try.prog 94 #[.agg #[.int .i64 p, .int .i64 r], .agg #[.int .i64 p, .int .i64 r]] w fun e w' => e = .returned (.bool true) ∧ Below w.heap.size w w' := by
  have KB := Kp.base w
  replace KB := KB.alloc (.cells #[.int .i64 p, .int .i64 r] 129)
  have K0 := kp_new1 w #[.int .i64 p, .int .i64 r] 129 (g := w.heap.size) (by simp)
  replace KB := KB.alloc (.cells #[.int .i64 p, .int .i64 r] 129)
  replace K0 := K0.alloc (.cells #[.int .i64 p, .int .i64 r] 129)
  have K1 := kp_new1 (w.alloc (.cells #[.int .i64 p, .int .i64 r] 129)) #[.int .i64 p, .int .i64 r] 129 (g := w.heap.size + 1) (by simp)
  have HZ := Lib.hid (show ((w.alloc (.cells #[.int .i64 p, .int .i64 r] 129)).alloc (.cells #[.int .i64 p, .int .i64 r] 129)).heap.size = w.heap.size + 1 + 1 by simp)
  go_enter Try.func94, Try.ntmps94
  go_wp2
  generalize ((w.alloc (.cells #[.int .i64 p, .int .i64 r] 129)).alloc (.cells #[.int .i64 p, .int .i64 r] 129)) = W at KB K0 K1 HZ ⊢
  clear HZ
  go_loopw [5] (fun i w' => Below W.heap.size W w' ∧ ∃ k : Nat, k ≤ 2 ∧ i = .int .i64 k) (fun i _ => 2 - (intOf i).toNat)
  case atStart => exact ⟨Below.refl _ _, 0, by omega, rfl⟩
  case round =>
    obtain ⟨hb, k, hk, rfl⟩ := hrel
    replace KB := KB.on hb
    replace K0 := K0.on hb
    replace K1 := K1.on hb
    by_cases hlt : k < 2
    · obtain ⟨z, c0, c1⟩ : ∃ z, wr.cell? ⟨w.heap.size, k, none⟩ = some (.int .i64 z) ∧ wr.cell? ⟨w.heap.size + 1, k, none⟩ = some (.int .i64 z) := by
        rw [row_cell k K0.here, row_cell k K1.here]
        obtain rfl | rfl : k = 0 ∨ k = 1 := by omega
        · exact ⟨p, rfl, rfl⟩
        · exact ⟨r, rfl, rfl⟩
      go_wp2
      go_quiet (fail)
      go_wp2
      go_roundw
      case rel => exact ⟨below_drewN hb _, k + 1, by omega, by go_num⟩
      case measure => simp [intOf]; omega
    · go_wp2
      go_ret
      exact ⟨rfl, KB.here⟩
set_option maxRecDepth 100000 in
theorem eqInt64A2S_kp (a b : Option Addr) (n c d : Nat) (P R : Nat → Int) (w : World) (hn : n ≤ 1000000000) (ha : PairAt w a n P R) (hb : PairAt w b n P R) :
    Calls Try.prog 36 #[.slice a n c, .slice b n d] w fun e w' => e = .returned (.bool true) ∧ Below w.heap.size w w' := by
  have HA := Lib.hid ha; have HB := Lib.hid hb; clear ha hb
  go_enter Try.func36, Try.ntmps36
  go_wp2
  go_loopw [5] (fun i w' => Below w.heap.size w w' ∧ ∃ k : Nat, k ≤ n ∧ i = .int .i64 k) (fun i _ => n - (intOf i).toNat)
  case atStart => exact ⟨Below.refl _ _, 0, by omega, rfl⟩
  case round =>
    obtain ⟨hb, k, hk, rfl⟩ := hrel
    by_cases hlt : k < n
    · have hx := PairAt.get HA.out (show 0 < n by omega)
      have hy := PairAt.get HB.out (show 0 < n by omega)
      obtain ⟨g, off, rfl, hg, hc⟩ := hx
      obtain ⟨g', off', rfl, hg', hc'⟩ := hy
      have c0 := (hb.cell (p := ⟨g, off + k * 2, none⟩) hg).trans (hc k hlt).1
      have c1 := (hb.cell (p := ⟨g, off + k * 2 + 1, none⟩) hg).trans (hc k hlt).2
      have c2 := (hb.cell (p := ⟨g', off' + k * 2, none⟩) hg').trans (hc' k hlt).1
      have c3 := (hb.cell (p := ⟨g', off' + k * 2 + 1, none⟩) hg').trans (hc' k hlt).2
      clear hc hc'
      go_wp2
      go_still_tail 8, (by kernel_rfl)
      go_wp2_with (go_at_call 94; refine (eqInt64A2_any _ _ _).mono ?_; rintro e w1 ⟨rfl, hb1⟩)
      go_roundw
      case rel => exact ⟨hb.trans ((Below.refl _ _).drew.trans (hb1.mono hb.size)), k + 1, by omega, by go_num⟩
      case measure => simp [intOf]; omega
    · go_wp2
      go_ret
      exact ⟨rfl, hb⟩
end Go.Proofs.Ytmmneedmhmppoaa
