/- Pairs of numbers that come in: copies, sizes. No conditions. -/
import Derived.Test.YtmmneedmhmppoaaPair
import Derived.Test.YtmmneedmhmppoaaOwnP
import Derived.Test.YtmmneedmhmppoaaInt
import Derived.Test.YtmmneedmhmppoaaSec
import Derived.Outline
namespace Go.Proofs.Ytmmneedmhmppoaa
open Go.RowKit
set_option linter.unusedVariables false
set_option linter.unusedSimpArgs false

/-- a block bears n pairs -/
def PairF (n : Nat) (A B : Nat → Int) (f : Nat → Value) : Prop := ∀ i, i < n → f (i * 2) = .int .i64 (A i) ∧ f (i * 2 + 1) = .int .i64 (B i)
theorem PairF.at {w : World} {T g n : Nat} {A B : Nat → Int} {f : Nat → Value} (h : PairF n A B f) (hb : BlkAt w T g (n * 2) f) : PairAt w (some ⟨g, 0, none⟩) n A B := fun _ =>
  ⟨g, 0, rfl, hb.lt, fun i hi => by
    rw [Nat.zero_add, hb.cell (i * 2) (by omega), hb.cell (i * 2 + 1) (by omega), (h i hi).1, (h i hi).2]
    exact ⟨rfl, rfl⟩⟩
theorem PairF.step {k : Nat} {A B : Nat → Int} {f : Nat → Value} (h : PairF k A B f) : PairF (k + 1) A B (updV (updV f (k * 2) (.int .i64 (A k))) (k * 2 + 1) (.int .i64 (B k))) := by
  intro i hi
  by_cases e : i = k
  · subst e
    rw [updV_other _ _ _ (by omega), updV_same, updV_same]
    exact ⟨rfl, rfl⟩
  · rw [updV_other _ _ _ (by omega), updV_other _ _ _ (by omega), updV_other _ _ _ (by omega), updV_other _ _ _ (by omega)]
    exact h i (by omega)
/-- n pairs as a list -/
def prL (n : Nat) (A B : Nat → Int) : List (Int × Int) := (List.range n).map fun i => (A i, B i)
theorem prL_len (n : Nat) (A B : Nat → Int) : (prL n A B).length = n := by unfold prL; simp
theorem prL_get {n : Nat} {A B : Nat → Int} {i : Nat} (hi : i < n) : (prL n A B).getD i (0, 0) = (A i, B i) := by unfold prL; simp [List.getD, hi]
theorem prL_app {n m : Nat} {A B C D : Nat → Int} : prL n A B ++ prL m C D = prL (n + m) (fun i => if i < n then A i else C (i - n)) (fun i => if i < n then B i else D (i - n)) := by
  apply List.ext_getElem?
  intro i
  unfold prL
  rw [List.getElem?_append]
  simp only [List.length_map, List.length_range, List.getElem?_map]
  by_cases h : i < n
  · rw [if_pos h, List.getElem?_range h, List.getElem?_range (by omega)]
    simp [h]
  · rw [if_neg h]
    by_cases h2 : i < n + m
    · rw [List.getElem?_range (by omega), List.getElem?_range h2]
      simp [h]
    · rw [List.getElem?_eq_none (by simp; omega), List.getElem?_eq_none (by simp; omega)]
      rfl
attribute [irreducible] prL
/-- a slice of one's own that bears n pairs -/
def PrO (w : World) (b : Option Addr) (n c : Nat) (A B : Nat → Int) : Prop := OwnP w 0 (.slice b n c) (prL n A B)
theorem PrO.read {w : World} {b : Option Addr} {n c : Nat} {A B : Nat → Int} (h : PrO w b n c A B) : PairAt w b n A B := by
  have h2 := OwnP.readAt h
  rw [prL_len] at h2
  intro hn
  obtain ⟨g, off, e, hg, hc⟩ := h2 hn
  refine ⟨g, off, e, hg, fun i hi => ?_⟩
  have h3 := hc i hi
  simp only [prL_get hi] at h3
  exact h3
theorem kp_prO {w : World} {b : Option Addr} {n c : Nat} {A B : Nat → Int} (h : PrO w b n c A B) : Kp w (fun V => PrO V b n c A B) := kp_OwnP h
theorem PairF.own {w : World} {g n : Nat} {A B : Nat → Int} {f : Nat → Value} (h : PairF n A B f) (hb : BlkAt w 129 g (n * 2) f) (hn : n ≤ maxLen) : PrO w (some ⟨g, 0, none⟩) n n A B := by
  have h2 := own_blk (base := 0) (size := 2) (n := n) hb (by omega) (Nat.zero_le _) hn
  have e1 : (cf (n * 2) f).toList = mks f (n * 2) := by
    apply List.ext_getElem?
    intro i
    rw [Array.getElem?_toList]
    by_cases hi : i < n * 2
    · rw [cf_get _ _ _ hi, mks_get _ _ _ hi]
    · rw [Array.getElem?_eq_none (by rw [cf_size]; omega), List.getElem?_eq_none (by rw [mks_len]; omega)]
  have e : mks f ((prL n A B).length * 2) = (prL n A B).flatMap encP := flat_mks encP 2 encP_len (by omega) _ _ fun i x hi j hj => by
    have hlt := (List.getElem?_eq_some_iff.1 hi).1
    rw [prL_len] at hlt
    have hg := prL_get (A := A) (B := B) hlt
    have hx : x = (A i, B i) := by rw [← hg]; simp [List.getD, hi]
    subst hx
    obtain rfl | rfl : j = 0 ∨ j = 1 := by omega
    · rw [Nat.add_zero, (h i hlt).1]; rfl
    · rw [(h i hlt).2]; rfl
  rw [prL_len] at e
  unfold PrO OwnP OwnL
  rw [prL_len, ← e, ← e1]
  exact h2
set_option maxRecDepth 100000 in
theorem toInt64A2_any (p r : Int) (w : World) :
    Calls Try.prog 108 #[.agg #[.int .i64 p, .int .i64 r]] w fun e w' => e = .returned (.agg #[.int .i64 p, .int .i64 r]) ∧ Below w.heap.size w w' := by
  have KB := Kp.base w
  replace KB := KB.alloc (.cells #[.int .i64 p, .int .i64 r] 129)
  have K0 := kp_new1 w #[.int .i64 p, .int .i64 r] 129 (g := w.heap.size) (by simp)
  have HZ := Lib.hid (show (w.alloc (.cells #[.int .i64 p, .int .i64 r] 129)).heap.size = w.heap.size + 1 by simp)
  go_enter Try.func108, Try.ntmps108
  go_wp2
  have h0 : Below w.heap.size w (((w.alloc (.cells #[.int .i64 p, .int .i64 r] 129)).alloc (.cells #[.int .i64 0, .int .i64 0] 129)).alloc (.cells #[.int .i64 0, .int .i64 0] 129)) := ((KB.alloc _).alloc _).here
  have h1 := ((kp_new1 (w.alloc (.cells #[.int .i64 p, .int .i64 r] 129)) #[.int .i64 0, .int .i64 0] 129 (g := w.heap.size + 1) (by simp)).alloc (.cells #[.int .i64 0, .int .i64 0] 129)).here
  have h2 := (kp_new1 ((w.alloc (.cells #[.int .i64 p, .int .i64 r] 129)).alloc (.cells #[.int .i64 0, .int .i64 0] 129)) #[.int .i64 0, .int .i64 0] 129 (g := w.heap.size + 1 + 1) (by simp)).here
  have h3 := ((K0.alloc (.cells #[.int .i64 0, .int .i64 0] 129)).alloc (.cells #[.int .i64 0, .int .i64 0] 129)).here
  have H0 := Lib.hid h0; have H1 := Lib.hid h1; have H2 := Lib.hid h2; have H3 := Lib.hid h3; clear h0 h1 h2 h3 K0 KB HZ
  go_loopw [4] (fun i w' => Below w.heap.size w w' ∧ w'.heap[w.heap.size]? = some (.cells #[.int .i64 p, .int .i64 r] 129 (0, 0)) ∧ w'.heap[w.heap.size + 1]? = some (.cells #[.int .i64 0, .int .i64 0] 129 (0, 0)) ∧ ∃ k : Nat, k ≤ 2 ∧ i = .int .i64 k ∧ w'.heap[w.heap.size + 1 + 1]? = some (.cells #[.int .i64 (if 0 < k then p else 0), .int .i64 (if 1 < k then r else 0)] 129 (0, 0))) (fun i _ => 2 - (intOf i).toNat)
  case atStart => exact ⟨H0.out, H3.out, H1.out, 0, by omega, rfl, H2.out⟩
  case round =>
    clear H0 H1 H2 H3
    obtain ⟨hb, hr0, hr1, k, hk, rfl, hr2⟩ := hrel
    have R0 := Lib.hid hr0; have R1 := Lib.hid hr1; have R2 := Lib.hid hr2; clear hr0 hr1 hr2
    have c0 := row_cell 0 R0.out; have c1 := row_cell 1 R0.out
    have d0 := row_cell 0 R2.out; have d1 := row_cell 1 R2.out
    have f0 := frozen_of_row wr _ 0 _ _ R2.out; have f1 := frozen_of_row wr _ 1 _ _ R2.out
    have e0 := row_cell 0 R1.out; have e1 := row_cell 1 R1.out
    have q0 := frozen_of_row wr _ 0 _ _ R1.out; have q1 := frozen_of_row wr _ 1 _ _ R1.out
    obtain rfl | rfl | rfl : k = 0 ∨ k = 1 ∨ k = 2 := by omega
    · go_wp2
      go_roundw
      case rel => exact ⟨hb.setCell (by simp; omega) _, (heap_setCell_other wr _ _ _ (by simp; omega)).trans R0.out, (heap_setCell_other wr _ _ _ (by simp)).trans R1.out, 1, by omega, by go_num, heap_setCell_same wr _ 0 _ _ _ R2.out⟩
      case measure => simp [intOf]
    · go_wp2
      go_roundw
      case rel => exact ⟨hb.setCell (by simp; omega) _, (heap_setCell_other wr _ _ _ (by simp; omega)).trans R0.out, (heap_setCell_other wr _ _ _ (by simp)).trans R1.out, 2, by omega, by go_num, heap_setCell_same wr _ 1 _ _ _ R2.out⟩
      case measure => simp [intOf]
    · have r1 := heap_setCell_same wr (w.heap.size + 1) 0 _ _ (.int .i64 p) R1.out
      have r2 := heap_setCell_same _ (w.heap.size + 1) 1 _ _ (.int .i64 r) r1
      have g0 := row_cell 0 r1; have g1 := row_cell 0 r2; have g2 := row_cell 1 r2
      simp at g0 g1 g2
      go_wp2
      refine bodyPost_ret (v := .agg #[.int .i64 p, .int .i64 r]) (by simp [results, Try.results108, go_sem, g0, g1, g2]) rfl ⟨rfl, ?_⟩
      exact (hb.setCell (by simp) _).setCell (by simp) _
theorem szInt64A2S_kp (a : Option Addr) (n c : Nat) (l : Int) (w : World) (hn : n ≤ 9223372036854775807) (hl : 0 ≤ l ∧ l ≤ 1048576) :
    Calls Try.prog 45 #[.slice a n c, .int .i64 l] w fun e w' => e = .returned (.int .i64 (szOf l n)) ∧ Below w.heap.size w w' := by
  by_cases h : l < n
  · go_enter Try.func45, Try.ntmps45
    go_wp2
    go_ret
    exact ⟨ret_int (by rw [szOf_lt h]), Below.refl _ _⟩
  · go_enter Try.func45, Try.ntmps45
    go_wp2
    go_ret
    exact ⟨ret_int (by rw [szOf_ge (by omega)]), Below.refl _ _⟩
set_option maxRecDepth 100000 in
theorem toInt64A2S_own (a : Option Addr) (n c : Nat) (A B : Nat → Int) (w : World) (hn : n ≤ 1048576) (hh : PairIn w a n A B) :
    Calls Try.prog 47 #[.slice a n c] w fun e w' => ∃ b, e = .returned (.slice b n n) ∧ Below w.heap.size w w' ∧ Kp w' (fun V => PrO V b n n A B) ∧ ∃ xs, Kp w' (fun V => V.ownsRow w.heap.size 129 2 (.slice b n n) n xs) := by
  obtain ⟨i0, hi, hz0, hz1, hz2⟩ := info_parts infoP2
  obtain ⟨f0, hmk⟩ := run_make_n w 55 129 i0 _ Try.underlying55 hi hz0 2 16 n hz1 hz2 (by omega) (by omega)
  clear hi hz0 hz1 hz2
  have HH := Lib.hid hh; clear hh
  have hb0 : Below w.heap.size w (w.alloc (.cells (cf (n * 2) f0) 129)) := (Below.refl _ _).alloc (Nat.le_refl _) _
  have hk0 := BlkAt.new w 129 (n * 2) f0
  have HB0 := Lib.hid hb0; have HK0 := Lib.hid hk0; clear hb0 hk0
  go_enter Try.func47, Try.ntmps47
  go_wp2
  go_loopw [4] (fun i w' => Below w.heap.size w w' ∧ ∃ k : Nat, k ≤ n ∧ i = .int .i64 k ∧ ∃ f, BlkAt w' 129 w.heap.size (n * 2) f ∧ PairF k A B f) (fun i _ => n - (intOf i).toNat)
  case atStart => exact ⟨HB0.out, 0, by omega, rfl, f0, HK0.out, fun i hi => absurd hi (by omega)⟩
  case round =>
    clear HB0 HK0 hmk
    obtain ⟨hb, k, hk, rfl, f, hB, hF⟩ := hrel
    have HB := Lib.hid hB; have HF := Lib.hid hF; clear hB hF
    by_cases hlt : k < n
    · have hx := PairIn.get HH.out (show 0 < n by omega)
      obtain ⟨ad, rfl, hg, hc⟩ := hx
      have c0 := (hb.cell (p := ad.add (k * 2)) (by rw [add_block]; exact hg)).trans (hc k hlt).1
      have c1 := (hb.cell (p := ⟨(ad.add (k * 2)).block, (ad.add (k * 2)).off + 1, none⟩) (by rw [add_block]; exact hg)).trans (hc k hlt).2
      clear hc
      have hlb := HB.out.lt
      go_wp2_with (go_at_call 108; refine (toInt64A2_any _ _ _).mono ?_; rintro e w1 ⟨rfl, hb1⟩; have HB1 := Lib.hid (HB.out.below hb1 hlb); have d0 := HB1.out.cell (k * 2) (by omega); have d1 := HB1.out.cell (k * 2 + 1) (by omega); have e0 := HB1.out.frozen (k * 2); have e1 := HB1.out.frozen (k * 2 + 1))
      go_roundw
      case rel => exact ⟨((hb.trans (hb1.mono hb.size)).setCell (Nat.le_refl _) _).setCell (Nat.le_refl _) _, k + 1, by omega, by go_num, _, (HB1.out.setCell (k * 2) _ (by omega)).setCell (k * 2 + 1) _ (by omega), HF.out.step⟩
      case measure => simp [intOf]; omega
    · have hkn : k = n := by omega
      subst hkn
      go_wp2
      go_ret
      exact ⟨_, rfl, hb, kp_prO (HF.out.own HB.out (by unfold maxLen; omega)), _, kp_ownR (own_blk HB.out (by omega) (Nat.le_refl _) (by unfold maxLen; omega))⟩
theorem toInt64A2S_kp (a : Option Addr) (n c : Nat) (A B : Nat → Int) (w : World) (hn : n ≤ 1048576) (hh : PairIn w a n A B) :
    Calls Try.prog 47 #[.slice a n c] w fun e w' => ∃ b, e = .returned (.slice b n n) ∧ Below w.heap.size w w' ∧ Kp w' (fun V => PrO V b n n A B) :=
  (toInt64A2S_own a n c A B w hn hh).mono fun _ _ ⟨b, he, hb, hk, _⟩ => ⟨b, he, hb, hk⟩
theorem eqInt64A2S_kq (a b : Option Addr) (n c d : Nat) (A B : Nat → Int) (w : World) (hn : n ≤ 1000000000) (ha : PrO w a n c A B) (hb : PrO w b n d A B) :
    Calls Try.prog 36 #[.slice a n c, .slice b n d] w fun e w' => e = .returned (.bool true) ∧ Below w.heap.size w w' := eqInt64A2S_kp a b n c d A B w hn ha.read hb.read
end Go.Proofs.Ytmmneedmhmppoaa
