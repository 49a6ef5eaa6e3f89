/- What the statements write over, and look for again. No conditions. -/
import Derived.Test.YtfefclngfeihiaaOwn
import Derived.Test.YtfefclngfeihiaaPg
import Derived.Outline
namespace Go.Proofs.Ytfefclngfeihiaa
open Go.RowKit
set_option linter.unusedVariables false
set_option linter.unusedSimpArgs false

/-! What the statements write over, and look for again: slices of structs. Printed by markgen.py. No conditions. -/
def mkHammer (j x : Nat) : Value := if x % 2 = 0 then .int .i8 (IntKind.i8.wrap ((j + x : Nat) : Int)) else .int .i8 (IntKind.i8.wrap ((j + x : Nat) : Int))
theorem mkHammer_0 (j k y : Nat) (h : j + k * 2 = y) : mkHammer j (k * 2) = .int .i8 (IntKind.i8.wrap ((y : Int))) := by unfold mkHammer; rw [if_pos (by omega), show j + (k * 2) = y by omega]; try rfl
theorem mkHammer_1 (j k y : Nat) (h : j + k * 2 = y) : mkHammer j (k * 2 + 1) = .int .i8 (IntKind.i8.wrap ((y : Int) + 1)) := by unfold mkHammer; rw [if_neg (by omega), show j + (k * 2 + 1) = y + 1 by omega]; try rfl
set_option maxRecDepth 100000 in
theorem markHammerS_own (base : Nat) (v : Value) (n : Nat) (xs : List Value) (j : Nat) (w : World) (hn : n ≤ 1048576) (hj : j ≤ 1000000000) (ha : w.ownsRow base 72 2 v n xs) :
    Calls Try.prog 32 #[v, .int .i64 (j : Int)] w fun e w' => e = .returned (.int .i64 ((j + n * 2 : Nat) : Int)) ∧ w.grownBy w' v.ownBlock ∧ w'.ownsRow base 72 2 v n (mks (mkHammer j) (n * 2)) := by
  obtain ⟨hl, h⟩ := ha
  rcases h with ⟨rfl, rfl⟩ | ⟨g, cap, cur, rfl, hg, hb, hc, hm, hs, ht⟩
  · go_enter Try.func32, Try.ntmps32
    go_wp2
    go_loop [1, 5] (fun t i => t = .int .i64 (j : Int) ∧ i = .int .i64 0) (fun _ _ => 0)
    case atStart => exact ⟨rfl, rfl⟩
    case round =>
      obtain ⟨rfl, rfl⟩ := hrel
      go_wp2
      go_ret
      exact ⟨rfl, grown_refl _ _, World.ownsRow_nil _ _ _ _⟩
  · clear ht hl
    have HB := Lib.hid hb; clear hb
    have HS := Lib.hid hs; clear hs
    obtain ⟨row, hrow⟩ : ∃ r, r = (Value.slice (some ⟨g, 0, none⟩) n cap).ownBlock := ⟨_, rfl⟩
    rw [← hrow]
    have HR := Lib.hid (show row = some g from hrow); clear hrow
    go_enter Try.func32, Try.ntmps32
    go_wp2
    go_loopw [1, 5] (fun t i w' => w.grownBy w' row ∧ ∃ k : Nat, k ≤ n ∧ i = .int .i64 k ∧ t = .int .i64 ((j + k * 2 : Nat) : Int) ∧ ∃ cur' : Array Value, w'.heap[g]? = some (.cells cur' 72 (0, 0)) ∧ cur'.size = cap * 2 ∧ ∀ x, x < k * 2 → cur'[x]? = some (mkHammer j x)) (fun _ i _ => n - (intOf i).toNat)
    case atStart => exact ⟨grown_refl _ _, 0, by omega, rfl, rfl, cur, HB.out, HS.out, fun x hx => absurd hx (by omega)⟩
    case round =>
      obtain ⟨hgr, k, hk, rfl, rfl, cur', hrow, hcs, hcells⟩ := hrel
      have HG := Lib.hid hgr; have HROW := Lib.hid hrow; have HCE := Lib.hid hcells; clear hgr hrow hcells
      by_cases hlt : k < n
      · have hk' : (k : Int) < n := by omega
        obtain ⟨z0, hz0⟩ : ∃ z, cur'[k * 2]? = some z := ⟨_, Array.getElem?_eq_getElem (show k * 2 < cur'.size by omega)⟩
        have c0 : wr.cell? ⟨g, k * 2, none⟩ = some z0 := by rw [row_cell _ HROW.out, hz0]
        have f0 := frozen_of_row wr g (k * 2) _ _ HROW.out
        obtain ⟨z1, hz1⟩ : ∃ z, cur'[k * 2 + 1]? = some z := ⟨_, Array.getElem?_eq_getElem (show k * 2 + 1 < cur'.size by omega)⟩
        have c1 : wr.cell? ⟨g, k * 2 + 1, none⟩ = some z1 := by rw [row_cell _ HROW.out, hz1]
        have f1 := frozen_of_row wr g (k * 2 + 1) _ _ HROW.out
        have HCS := Lib.hid hcs
        clear hz0 hz1 hcs
        obtain ⟨y, hy⟩ : ∃ y : Nat, j + k * 2 = y := ⟨_, rfl⟩
        rw [hy]
        have HY := Lib.hid hy; clear hy
        have hyb : y ≤ 2000000000 := by have := HY.out; omega
        go_wp2
        go_roundw
        case rel =>
          have hcs := HCS.out; have hy := HY.out
          exact ⟨(grown_set (grown_set HG.out HR.out _ _) HR.out _ _), k + 1, by omega, by go_num, by rw [show j + (k + 1) * 2 = y + 2 by omega]; go_num, _, (heap_setCell_same _ g (k * 2 + 1) _ _ _ (heap_setCell_same _ g (k * 2) _ _ _ HROW.out)), by simp; omega, fun x hx => (set_keep (set_keep (fun x hx => HCE.out x (by omega)) (q := k * 2) (by omega) (mkHammer_0 j k y hy).symm) (q := k * 2 + 1) (by simp; omega) (mkHammer_1 j k y hy).symm) x (by omega)⟩
        case measure => simp [intOf]; omega
      · have hkn : k = n := by omega
        subst hkn
        go_wp2
        go_ret
        exact ⟨rfl, HG.out, own_done hg HROW.out hc hm hcs HCE.out⟩
def mkSection (j x : Nat) : Value := if x % 2 = 0 then .int .i16 (IntKind.i16.wrap ((j + x : Nat) : Int)) else .int .i16 (IntKind.i16.wrap ((j + x : Nat) : Int))
theorem mkSection_0 (j k y : Nat) (h : j + k * 2 = y) : mkSection j (k * 2) = .int .i16 (IntKind.i16.wrap ((y : Int))) := by unfold mkSection; rw [if_pos (by omega), show j + (k * 2) = y by omega]; try rfl
theorem mkSection_1 (j k y : Nat) (h : j + k * 2 = y) : mkSection j (k * 2 + 1) = .int .i16 (IntKind.i16.wrap ((y : Int) + 1)) := by unfold mkSection; rw [if_neg (by omega), show j + (k * 2 + 1) = y + 1 by omega]; try rfl
set_option maxRecDepth 100000 in
theorem markSectionS_own (base : Nat) (v : Value) (n : Nat) (xs : List Value) (j : Nat) (w : World) (hn : n ≤ 1048576) (hj : j ≤ 1000000000) (ha : w.ownsRow base 55 2 v n xs) :
    Calls Try.prog 33 #[v, .int .i64 (j : Int)] w fun e w' => e = .returned (.int .i64 ((j + n * 2 : Nat) : Int)) ∧ w.grownBy w' v.ownBlock ∧ w'.ownsRow base 55 2 v n (mks (mkSection j) (n * 2)) := by
  obtain ⟨hl, h⟩ := ha
  rcases h with ⟨rfl, rfl⟩ | ⟨g, cap, cur, rfl, hg, hb, hc, hm, hs, ht⟩
  · go_enter Try.func33, Try.ntmps33
    go_wp2
    go_loop [1, 5] (fun t i => t = .int .i64 (j : Int) ∧ i = .int .i64 0) (fun _ _ => 0)
    case atStart => exact ⟨rfl, rfl⟩
    case round =>
      obtain ⟨rfl, rfl⟩ := hrel
      go_wp2
      go_ret
      exact ⟨rfl, grown_refl _ _, World.ownsRow_nil _ _ _ _⟩
  · clear ht hl
    have HB := Lib.hid hb; clear hb
    have HS := Lib.hid hs; clear hs
    obtain ⟨row, hrow⟩ : ∃ r, r = (Value.slice (some ⟨g, 0, none⟩) n cap).ownBlock := ⟨_, rfl⟩
    rw [← hrow]
    have HR := Lib.hid (show row = some g from hrow); clear hrow
    go_enter Try.func33, Try.ntmps33
    go_wp2
    go_loopw [1, 5] (fun t i w' => w.grownBy w' row ∧ ∃ k : Nat, k ≤ n ∧ i = .int .i64 k ∧ t = .int .i64 ((j + k * 2 : Nat) : Int) ∧ ∃ cur' : Array Value, w'.heap[g]? = some (.cells cur' 55 (0, 0)) ∧ cur'.size = cap * 2 ∧ ∀ x, x < k * 2 → cur'[x]? = some (mkSection j x)) (fun _ i _ => n - (intOf i).toNat)
    case atStart => exact ⟨grown_refl _ _, 0, by omega, rfl, rfl, cur, HB.out, HS.out, fun x hx => absurd hx (by omega)⟩
    case round =>
      obtain ⟨hgr, k, hk, rfl, rfl, cur', hrow, hcs, hcells⟩ := hrel
      have HG := Lib.hid hgr; have HROW := Lib.hid hrow; have HCE := Lib.hid hcells; clear hgr hrow hcells
      by_cases hlt : k < n
      · have hk' : (k : Int) < n := by omega
        obtain ⟨z0, hz0⟩ : ∃ z, cur'[k * 2]? = some z := ⟨_, Array.getElem?_eq_getElem (show k * 2 < cur'.size by omega)⟩
        have c0 : wr.cell? ⟨g, k * 2, none⟩ = some z0 := by rw [row_cell _ HROW.out, hz0]
        have f0 := frozen_of_row wr g (k * 2) _ _ HROW.out
        obtain ⟨z1, hz1⟩ : ∃ z, cur'[k * 2 + 1]? = some z := ⟨_, Array.getElem?_eq_getElem (show k * 2 + 1 < cur'.size by omega)⟩
        have c1 : wr.cell? ⟨g, k * 2 + 1, none⟩ = some z1 := by rw [row_cell _ HROW.out, hz1]
        have f1 := frozen_of_row wr g (k * 2 + 1) _ _ HROW.out
        have HCS := Lib.hid hcs
        clear hz0 hz1 hcs
        obtain ⟨y, hy⟩ : ∃ y : Nat, j + k * 2 = y := ⟨_, rfl⟩
        rw [hy]
        have HY := Lib.hid hy; clear hy
        have hyb : y ≤ 2000000000 := by have := HY.out; omega
        go_wp2
        go_roundw
        case rel =>
          have hcs := HCS.out; have hy := HY.out
          exact ⟨(grown_set (grown_set HG.out HR.out _ _) HR.out _ _), k + 1, by omega, by go_num, by rw [show j + (k + 1) * 2 = y + 2 by omega]; go_num, _, (heap_setCell_same _ g (k * 2 + 1) _ _ _ (heap_setCell_same _ g (k * 2) _ _ _ HROW.out)), by simp; omega, fun x hx => (set_keep (set_keep (fun x hx => HCE.out x (by omega)) (q := k * 2) (by omega) (mkSection_0 j k y hy).symm) (q := k * 2 + 1) (by simp; omega) (mkSection_1 j k y hy).symm) x (by omega)⟩
        case measure => simp [intOf]; omega
      · have hkn : k = n := by omega
        subst hkn
        go_wp2
        go_ret
        exact ⟨rfl, HG.out, own_done hg HROW.out hc hm hcs HCE.out⟩
set_option maxRecDepth 100000 in
theorem heldSectionS_own (base : Nat) (v : Value) (n : Nat) (j : Nat) (w : World) (hn : n ≤ 1048576) (hj : j ≤ 1000000000) (ha : w.ownsRow base 55 2 v n (mks (mkSection j) (n * 2))) :
    Calls Try.prog 34 #[v, .int .i64 (j : Int)] w fun e w' => e = .returned (.int .i64 ((j + n * 2 : Nat) : Int)) ∧ w = w' := by
  rcases own_at ha with ⟨rfl, rfl⟩ | ⟨g, cap, rfl, hg, hlt, hc⟩
  · go_enter Try.func34, Try.ntmps34
    go_wp2
    go_loop [1, 5] (fun t i => t = .int .i64 (j : Int) ∧ i = .int .i64 0) (fun _ _ => 0)
    case atStart => exact ⟨rfl, rfl⟩
    case round =>
      obtain ⟨rfl, rfl⟩ := hrel
      go_wp2
      go_ret
      exact ⟨rfl, rfl⟩
  · have HC := Lib.hid hc; clear hc ha
    go_enter Try.func34, Try.ntmps34
    go_wp2
    go_loop [1, 5] (fun t i => ∃ k : Nat, k ≤ n ∧ i = .int .i64 k ∧ t = .int .i64 ((j + k * 2 : Nat) : Int)) (fun _ i => n - (intOf i).toNat)
    case atStart => exact ⟨0, by omega, rfl, rfl⟩
    case round =>
      obtain ⟨k, hk, rfl, rfl⟩ := hrel
      by_cases hlt : k < n
      · have hk' : (k : Int) < n := by omega
        obtain ⟨y, hy⟩ : ∃ y : Nat, j + k * 2 = y := ⟨_, rfl⟩
        rw [hy]
        have c0 := HC.out (k * 2) (by omega)
        rw [mks_get _ _ _ (by omega), mkSection_0 j k y hy] at c0
        have c1 := HC.out (k * 2 + 1) (by omega)
        rw [mks_get _ _ _ (by omega), mkSection_1 j k y hy] at c1
        have HY := Lib.hid hy; clear hy
        have hyb : y ≤ 2000000000 := by have := HY.out; omega
        go_wp2
        go_round
        case rel => exact ⟨k + 1, by omega, by go_num, by rw [show j + (k + 1) * 2 = y + 2 by have := HY.out; omega]; go_num⟩
        case measure => simp [intOf]; omega
      · have hkn : k = n := by omega
        subst hkn
        go_wp2
        go_ret
        exact ⟨rfl, rfl⟩

/-! What the statements write over: frames, programmes, drums, pairs. No conditions. -/
theorem grown_trans {w w1 w2 : World} {row : Option Nat} (h : w.grownBy w1 row) (h2 : w1.grownBy w2 row) : w.grownBy w2 row :=
  ⟨h2.os.trans h.os, h2.tape.trans h.tape, h2.output.trans h.output, Nat.le_trans h.size h2.size, fun k hk hne => (h2.block k (Nat.lt_of_lt_of_le hk h.size) hne).trans (h.block k hk hne)⟩
/-- a slice value has one cell -/
theorem own_slice {w : World} {base size n : Nat} {e : TypeId} {v : Value} {xs : List Value} (h : w.ownsRow base e size v n xs) : ∃ b c, v = .slice b n c := by
  rcases h.2 with ⟨rfl, rfl⟩ | ⟨g, cap, cur, rfl, _⟩
  · exact ⟨_, _, rfl⟩
  · exact ⟨_, _, rfl⟩
/-- the copy of a frame, its hammers in a block of one's own -/
theorem toFrame_own (s : Int) (a : Option Addr) (n c : Nat) (P R : Nat → Int) (w : World) (hn : n ≤ 1048576) (hs : -32768 ≤ s ∧ s ≤ 32767) (hh : HamIn w a n P R) :
    Calls Try.prog 7 #[.agg #[.int .i16 s, .slice a n c]] w fun e w' => ∃ b, e = .returned (.agg #[.int .i16 s, .slice b n n]) ∧ Below w.heap.size w w' ∧ Kp w' (fun V => HamAt V b n P R) ∧ ∃ xs, Kp w' (fun V => V.ownsRow w.heap.size 72 2 (.slice b n n) n xs) :=
  (toFrame_any s a n c P R w hn hs hh).mono fun _ _ ⟨he, hb, f, hB, hF⟩ => ⟨_, he, hb, kp_ham (hF.at hB), _, kp_ownR (own_blk hB rfl (by omega) (by unfold maxLen; omega))⟩
theorem markFrame_own (base : Nat) (s : Int) (b : Option Addr) (n c : Nat) (xs : List Value) (j : Nat) (w : World) (hn : n ≤ 1048576) (hj : j ≤ 1000000000) (ha : w.ownsRow base 72 2 (.slice b n c) n xs) :
    Calls Try.prog 12 #[.agg #[.int .i16 s, .slice b n c], .int .i64 (j : Int)] w fun e w' => e = .returned (.int .i64 ((j + n * 2 : Nat) : Int)) ∧ w.grownBy w' (Value.slice b n c).ownBlock ∧ w'.ownsRow base 72 2 (.slice b n c) n (mks (mkHammer j) (n * 2)) := by
  have HA := Lib.hid (ha.alloc (.cells #[.int .i16 s, .slice b n c] 40)); clear ha
  have HG := Lib.hid (World.grownBy_alloc w (.cells #[.int .i16 s, .slice b n c] 40) (Value.slice b n c).ownBlock)
  obtain ⟨y, hy⟩ : ∃ y : Nat, j + n * 2 = y := ⟨_, rfl⟩
  rw [hy]
  have HY := Lib.hid hy; clear hy
  go_enter Try.func12, Try.ntmps12
  go_wp2_with fail
  refine (markHammerS_own base _ n xs j _ hn hj HA.out).mono ?_
  rintro e w1 ⟨rfl, hg, hown⟩
  rw [HY.out]
  have H1 := Lib.hid hg; have H2 := Lib.hid hown; clear hg hown
  go_wp2
  go_ret
  exact ⟨rfl, grown_trans HG.out H1.out, H2.out⟩
theorem markProgramme_own (base : Nat) (b : Option Addr) (n c : Nat) (O : Nat → Int) (xs : List Value) (j : Nat) (w : World) (hn : n ≤ 1048576) (hj : j ≤ 1000000000) (ha : w.ownsRow base 55 2 (.slice b n c) n xs) :
    Calls Try.prog 13 #[.agg (pc b n c O), .int .i64 (j : Int)] w fun e w' => e = .returned (.int .i64 ((j + n * 2 : Nat) : Int)) ∧ w.grownBy w' (Value.slice b n c).ownBlock ∧ w'.ownsRow base 55 2 (.slice b n c) n (mks (mkSection j) (n * 2)) := by
  have HA := Lib.hid (ha.alloc (.cells (pc b n c O) 35)); clear ha
  have HG := Lib.hid (World.grownBy_alloc w (.cells (pc b n c O) 35) (Value.slice b n c).ownBlock)
  have KB := Kp.base w
  replace KB := KB.alloc (.cells (pc b n c O) 35)
  have K0 := kp_new1 w (pc b n c O) 35 (g := w.heap.size) (by simp)
  have HZ := Lib.hid (show (w.alloc (.cells (pc b n c O) 35)).heap.size = w.heap.size + 1 by simp)
  have d0 := row_cell 0 K0.here
  rw [pc_get0] at d0
  clear KB K0 HZ
  obtain ⟨y, hy⟩ : ∃ y : Nat, j + n * 2 = y := ⟨_, rfl⟩
  rw [hy]
  have HY := Lib.hid hy; clear hy
  have D0 := Lib.hid d0; clear d0
  go_enter Try.func13, Try.ntmps13
  have d0 := D0.out
  go_wp2_with fail
  clear d0
  refine (markSectionS_own base _ n xs j _ hn hj HA.out).mono ?_
  rintro e w1 ⟨rfl, hg, hown⟩
  rw [HY.out]
  have H1 := Lib.hid hg; have H2 := Lib.hid hown; clear hg hown
  go_wp2
  go_ret
  exact ⟨rfl, grown_trans HG.out H1.out, H2.out⟩
theorem heldProgramme_own (base : Nat) (b : Option Addr) (n c : Nat) (O : Nat → Int) (j : Nat) (w : World) (hn : n ≤ 1048576) (hj : j ≤ 1000000000) (ha : w.ownsRow base 55 2 (.slice b n c) n (mks (mkSection j) (n * 2))) :
    Calls Try.prog 14 #[.agg (pc b n c O), .int .i64 (j : Int)] w fun e w' => e = .returned (.int .i64 ((j + n * 2 : Nat) : Int)) ∧ Below w.heap.size w w' := by
  have HA := Lib.hid (ha.alloc (.cells (pc b n c O) 35)); clear ha
  have KB := Kp.base w
  replace KB := KB.alloc (.cells (pc b n c O) 35)
  have K0 := kp_new1 w (pc b n c O) 35 (g := w.heap.size) (by simp)
  have HZ := Lib.hid (show (w.alloc (.cells (pc b n c O) 35)).heap.size = w.heap.size + 1 by simp)
  have d0 := row_cell 0 K0.here
  rw [pc_get0] at d0
  clear K0 HZ
  obtain ⟨y, hy⟩ : ∃ y : Nat, j + n * 2 = y := ⟨_, rfl⟩
  rw [hy]
  have HY := Lib.hid hy; clear hy
  have D0 := Lib.hid d0; clear d0
  go_enter Try.func14, Try.ntmps14
  have d0 := D0.out
  go_wp2_with fail
  clear d0
  refine (heldSectionS_own base _ n j _ hn hj HA.out).mono ?_
  rintro e w1 ⟨rfl, rfl⟩
  rw [HY.out]
  go_wp2
  go_ret
  exact ⟨rfl, KB.here⟩

/-! What the statements write over, and look for again: pairs. No conditions. -/
end Go.Proofs.Ytfefclngfeihiaa
