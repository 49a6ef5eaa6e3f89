/- What the statements write over: frames, programmes, drums, pairs. No conditions. -/
import Derived.Test.YtpfjmoodfodfhaaMk1
import Derived.Test.YtpfjmoodfodfhaaPg
namespace Go.Proofs.Ytpfjmoodfodfhaa
open Go.RowKit
set_option linter.unusedVariables false
set_option linter.unusedSimpArgs false

theorem grown_trans {w w1 w2 : World} {row : Option Nat} (h : w.grownBy w1 row) (h2 : w1.grownBy w2 row) : w.grownBy w2 row :=
  ⟨h2.os.trans h.os, h2.tape.trans h.tape, h2.output.trans h.output, Nat.le_trans h.size h2.size, fun k hk hne => (h2.block k (Nat.lt_of_lt_of_le hk h.size) hne).trans (h.block k hk hne)⟩
/-- a slice value has one cell -/
theorem own_slice {w : World} {base size n : Nat} {e : TypeId} {v : Value} {xs : List Value} (h : w.ownsRow base e size v n xs) : ∃ b c, v = .slice b n c := by
  rcases h.2 with ⟨rfl, rfl⟩ | ⟨g, cap, cur, rfl, _⟩
  · exact ⟨_, _, rfl⟩
  · exact ⟨_, _, rfl⟩
/-- the copy of a frame, its hammers in a block of one's own -/
theorem toFrame_own (s : Int) (a : Option Addr) (n c : Nat) (P R : Nat → Int) (w : World) (hn : n ≤ 1048576) (hs : -32768 ≤ s ∧ s ≤ 32767) (hh : HamIn w a n P R) :
    Calls Try.prog 21 #[.agg #[.int .i16 s, .slice a n c]] w fun e w' => ∃ b, e = .returned (.agg #[.int .i16 s, .slice b n n]) ∧ Below w.heap.size w w' ∧ Kp w' (fun V => HamAt V b n P R) ∧ ∃ xs, Kp w' (fun V => V.ownsRow w.heap.size 98 2 (.slice b n n) n xs) :=
  (toFrame_any s a n c P R w hn hs hh).mono fun _ _ ⟨he, hb, f, hB, hF⟩ => ⟨_, he, hb, kp_ham (hF.at hB), _, kp_ownR (own_blk hB rfl (by omega) (by unfold maxLen; omega))⟩
theorem markFrame_own (base : Nat) (s : Int) (b : Option Addr) (n c : Nat) (xs : List Value) (j : Nat) (w : World) (hn : n ≤ 1048576) (hj : j ≤ 1000000000) (ha : w.ownsRow base 98 2 (.slice b n c) n xs) :
    Calls Try.prog 16 #[.agg #[.int .i16 s, .slice b n c], .int .i64 (j : Int)] w fun e w' => e = .returned (.int .i64 ((j + n * 2 : Nat) : Int)) ∧ w.grownBy w' (Value.slice b n c).ownBlock ∧ w'.ownsRow base 98 2 (.slice b n c) n (mks (mkHammer j) (n * 2)) := by
  have HA := Lib.hid (ha.alloc (.cells #[.int .i16 s, .slice b n c] 27)); clear ha
  have HG := Lib.hid (World.grownBy_alloc w (.cells #[.int .i16 s, .slice b n c] 27) (Value.slice b n c).ownBlock)
  obtain ⟨y, hy⟩ : ∃ y : Nat, j + n * 2 = y := ⟨_, rfl⟩
  rw [hy]
  have HY := Lib.hid hy; clear hy
  go_enter Try.func16, Try.ntmps16
  go_wp2_with fail
  refine (markHammerS_own base _ n xs j _ hn hj HA.out).mono ?_
  rintro e w1 ⟨rfl, hg, hown⟩
  rw [HY.out]
  have H1 := Lib.hid hg; have H2 := Lib.hid hown; clear hg hown
  go_wp2
  go_ret
  exact ⟨rfl, grown_trans HG.out H1.out, H2.out⟩
theorem markProgramme_own (base : Nat) (b : Option Addr) (n c : Nat) (O : Nat → Int) (xs : List Value) (j : Nat) (w : World) (hn : n ≤ 1048576) (hj : j ≤ 1000000000) (ha : w.ownsRow base 147 2 (.slice b n c) n xs) :
    Calls Try.prog 34 #[.agg (pc b n c O), .int .i64 (j : Int)] w fun e w' => e = .returned (.int .i64 ((j + n * 2 : Nat) : Int)) ∧ w.grownBy w' (Value.slice b n c).ownBlock ∧ w'.ownsRow base 147 2 (.slice b n c) n (mks (mkSection j) (n * 2)) := by
  have HA := Lib.hid (ha.alloc (.cells (pc b n c O) 64)); clear ha
  have HG := Lib.hid (World.grownBy_alloc w (.cells (pc b n c O) 64) (Value.slice b n c).ownBlock)
  have KB := Kp.base w
  replace KB := KB.alloc (.cells (pc b n c O) 64)
  have K0 := kp_new1 w (pc b n c O) 64 (g := w.heap.size) (by simp)
  have HZ := Lib.hid (show (w.alloc (.cells (pc b n c O) 64)).heap.size = w.heap.size + 1 by simp)
  have d0 := row_cell 0 K0.here
  rw [pc_get0] at d0
  clear KB K0 HZ
  obtain ⟨y, hy⟩ : ∃ y : Nat, j + n * 2 = y := ⟨_, rfl⟩
  rw [hy]
  have HY := Lib.hid hy; clear hy
  have D0 := Lib.hid d0; clear d0
  go_enter Try.func34, Try.ntmps34
  have d0 := D0.out
  go_wp2_with fail
  clear d0
  refine (markSectionS_own base _ n xs j _ hn hj HA.out).mono ?_
  rintro e w1 ⟨rfl, hg, hown⟩
  rw [HY.out]
  have H1 := Lib.hid hg; have H2 := Lib.hid hown; clear hg hown
  go_wp2
  go_ret
  exact ⟨rfl, grown_trans HG.out H1.out, H2.out⟩
def mkDrum (j x : Nat) : Value := .int .u32 ((j + x : Nat) : Int)
theorem mkDrum_at (j x y : Nat) (h : j + x = y) : mkDrum j x = .int .u32 (y : Int) := by unfold mkDrum; rw [h]
set_option maxRecDepth 100000 in
theorem markDrumS_own (base : Nat) (v : Value) (n : Nat) (xs : List Value) (j : Nat) (w : World) (hn : n ≤ 1048576) (hj : j ≤ 1000000000) (ha : w.ownsRow base 71 96 v n xs) :
    Calls Try.prog 26 #[v, .int .i64 (j : Int)] w fun e w' => e = .returned (.int .i64 ((j + n * 96 : Nat) : Int)) ∧ w.grownBy w' v.ownBlock ∧ w'.ownsRow base 71 96 v n (mks (mkDrum j) (n * 96)) := by
  obtain ⟨hl, h⟩ := ha
  rcases h with ⟨rfl, rfl⟩ | ⟨g, cap, cur, rfl, hg, hb, hc, hm, hs, ht⟩
  · go_enter Try.func26, Try.ntmps26
    go_wp2
    go_loop [1, 5] (fun t i => t = .int .i64 (j : Int) ∧ i = .int .i64 0) (fun _ _ => 0)
    case atStart => exact ⟨rfl, rfl⟩
    case round =>
      obtain ⟨rfl, rfl⟩ := hrel
      go_wp2
      go_ret
      exact ⟨rfl, grown_refl _ _, World.ownsRow_nil _ _ _ _⟩
  · clear ht hl
    have HB := Lib.hid hb; clear hb
    have HS := Lib.hid hs; clear hs
    obtain ⟨row, hrow⟩ : ∃ r, r = (Value.slice (some ⟨g, 0, none⟩) n cap).ownBlock := ⟨_, rfl⟩
    rw [← hrow]
    have HR := Lib.hid (show row = some g from hrow); clear hrow
    go_enter Try.func26, Try.ntmps26
    go_wp2
    go_loopw [1, 5] (fun t i w' => w.grownBy w' row ∧ ∃ k : Nat, k ≤ n ∧ i = .int .i64 k ∧ t = .int .i64 ((j + k * 96 : Nat) : Int) ∧ ∃ cur' : Array Value, w'.heap[g]? = some (.cells cur' 71 (0, 0)) ∧ cur'.size = cap * 96 ∧ ∀ x, x < k * 96 → cur'[x]? = some (mkDrum j x)) (fun _ i _ => n - (intOf i).toNat)
    case atStart => exact ⟨grown_refl _ _, 0, by omega, rfl, rfl, cur, HB.out, HS.out, fun x hx => absurd hx (by omega)⟩
    case round =>
      clear HB HS
      obtain ⟨hgr, k, hk, rfl, rfl, cur', hrow, hcs, hcells⟩ := hrel
      have HG := Lib.hid hgr; have HROW := Lib.hid hrow; have HCE := Lib.hid hcells; have HCS := Lib.hid hcs; clear hgr hrow hcells hcs
      by_cases hlt : k < n
      · have hk' : (k : Int) < n := by omega
        obtain ⟨U, rfl⟩ : ∃ U, U = wr := ⟨wr, rfl⟩
        go_wp2
        go_loopw [1, 6] (fun t i w' => w.grownBy w' row ∧ ∃ m : Nat, m ≤ 96 ∧ i = .int .i64 m ∧ t = .int .i64 ((j + k * 96 + m : Nat) : Int) ∧ ∃ cur' : Array Value, w'.heap[g]? = some (.cells cur' 71 (0, 0)) ∧ cur'.size = cap * 96 ∧ ∀ x, x < k * 96 + m → cur'[x]? = some (mkDrum j x)) (fun _ i _ => 96 - (intOf i).toNat)
        case atStart => exact ⟨HG.out, 0, by omega, rfl, rfl, cur', HROW.out, HCS.out, HCE.out⟩
        case round =>
          clear HG HROW HCE HCS
          obtain ⟨hgr, m, hm', rfl, rfl, cur', hrow, hcs, hcells⟩ := hrel
          have HG := Lib.hid hgr; have HROW := Lib.hid hrow; have HCE := Lib.hid hcells; clear hgr hrow hcells
          by_cases hlm : m < 96
          · have hm2 : (m : Int) < 96 := by omega
            obtain ⟨z, hz⟩ : ∃ z, cur'[k * 96 + m]? = some z := ⟨_, Array.getElem?_eq_getElem (show k * 96 + m < cur'.size by omega)⟩
            have c0 : wr.cell? ⟨g, k * 96 + m, none⟩ = some z := by rw [row_cell _ HROW.out, hz]
            have f0 := frozen_of_row wr g (k * 96 + m) _ _ HROW.out
            have HCS := Lib.hid hcs
            clear hz hcs
            obtain ⟨y, hy⟩ : ∃ y : Nat, j + k * 96 + m = y := ⟨_, rfl⟩
            rw [hy]
            have HY := Lib.hid hy; clear hy
            have hyb : y ≤ 2000000000 := by have := HY.out; omega
            go_wp2
            go_roundw
            case rel =>
              have hcs := HCS.out; have hy := HY.out
              exact ⟨grown_set HG.out HR.out _ _, m + 1, by omega, by go_num, by rw [show j + k * 96 + (m + 1) = y + 1 by omega]; go_num, _, heap_setCell_same _ g (k * 96 + m) _ _ _ HROW.out, by simp; omega, set_keep HCE.out (by omega) (mkDrum_at _ _ _ (by omega)).symm⟩
            case measure => simp [intOf]; omega
          · have hm96 : m = 96 := by omega
            subst hm96
            go_wp2
            go_roundw
            case rel => exact ⟨HG.out, k + 1, by omega, by go_num, by rw [show j + (k + 1) * 96 = j + k * 96 + 96 by omega], cur', HROW.out, hcs, fun x hx => HCE.out x (by omega)⟩
            case measure => simp [intOf]; omega
      · have hkn : k = n := by omega
        subst hkn
        go_wp2
        go_ret
        exact ⟨rfl, HG.out, own_done hg HROW.out hc hm HCS.out HCE.out⟩
end Go.Proofs.Ytpfjmoodfodfhaa
