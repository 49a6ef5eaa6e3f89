/- What the statements write over: frames, programmes, drums, pairs. No conditions. -/
import Derived.Test.YteffaghcjpeblaaGreatMk1
import Derived.Test.YteffaghcjpeblaaGreatPg
namespace Go.Proofs.YteffaghcjpeblaaGreat
open Go.RowKit
set_option linter.unusedVariables false
set_option linter.unusedSimpArgs false

theorem grown_trans {w w1 w2 : World} {row : Option Nat} (h : w.grownBy w1 row) (h2 : w1.grownBy w2 row) : w.grownBy w2 row :=
  ⟨h2.os.trans h.os, h2.tape.trans h.tape, h2.output.trans h.output, Nat.le_trans h.size h2.size, fun k hk hne => (h2.block k (Nat.lt_of_lt_of_le hk h.size) hne).trans (h.block k hk hne)⟩
/-- a slice value has one cell -/
theorem own_slice {w : World} {base size n : Nat} {e : TypeId} {v : Value} {xs : List Value} (h : w.ownsRow base e size v n xs) : ∃ b c, v = .slice b n c := by
  rcases h.2 with ⟨rfl, rfl⟩ | ⟨g, cap, cur, rfl, _⟩
  · exact ⟨_, _, rfl⟩
  · exact ⟨_, _, rfl⟩
/-- the copy of a frame, its hammers in a block of one's own -/
theorem toFrame_own (s : Int) (a : Option Addr) (n c : Nat) (P R : Nat → Int) (w : World) (hn : n ≤ 1048576) (hs : -32768 ≤ s ∧ s ≤ 32767) (hh : HamIn w a n P R) :
    Calls Tryz.prog 10 #[.agg #[.int .i16 s, .slice a n c]] w fun e w' => ∃ b, e = .returned (.agg #[.int .i16 s, .slice b n n]) ∧ Below w.heap.size w w' ∧ Kp w' (fun V => HamAt V b n P R) ∧ ∃ xs, Kp w' (fun V => V.ownsRow w.heap.size 118 2 (.slice b n n) n xs) :=
  (toFrame_any s a n c P R w hn hs hh).mono fun _ _ ⟨he, hb, f, hB, hF⟩ => ⟨_, he, hb, kp_ham (hF.at hB), _, kp_ownR (own_blk hB rfl (by omega) (by unfold maxLen; omega))⟩
theorem markFrame_own (base : Nat) (s : Int) (b : Option Addr) (n c : Nat) (xs : List Value) (j : Nat) (w : World) (hn : n ≤ 1048576) (hj : j ≤ 1000000000) (ha : w.ownsRow base 118 2 (.slice b n c) n xs) :
    Calls Tryz.prog 17 #[.agg #[.int .i16 s, .slice b n c], .int .i64 (j : Int)] w fun e w' => e = .returned (.int .i64 ((j + n * 2 : Nat) : Int)) ∧ w.grownBy w' (Value.slice b n c).ownBlock ∧ w'.ownsRow base 118 2 (.slice b n c) n (mks (mkHammer j) (n * 2)) := by
  have HA := Lib.hid (ha.alloc (.cells #[.int .i16 s, .slice b n c] 36)); clear ha
  have HG := Lib.hid (World.grownBy_alloc w (.cells #[.int .i16 s, .slice b n c] 36) (Value.slice b n c).ownBlock)
  obtain ⟨y, hy⟩ : ∃ y : Nat, j + n * 2 = y := ⟨_, rfl⟩
  rw [hy]
  have HY := Lib.hid hy; clear hy
  go_enter Tryz.func17, Tryz.ntmps17
  go_wp2_with fail
  refine (markHammerS_own base _ n xs j _ hn hj HA.out).mono ?_
  rintro e w1 ⟨rfl, hg, hown⟩
  rw [HY.out]
  have H1 := Lib.hid hg; have H2 := Lib.hid hown; clear hg hown
  go_wp2
  go_ret
  exact ⟨rfl, grown_trans HG.out H1.out, H2.out⟩
theorem markProgramme_own (base : Nat) (b : Option Addr) (n c : Nat) (O : Nat → Int) (xs : List Value) (j : Nat) (w : World) (hn : n ≤ 1048576) (hj : j ≤ 1000000000) (ha : w.ownsRow base 90 2 (.slice b n c) n xs) :
    Calls Tryz.prog 26 #[.agg (pc b n c O), .int .i64 (j : Int)] w fun e w' => e = .returned (.int .i64 ((j + n * 2 : Nat) : Int)) ∧ w.grownBy w' (Value.slice b n c).ownBlock ∧ w'.ownsRow base 90 2 (.slice b n c) n (mks (mkSection j) (n * 2)) := by
  have HA := Lib.hid (ha.alloc (.cells (pc b n c O) 60)); clear ha
  have HG := Lib.hid (World.grownBy_alloc w (.cells (pc b n c O) 60) (Value.slice b n c).ownBlock)
  have KB := Kp.base w
  replace KB := KB.alloc (.cells (pc b n c O) 60)
  have K0 := kp_new1 w (pc b n c O) 60 (g := w.heap.size) (by simp)
  have HZ := Lib.hid (show (w.alloc (.cells (pc b n c O) 60)).heap.size = w.heap.size + 1 by simp)
  have d0 := row_cell 0 K0.here
  rw [pc_get0] at d0
  clear KB K0 HZ
  obtain ⟨y, hy⟩ : ∃ y : Nat, j + n * 2 = y := ⟨_, rfl⟩
  rw [hy]
  have HY := Lib.hid hy; clear hy
  have D0 := Lib.hid d0; clear d0
  go_enter Tryz.func26, Tryz.ntmps26
  have d0 := D0.out
  go_wp2_with fail
  clear d0
  refine (markSectionS_own base _ n xs j _ hn hj HA.out).mono ?_
  rintro e w1 ⟨rfl, hg, hown⟩
  rw [HY.out]
  have H1 := Lib.hid hg; have H2 := Lib.hid hown; clear hg hown
  go_wp2
  go_ret
  exact ⟨rfl, grown_trans HG.out H1.out, H2.out⟩
end Go.Proofs.YteffaghcjpeblaaGreat
