/- How many pins are needed for a list of drums, by the reference and by the program. No conditions. -/
import Derived.Test.YtancboodcnomiaaLc
import Derived.Test.YtancboodcnomiaaNew
import Derived.Test.YtancboodcnomiaaCost
import Derived.Outline
namespace Go.Proofs.Ytancboodcnomiaa
open Go.RowKit
set_option linter.unusedVariables false
set_option linter.unusedSimpArgs false

/-- the greater one -/
def mxN (a b : Nat) : Nat := if a < b then b else a
theorem mxN_lt {a b : Nat} (h : a < b) : mxN a b = b := if_pos h
theorem mxN_ge {a b : Nat} (h : ¬ a < b) : mxN a b = a := if_neg h
theorem mxN_le {a b M : Nat} (ha : a ≤ M) (hb : b ≤ M) : mxN a b ≤ M := by unfold mxN; split <;> assumption
theorem mxN_max (a b : Nat) : mxN a b = max a b := by unfold mxN; split <;> omega
attribute [irreducible] mxN
/-- the most pins that one of the first i drums has -/
def mostTo (L : Nat → Nat → Nat) : Nat → Nat
  | 0 => 0
  | i + 1 => mxN (mostTo L i) (cnt (L i))
theorem mostTo_zero (L : Nat → Nat → Nat) : mostTo L 0 = 0 := rfl
theorem mostTo_succ (L : Nat → Nat → Nat) (i : Nat) : mostTo L (i + 1) = mxN (mostTo L i) (cnt (L i)) := rfl
theorem mostTo_le (L : Nat → Nat → Nat) (i : Nat) : mostTo L i ≤ 3072 := by
  induction i with
  | zero => simp [mostTo]
  | succ i ih => rw [mostTo_succ]; exact mxN_le ih (cnt_le _)
attribute [irreducible] mostTo
def pnRes (s : Int) (n : Nat) (P R : Nat → Int) (m : Nat) (L : Nat → Nat → Nat) : Nat := if lcode (okAll s n P R m L) m = 0 then mostTo L m else 0
theorem pnRes_yes {s : Int} {n : Nat} {P R : Nat → Int} {m : Nat} {L : Nat → Nat → Nat} (h : lcode (okAll s n P R m L) m = 0) : pnRes s n P R m L = mostTo L m := if_pos h
theorem pnRes_no {s : Int} {n : Nat} {P R : Nat → Int} {m : Nat} {L : Nat → Nat → Nat} (h : ¬ lcode (okAll s n P R m L) m = 0) : pnRes s n P R m L = 0 := if_neg h
attribute [irreducible] pnRes

theorem l00Max_any (a b : Nat) (w : World) :
    Calls Try.prog 66 #[.int .i64 (a : Int), .int .i64 (b : Int)] w fun e w' => e = .returned (.int .i64 (mxN a b : Nat)) ∧ w = w' := by
  by_cases h : a < b
  · have hr := Lib.hid (mxN_lt h)
    go_enter Try.func66, Try.ntmps66
    go_wp2
    all_goals go_ret
    all_goals exact ⟨ret_int (by rw [hr.out]; try omega), rfl⟩
  · have hr := Lib.hid (mxN_ge h)
    by_cases h2 : b < a
    all_goals
      go_enter Try.func66, Try.ntmps66
      go_wp2
    all_goals go_ret
    all_goals exact ⟨ret_int (by rw [hr.out]; try omega), rfl⟩
set_option maxRecDepth 100000 in
theorem implPinsNeeded_any (s : Int) (a : Option Addr) (n c : Nat) (P R : Nat → Int) (b : Option Addr) (m d : Nat) (L : Nat → Nat → Nat) (w : World) (hs : -32768 ≤ s ∧ s ≤ 32767) (hn : n ≤ 1048576) (hP : I8 P) (hR : I8 R) (hh : HamAt w a n P R) (hm : m ≤ 1048576) (hL : L32 L) (hl : DrumsAt w b m L) :
    Calls Try.prog 20 #[.agg #[.int .i16 s, .slice a n c], .slice b m d] w fun e w' => e = .returned (.tuple #[.int .i64 (pnRes s n P R m L : Nat), .int .i64 (lcode (okAll s n P R m L) m)]) ∧ Below w.heap.size w w' := by
  have HP := Lib.hid hP; have HR := Lib.hid hR; have HL := Lib.hid hL
  clear hP hR hL
  have KB := Kp.base w
  have KH := kp_ham hh; have KL := kp_drums hl; clear hh hl
  replace KB := KB.alloc (.cells #[.int .i16 s, .slice a n c] 33)
  replace KH := KH.alloc (.cells #[.int .i16 s, .slice a n c] 33)
  replace KL := KL.alloc (.cells #[.int .i16 s, .slice a n c] 33)
  have KF := kp_new1 w #[.int .i16 s, .slice a n c] 33 (g := w.heap.size) (by simp)
  have HZ := Lib.hid (show (w.alloc (.cells #[.int .i16 s, .slice a n c] 33)).heap.size = w.heap.size + 1 by simp)
  go_enter Try.func20, Try.ntmps20
  go_wp2_with (with_reducible refine load_iframe rfl _ rfl w.heap.size rfl _ s a n c KF.here ?_)
  generalize (w.alloc (.cells #[.int .i16 s, .slice a n c] 33)) = W at KB KH KL KF HZ ⊢
  refine (listCode_any s a n c P R b m d L W hs hn HP.out HR.out KH.here hm KL.here).mono ?_
  rintro e w1 ⟨rfl, hb1⟩
  replace KB := KB.on hb1
  replace KL := KL.on hb1
  obtain ⟨x, hx⟩ : ∃ x, lcode (okAll s n P R m L) m = x := ⟨_, rfl⟩
  rw [hx]
  have HX := Lib.hid hx
  by_cases h0 : x = 0
  · have hr := Lib.hid (pnRes_yes (hx.trans h0))
    clear hx hb1
    subst h0
    go_wp2
    go_loopw [7, 18] (fun t i w' => Below w1.heap.size w1 w' ∧ ∃ k : Nat, k ≤ m ∧ i = .int .i64 k ∧ t = .int .i64 (mostTo L k : Nat)) (fun _ i _ => m - (intOf i).toNat)
    case atStart => exact ⟨Below.refl _ _, 0, by omega, rfl, by rw [mostTo_zero]; rfl⟩
    case round =>
      obtain ⟨hb, k, hk, rfl, rfl⟩ := hrel
      replace KB := KB.on hb
      replace KL := KL.on hb
      by_cases hlt : k < m
      · have hx := DrumsAt.get KL.here (show 0 < m by omega)
        obtain ⟨g, off, rfl, hg, hc⟩ := hx
        have HC := Lib.hid (hc k hlt); clear hc
        have hle := mostTo_le L k
        have hcl := cnt_le (L k)
        have hst := Lib.hid (mostTo_succ L k)
        have hmx := Lib.hid (mxN_max (mostTo L k) (cnt (L k)))
        go_wp2_with (first | (with_reducible refine load_drum_mid rfl _ rfl g (off + k * 96) rfl (L k) HC.out ?_) | (with_reducible refine copy_drum rfl rfl rfl _ _ rfl (L k) rfl rfl ?_; intro V hb2 hz2 hg2; have HG2 := Lib.hid hg2; have HB2 := Lib.hid hb2; clear hz2 hg2 hb2) | (with_reducible refine load_drum rfl _ rfl wr.heap.size rfl _ (L k) HG2.out ?_) | (go_at_call 69; refine (count_any (L k) (HL.out k) _).mono ?_; rintro e w2 ⟨rfl, hb3⟩))
        go_roundw
        case rel => exact ⟨hb.trans ((HB2.out.trans (hb3.mono HB2.out.size)).mono hb.size), k + 1, by omega, by go_num, by rw [hst.out, hmx.out]; congr 1; omega⟩
        case measure => simp [intOf]; omega
      · have hkm : k = m := by omega
        subst hkm
        go_wp2
        go_ret2
        exact ⟨by rw [hr.out, HX.out]; rfl, KB.here⟩
  · have hr := Lib.hid (pnRes_no (s := s) (n := n) (P := P) (R := R) (m := m) (L := L) (by rw [hx]; exact h0))
    clear hx hb1
    go_wp2
    go_ret2
    exact ⟨by rw [hr.out, HX.out]; rfl, KB.here⟩
set_option maxRecDepth 100000 in
theorem specPinsNeeded_any (s : Int) (a : Option Addr) (n c : Nat) (P R : Nat → Int) (b : Option Addr) (m d : Nat) (L : Nat → Nat → Nat) (w : World) (hs : -32768 ≤ s ∧ s ≤ 32767) (hn : n ≤ 1048576) (hP : I8 P) (hR : I8 R) (hh : HamAt w a n P R) (hm : m ≤ 1048576) (hL : L32 L) (hl : DrumsAt w b m L) :
    Calls Try.prog 17 #[.agg #[.int .i16 s, .slice a n c], .slice b m d] w fun e w' => e = .returned (.tuple #[.int .i64 (pnRes s n P R m L : Nat), .int .i64 (lcode (okAll s n P R m L) m)]) ∧ Below w.heap.size w w' := by
  have HP := Lib.hid hP; have HR := Lib.hid hR; have HL := Lib.hid hL
  clear hP hR hL
  have KB := Kp.base w
  have KH := kp_ham hh; have KL := kp_drums hl; clear hh hl
  replace KB := KB.alloc (.cells #[.int .i16 s, .slice a n c] 33)
  replace KH := KH.alloc (.cells #[.int .i16 s, .slice a n c] 33)
  replace KL := KL.alloc (.cells #[.int .i16 s, .slice a n c] 33)
  have KF := kp_new1 w #[.int .i16 s, .slice a n c] 33 (g := w.heap.size) (by simp)
  have HZ := Lib.hid (show (w.alloc (.cells #[.int .i16 s, .slice a n c] 33)).heap.size = w.heap.size + 1 by simp)
  go_enter Try.func17, Try.ntmps17
  go_wp2_with fail
  generalize (w.alloc (.cells #[.int .i16 s, .slice a n c] 33)) = W at KB KH KL KF HZ ⊢
  refine (l05Asked_any w.heap.size s a n c P R b m d L W hs hn HP.out HR.out KF.here KH.here hm KL.here).mono ?_
  rintro e w1 ⟨rfl, hb1⟩
  replace KB := KB.on hb1
  replace KL := KL.on hb1
  obtain ⟨x, hx⟩ : ∃ x, lcode (okAll s n P R m L) m = x := ⟨_, rfl⟩
  rw [hx]
  have HX := Lib.hid hx
  by_cases h0 : x = 0
  · have hr := Lib.hid (pnRes_yes (hx.trans h0))
    clear hx hb1
    subst h0
    go_wp2
    go_loopw [7, 8] (fun t i w' => Below w1.heap.size w1 w' ∧ ∃ k : Nat, k ≤ m ∧ i = .int .i64 k ∧ t = .int .i64 (mostTo L k : Nat)) (fun _ i _ => m - (intOf i).toNat)
    case atStart => exact ⟨Below.refl _ _, 0, by omega, rfl, by rw [mostTo_zero]; rfl⟩
    case round =>
      obtain ⟨hb, k, hk, rfl, rfl⟩ := hrel
      replace KB := KB.on hb
      replace KL := KL.on hb
      by_cases hlt : k < m
      · have hx := DrumsAt.get KL.here (show 0 < m by omega)
        obtain ⟨g, off, rfl, hg, hc⟩ := hx
        have HC := Lib.hid (hc k hlt); clear hc
        have hle := mostTo_le L k
        have hcl := cnt_le (L k)
        have hst := Lib.hid (mostTo_succ L k)
        have hmt := mxN_le hle hcl
        have hk' : (k : Int) < m := by omega
        obtain ⟨U, rfl⟩ : ∃ U, U = wr := ⟨wr, rfl⟩
        go_wp2
        go_loopw [9, 10] (fun t i w' => Below U.heap.size U w' ∧ ∃ j : Nat, j ≤ 96 ∧ i = .int .i64 j ∧ t = .int .i64 (sumTo (fun x => popc (L k x)) j)) (fun _ i _ => 96 - (intOf i).toNat)
        case atStart => exact ⟨Below.refl _ _, 0, by omega, rfl, by rw [sumTo_zero]; rfl⟩
        case round =>
          obtain ⟨hb3, j, hj, rfl, rfl⟩ := hrel
          have hsl := sumTo_le (fun x => popc (L k x)) 32 (fun x => popc_le _) j
          have hpl := popc_le (L k j)
          by_cases hlj : j < 96
          · have c1 := (HC.out.below hb3 hg) j hlj
            have hj' : (j : Int) < 96 := by omega
            go_wp2_with (go_at_call 65; refine (l02Count_any (L k j) (HL.out k j) _).mono ?_; rintro e w2 ⟨rfl, rfl⟩)
            go_roundw
            case rel => exact ⟨hb3, j + 1, by omega, by go_num, by rw [sumTo_succ]; go_num⟩
            case measure => simp [intOf]; omega
          · have hj96 : j = 96 := by omega
            subst hj96
            have hcd := Lib.hid (cnt_def (L k))
            obtain ⟨y, hy⟩ : ∃ y, sumTo (fun x => popc (L k x)) 96 = y := ⟨_, rfl⟩
            rw [hy] at hsl ⊢
            have HY := Lib.hid hy; clear hy
            go_wp2_with (go_at_call 66; refine (l00Max_any (mostTo L k) y _).mono ?_; rintro e w2 ⟨rfl, rfl⟩)
            go_roundw
            case rel => exact ⟨hb.trans (hb3.mono hb.size), k + 1, by omega, by go_num, by rw [hst.out, hcd.out, HY.out]⟩
            case measure => simp [intOf]; omega
      · have hkm : k = m := by omega
        subst hkm
        go_wp2
        go_ret2
        exact ⟨by rw [hr.out, HX.out]; rfl, KB.here⟩
  · have hr := Lib.hid (pnRes_no (s := s) (n := n) (P := P) (R := R) (m := m) (L := L) (by rw [hx]; exact h0))
    clear hx hb1
    go_wp2
    go_ret2
    exact ⟨by rw [hr.out, HX.out]; rfl, KB.here⟩
end Go.Proofs.Ytancboodcnomiaa
