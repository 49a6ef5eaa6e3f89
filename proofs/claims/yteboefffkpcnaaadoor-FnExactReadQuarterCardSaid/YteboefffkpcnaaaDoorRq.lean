/- QuarterText and ReadQuarter: the laws' walks. No conditions. -/
import Derived.Test.YteboefffkpcnaaaDoorQt
import Derived.Outline
namespace Go.Proofs.YteboefffkpcnaaaDoor
open Go.RowKit
set_option linter.unusedVariables false
set_option linter.unusedSimpArgs false

set_option maxRecDepth 100000 in
set_option maxHeartbeats 4000000 in
theorem lawQuarterText (x0 : Int) (w : World) (hx0 : -9223372036854775808 ≤ x0 ∧ x0 ≤ 9223372036854775807) :
    Calls Tryd.prog 3 #[.int .i64 x0] w fun e w' => e = .returned (.bool true) ∧ Below w.heap.size w w' := by
  go_enter Tryd.func3, Tryd.ntmps3
  go_wp2_with fail
  refine (specQuarterText_any x0 _ hx0).mono ?_
  obtain ⟨r, hr⟩ : ∃ r, r = qt x0 := ⟨_, rfl⟩
  rw [← hr]
  rintro e w1 ⟨rfl, hb1⟩
  go_wp2_with fail
  refine (implQuarterText_any x0 _ hx0).mono ?_
  rw [← hr]
  rintro e w2 ⟨rfl, hb2⟩
  clear hr
  go_wp2
  go_ret
  exact ⟨rfl, hb1.trans (hb2.mono hb1.size)⟩
/-- the first quarter below k whose text is s, k if there is none -/
def rqN (s : ByteArray) : Nat → Nat
  | 0 => 0
  | k + 1 => if rqN s k < k then rqN s k else if qt (k : Int) = s then k else k + 1
theorem rqN_zero (s : ByteArray) : rqN s 0 = 0 := rfl
theorem rqN_no {s : ByteArray} {k : Nat} (h : rqN s k = k) (h2 : ¬ qt (k : Int) = s) : rqN s (k + 1) = k + 1 := by
  show (if rqN s k < k then rqN s k else if qt (k : Int) = s then k else k + 1) = _
  rw [if_neg (by omega), if_neg h2]
theorem rqN_yes {s : ByteArray} {k : Nat} (h : rqN s k = k) (h2 : qt (k : Int) = s) (d : Nat) : rqN s (k + 1 + d) = k := by
  induction d with
  | zero =>
    show (if rqN s k < k then rqN s k else if qt (k : Int) = s then k else k + 1) = _
    rw [if_neg (by omega), if_pos h2]
  | succ d ih =>
    show (if rqN s (k + 1 + d) < k + 1 + d then rqN s (k + 1 + d) else _) = _
    rw [if_pos (by omega)]; exact ih
theorem rqN_at {s : ByteArray} {k : Nat} (hk : k < 48) (h : rqN s k = k) (h2 : qt (k : Int) = s) : rqN s 48 = k := by
  have := rqN_yes h h2 (48 - (k + 1))
  rwa [show k + 1 + (48 - (k + 1)) = 48 by omega] at this
theorem ba_ne {a b : ByteArray} (h : ¬ a = b) : (a.toList == b.toList) = false := by
  rw [beq_eq_false_iff_ne]
  intro e
  apply h
  rw [Lib.toList_data, Lib.toList_data] at e
  apply ByteArray.ext
  exact Array.toList_inj.1 e
def rqV (s : ByteArray) : Int := if rqN s 48 < 48 then (rqN s 48 : Nat) else 0
def rqC (s : ByteArray) : Int := if rqN s 48 < 48 then 0 else 5
theorem rq_yes {s : ByteArray} {k : Nat} (hk : k < 48) (h : rqN s 48 = k) : rqV s = k ∧ rqC s = 0 := by
  unfold rqV rqC; rw [h, if_pos hk, if_pos hk]; exact ⟨rfl, rfl⟩
theorem rq_no {s : ByteArray} (h : rqN s 48 = 48) : rqV s = 0 ∧ rqC s = 5 := by
  unfold rqV rqC; rw [h, if_neg (by omega), if_neg (by omega)]; exact ⟨rfl, rfl⟩
attribute [irreducible] rqN rqV rqC
set_option maxRecDepth 100000 in
set_option maxHeartbeats 4000000 in
theorem specReadQuarter_any (s : ByteArray) (w : World) :
    Calls Tryd.prog 9 #[.string s] w fun e w' => e = .returned (.tuple #[.int .i64 (rqV s), .int .i64 (rqC s)]) ∧ Below w.heap.size w w' := by
  go_enter Tryd.func9, Tryd.ntmps9
  go_wp2
  go_loopw [4] (fun i w' => Below w.heap.size w w' ∧ ∃ k : Nat, k ≤ 48 ∧ i = .int .i64 k ∧ rqN s k = k) (fun i _ => 48 - (intOf i).toNat)
  case atStart => exact ⟨Below.refl _ _, 0, by omega, rfl, rqN_zero s⟩
  case round =>
    obtain ⟨hb, k, hk, rfl, hn⟩ := hrel
    have HN := Lib.hid hn; clear hn
    have hsz := hb.size
    by_cases hlt : k < 48
    · have hlt' : (k : Int) < 48 := by omega
      by_cases he : qt (k : Int) = s
      · have HR := Lib.hid (rq_yes hlt (rqN_at hlt HN.out he))
        go_wp2_with fail
        refine (specQuarterText_any (k : Int) wr (by omega)).mono ?_
        rw [he]
        rintro e w2 ⟨rfl, hb2⟩
        clear he
        have hbb := hb.trans (hb2.mono hsz)
        go_wp2
        go_ret2
        exact ⟨by rw [HR.out.1, HR.out.2]; rfl, hbb⟩
      · have HR := Lib.hid (rqN_no HN.out he)
        go_wp2_with fail
        refine (specQuarterText_any (k : Int) wr (by omega)).mono ?_
        have hbt := ba_ne he
        rintro e w2 ⟨rfl, hb2⟩
        clear he
        have hbb := hb.trans (hb2.mono hsz)
        go_wp2
        go_roundw
        case rel => exact ⟨hbb, k + 1, by omega, by go_num, HR.out⟩
        case measure => simp [intOf]; omega
    · have hk48 : k = 48 := by omega
      subst hk48
      have HR := Lib.hid (rq_no HN.out)
      go_wp2
      go_ret2
      exact ⟨by rw [HR.out.1, HR.out.2]; rfl, hb⟩
set_option maxRecDepth 100000 in
set_option maxHeartbeats 4000000 in
theorem implReadQuarter_any (s : ByteArray) (w : World) :
    Calls Tryd.prog 10 #[.string s] w fun e w' => e = .returned (.tuple #[.int .i64 (rqV s), .int .i64 (rqC s)]) ∧ Below w.heap.size w w' := by
  go_enter Tryd.func10, Tryd.ntmps10
  go_wp2
  go_loopw [5] (fun i w' => Below w.heap.size w w' ∧ ∃ k : Nat, k ≤ 48 ∧ i = .int .i64 k ∧ rqN s k = k) (fun i _ => 48 - (intOf i).toNat)
  case atStart => exact ⟨Below.refl _ _, 0, by omega, rfl, rqN_zero s⟩
  case round =>
    obtain ⟨hb, k, hk, rfl, hn⟩ := hrel
    have HN := Lib.hid hn; clear hn
    have hsz := hb.size
    by_cases hlt : k < 48
    · have hlt' : (k : Int) < 48 := by omega
      by_cases he : qt (k : Int) = s
      · have HR := Lib.hid (rq_yes hlt (rqN_at hlt HN.out he))
        go_wp2_with fail
        refine (implQuarterText_any (k : Int) wr (by omega)).mono ?_
        rw [he]
        rintro e w2 ⟨rfl, hb2⟩
        clear he
        have hbb := hb.trans (hb2.mono hsz)
        go_wp2
        go_ret2
        exact ⟨by rw [HR.out.1, HR.out.2]; rfl, hbb⟩
      · have HR := Lib.hid (rqN_no HN.out he)
        go_wp2_with fail
        refine (implQuarterText_any (k : Int) wr (by omega)).mono ?_
        have hbt := ba_ne he
        rintro e w2 ⟨rfl, hb2⟩
        clear he
        have hbb := hb.trans (hb2.mono hsz)
        go_wp2
        go_roundw
        case rel => exact ⟨hbb, k + 1, by omega, by go_num, HR.out⟩
        case measure => simp [intOf]; omega
    · have hk48 : k = 48 := by omega
      subst hk48
      have HR := Lib.hid (rq_no HN.out)
      go_wp2
      go_ret2
      exact ⟨by rw [HR.out.1, HR.out.2]; rfl, hb⟩
set_option maxRecDepth 100000 in
set_option maxHeartbeats 4000000 in
theorem lawReadQuarter (s : ByteArray) (w : World) (hs : s.size ≤ maxLen) :
    Calls Tryd.prog 4 #[.string s] w fun e w' => e = .returned (.bool true) ∧ Below w.heap.size w w' := by
  by_cases hlen : 1048576 < s.size
  · have hl' : (1048576 : Int) < s.size := by omega
    go_enter Tryd.func4, Tryd.ntmps4
    go_wp2
    go_ret
    exact ⟨rfl, Below.refl _ _⟩
  · have hl' : ¬ (1048576 : Int) < s.size := by omega
    go_enter Tryd.func4, Tryd.ntmps4
    go_wp2_with fail
    refine (specReadQuarter_any s _).mono ?_
    obtain ⟨r, hr⟩ : ∃ r, r = rqV s := ⟨_, rfl⟩
    obtain ⟨c, hc⟩ : ∃ c, c = rqC s := ⟨_, rfl⟩
    rw [← hr, ← hc]
    rintro e w1 ⟨rfl, hb1⟩
    go_wp2_with fail
    refine (implReadQuarter_any s _).mono ?_
    rw [← hr, ← hc]
    rintro e w2 ⟨rfl, hb2⟩
    clear hr hc
    go_wp2
    go_ret
    exact ⟨rfl, hb1.trans (hb2.mono hb1.size)⟩
end Go.Proofs.YteboefffkpcnaaaDoor
