/- Moves are asked for: are the places there, by the reference and by the program. No conditions. -/
import Derived.Test.YtmmneedmhmppoaaMk
import Derived.Test.YtmmneedmhmppoaaPr
import Derived.Test.YtmmneedmhmppoaaCatP
import Derived.Test.YtmmneedmhmppoaaBt
import Derived.Outline
namespace Go.Proofs.Ytmmneedmhmppoaa
open Go.RowKit
set_option linter.unusedVariables false
set_option linter.unusedSimpArgs false

/-- a place that a frame lacks -/
def offB (s : Int) (n : Nat) (A B : Nat → Int) (k : Nat) : Bool := !(inB (A k) 0 (s - 1) && inB (B k) 0 ((n : Int) - 1))
theorem offB_def (s : Int) (n : Nat) (A B : Nat → Int) (k : Nat) : offB s n A B k = !(inB (A k) 0 (s - 1) && inB (B k) 0 ((n : Int) - 1)) := rfl
theorem offB_no {s : Int} {n : Nat} {A B : Nat → Int} {k : Nat} (h : offB s n A B k = false) : (0 ≤ A k ∧ A k ≤ s - 1) ∧ (0 ≤ B k ∧ B k ≤ (n : Int) - 1) := by
  rw [offB_def] at h
  simp at h
  exact ⟨inB_iff.1 h.1, inB_iff.1 h.2⟩
attribute [irreducible] offB
set_option maxRecDepth 100000 in
theorem applyMoves1_any (gf : Nat) (s : Int) (a : Option Addr) (n c : Nat) (A B : Nat → Int) (k : Nat) (w : World) (hs : -32768 ≤ s ∧ s ≤ 32767) (hn : n ≤ 1048576) (hf : w.heap[gf]? = some (.cells #[.int .i16 s, .slice a n c] 43 (0, 0))) :
    Calls Try.prog 111 #[.agg #[.int .i64 (A k), .int .i64 (B k)], .pointer (some ⟨gf, 0, none⟩)] w fun e w' => e = .returned (.bool (offB s n A B k)) ∧ Below w.heap.size w w' := by
  have KB := Kp.base w; have KF := kp_row hf; clear hf
  replace KB := KB.alloc (.cells #[.int .i64 (A k), .int .i64 (B k)] 129)
  replace KF := KF.alloc (.cells #[.int .i64 (A k), .int .i64 (B k)] 129)
  have K0 := kp_new1 w #[.int .i64 (A k), .int .i64 (B k)] 129 (g := w.heap.size) (by simp)
  have HZ := Lib.hid (show (w.alloc (.cells #[.int .i64 (A k), .int .i64 (B k)] 129)).heap.size = w.heap.size + 1 by simp)
  have c0 := row_cell 0 K0.here
  have c1 := row_cell 1 K0.here
  go_enter Try.func111, Try.ntmps111
  go_wp2_with (with_reducible refine load_iframe rfl _ rfl gf rfl _ s a n c KF.here ?_)
  refine (isPlace_any s a n c (A k) (B k) _ hs hn).mono ?_
  have hoff := offB_def s n A B k
  obtain ⟨u, hu⟩ : ∃ u, (inB (A k) 0 (s - 1) && inB (B k) 0 ((n : Int) - 1)) = u := ⟨_, rfl⟩
  rw [hu] at hoff ⊢
  have HOFF := Lib.hid hoff; clear hoff hu
  rintro e w1 ⟨rfl, hb1⟩
  have hb2 := KB.at hb1
  cases u
  · go_wp2
    go_ret
    exact ⟨ret_bool (by rw [HOFF.out]; rfl), hb2⟩
  · go_wp2
    go_ret
    exact ⟨ret_bool (by rw [HOFF.out]; rfl), hb2⟩
set_option maxRecDepth 100000 in
theorem indexFuncP (b : Option Addr) (m d : Nat) (A B : Nat → Int) (gf : Nat) (s : Int) (a : Option Addr) (n c : Nat) (w : World) (hm : m ≤ 1000000000) (hh : PairAt w b m A B) (hs : -32768 ≤ s ∧ s ≤ 32767) (hn : n ≤ 1048576) (hf : w.heap[gf]? = some (.cells #[.int .i16 s, .slice a n c] 43 (0, 0))) :
    Calls Try.prog 146 #[.slice b m d, .func (.func 111) #[] #[.pointer (some ⟨gf, 0, none⟩)]] w fun e w' => ∃ r, e = .returned (.int .i64 r) ∧ IdxOf (offB s n A B) m r ∧ Below w.heap.size w w' := by
  have KH := kp_pair hh; have KF := kp_row hf; clear hh hf
  go_enter Try.func146, Try.ntmps146
  go_wp2
  go_loopw [8] (fun i w' => Below w.heap.size w w' ∧ ∃ k : Nat, k ≤ m ∧ i = .int .i64 k ∧ ∀ j, j < k → offB s n A B j = false) (fun i _ => m - (intOf i).toNat)
  case atStart => exact ⟨Below.refl _ _, 0, by omega, rfl, fun j hj => by omega⟩
  case round =>
    obtain ⟨hb, k, hk, rfl, hK⟩ := hrel
    have HK := Lib.hid hK; clear hK
    replace KH := KH.on hb
    replace KF := KF.on hb
    by_cases hlt : k < m
    · have hx := PairAt.get KH.here (show 0 < m by omega)
      obtain ⟨g, off, rfl, hg, hc⟩ := hx
      have c0 := (hc k hlt).1
      have c1 := (hc k hlt).2
      clear hc
      have hk' : (k : Int) < m := by omega
      cases hp : offB s n A B k
      · have HPP := Lib.hid hp
        go_wp2_with (go_at_call 111; refine (applyMoves1_any gf s a n c A B k _ hs hn KF.here).mono ?_; rw [hp]; rintro e w1 ⟨rfl, hb1⟩)
        go_roundw
        case rel => exact ⟨hb.trans (hb1.mono hb.size), k + 1, by omega, by go_num, fun j hj => if e : j = k then e ▸ HPP.out else HK.out j (by omega)⟩
        case measure => simp [intOf]; omega
      · have HPP := Lib.hid hp
        go_wp2_with (go_at_call 111; refine (applyMoves1_any gf s a n c A B k _ hs hn KF.here).mono ?_; rw [hp]; rintro e w1 ⟨rfl, hb1⟩)
        go_ret
        exact ⟨_, rfl, .inr ⟨k, rfl, hlt, HPP.out, HK.out⟩, hb.trans (hb1.mono hb.size)⟩
    · go_wp2
      go_ret
      exact ⟨_, rfl, .inl ⟨rfl, fun j hj => HK.out j (by omega)⟩, hb⟩
set_option maxRecDepth 100000 in
theorem containsFuncP (b : Option Addr) (m d : Nat) (A B : Nat → Int) (gf : Nat) (s : Int) (a : Option Addr) (n c : Nat) (w : World) (hm : m ≤ 1000000000) (hh : PairAt w b m A B) (hs : -32768 ≤ s ∧ s ≤ 32767) (hn : n ≤ 1048576) (hf : w.heap[gf]? = some (.cells #[.int .i16 s, .slice a n c] 43 (0, 0))) :
    Calls Try.prog 109 #[.slice b m d, .func (.func 111) #[] #[.pointer (some ⟨gf, 0, none⟩)]] w fun e w' => e = .returned (.bool (anyB (offB s n A B) m)) ∧ Below w.heap.size w w' := by
  have HH := Lib.hid hh; have HF := Lib.hid hf; clear hh hf
  go_enter Try.func109, Try.ntmps109
  go_wp2_with (go_at_call 146; refine (indexFuncP b m d A B gf s a n c _ hm HH.out hs hn HF.out).mono ?_; rintro e w1 ⟨r, rfl, hr, hb⟩)
  go_ret
  exact ⟨ret_bool hr.any, hb⟩
set_option maxRecDepth 100000 in
set_option maxHeartbeats 2000000 in
theorem l03There_any (gf Tf : Nat) (s : Int) (a : Option Addr) (n c : Nat) (b : Option Addr) (m d : Nat) (A B : Nat → Int) (w : World) (hs : 2 ≤ s ∧ s ≤ 96) (hn : n ≤ 24) (hm : m ≤ 1048576) (hf : w.heap[gf]? = some (.cells #[.int .i16 s, .slice a n c] Tf (0, 0))) (hh : PairAt w b m A B) :
    Calls Try.prog 106 #[.pointer (some ⟨gf, 0, none⟩), .slice b m d] w fun e w' => e = .returned (.bool (!anyB (offB s n A B) m)) ∧ Below w.heap.size w w' := by
  have KH := kp_pair hh; have KF := kp_row hf; clear hh hf
  have q1 := i64_id (x := s) (by omega)
  have q2 := i64_id (x := s - 1) (by omega)
  have q3 := i64_id (x := (n : Int) - 1) (by omega)
  go_enter Try.func106, Try.ntmps106
  go_wp2
  go_loopw [5] (fun i w' => Below w.heap.size w w' ∧ ∃ k : Nat, k ≤ m ∧ i = .int .i64 k ∧ ∀ j, j < k → offB s n A B j = false) (fun i _ => m - (intOf i).toNat)
  case atStart => exact ⟨Below.refl _ _, 0, by omega, rfl, fun j hj => by omega⟩
  case round =>
    obtain ⟨hb, k, hk, rfl, hK⟩ := hrel
    have HK := Lib.hid hK; clear hK
    replace KH := KH.on hb
    replace KF := KF.on hb
    by_cases hlt : k < m
    · have hx := PairAt.get KH.here (show 0 < m by omega)
      obtain ⟨g, off, rfl, hg, hc⟩ := hx
      have c0 := (hc k hlt).1
      have c1 := (hc k hlt).2
      have f0 := row_cell 0 KF.here
      have f1 := row_cell 1 KF.here
      clear hc
      have hk' : (k : Int) < m := by omega
      have hoff := offB_def s n A B k
      have hla : ∀ W, Calls Try.prog 96 #[.int .i64 (A k), .int .i64 0, .int .i64 (s - 1)] W fun e W' => e = .returned (.bool (inB (A k) 0 (s - 1))) ∧ W = W' := fun W => l00In_any _ _ _ W
      have hlb : ∀ W, Calls Try.prog 96 #[.int .i64 (B k), .int .i64 0, .int .i64 ((n : Int) - 1)] W fun e W' => e = .returned (.bool (inB (B k) 0 ((n : Int) - 1))) ∧ W = W' := fun W => l00In_any _ _ _ W
      cases ha : inB (A k) 0 (s - 1)
      · have HP := Lib.hid (anyB_iff.2 ⟨k, hlt, show offB s n A B k = true by rw [hoff, ha]; rfl⟩)
        rw [ha] at hla
        have HA := Lib.hid hla; clear hla hlb hoff ha
        go_wp2
        go_quiet ((go_at_call 96; exact q_same (HA.out _)))
        go_wp2
        go_ret
        exact ⟨ret_bool (by rw [HP.out]; rfl), below_drewN hb _⟩
      · cases hbb : inB (B k) 0 ((n : Int) - 1)
        · have HP := Lib.hid (anyB_iff.2 ⟨k, hlt, show offB s n A B k = true by rw [hoff, ha, hbb]; rfl⟩)
          rw [ha] at hla; rw [hbb] at hlb
          have HA := Lib.hid hla; have HBB := Lib.hid hlb; clear hla hlb hoff ha hbb
          go_wp2
          go_quiet ((go_at_call 96; first | (with_reducible exact q_same (HA.out _)) | (with_reducible exact q_same (HBB.out _))))
          go_wp2
          go_ret
          exact ⟨ret_bool (by rw [HP.out]; rfl), below_drewN hb _⟩
        · have HP := Lib.hid (show offB s n A B k = false by rw [hoff, ha, hbb]; rfl)
          rw [ha] at hla; rw [hbb] at hlb
          have HA := Lib.hid hla; have HBB := Lib.hid hlb; clear hla hlb hoff ha hbb
          go_wp2
          go_quiet ((go_at_call 96; first | (with_reducible exact q_same (HA.out _)) | (with_reducible exact q_same (HBB.out _))))
          go_wp2
          go_roundw
          case rel => exact ⟨below_drewN hb _, k + 1, by omega, by go_num, fun j hj => if e : j = k then e ▸ HP.out else HK.out j (by omega)⟩
          case measure => simp [intOf]; omega
    · have hno := anyB_false (p := offB s n A B) (n := m) (fun j hj => HK.out j (by omega))
      have HNO := Lib.hid hno; clear hno
      go_wp2
      go_ret
      exact ⟨ret_bool (by rw [HNO.out]; rfl), hb⟩
end Go.Proofs.Ytmmneedmhmppoaa
