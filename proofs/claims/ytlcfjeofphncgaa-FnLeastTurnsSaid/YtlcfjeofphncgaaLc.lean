/- The codes of a frame and a list of drums, by the reference and by the program. No conditions. -/
import Derived.Test.YtlcfjeofphncgaaDl
import Derived.Outline
namespace Go.Proofs.Ytlcfjeofphncgaa
open Go.RowKit
set_option linter.unusedVariables false
set_option linter.unusedSimpArgs false

/-- the first number of a list that is not 0, 0 if there is none -/
def firstL : List Int → Int
  | [] => 0
  | x :: l => if x = 0 then firstL l else x
theorem firstL_nil : firstL [] = 0 := rfl
theorem firstL_zero {x : Int} (l : List Int) (h : x = 0) : firstL (x :: l) = firstL l := if_pos h
theorem firstL_at {x : Int} (l : List Int) (h : ¬ x = 0) : firstL (x :: l) = x := if_neg h
attribute [irreducible] firstL
set_option maxRecDepth 100000 in
theorem firstOf_any (l : List Int) (g T : Nat) (w : World) (hl : l.length ≤ 1000) (hg : w.heap[g]? = some (.cells (l.map (Value.int .i64)).toArray T (0, 0))) :
    Calls Try.prog 52 #[.slice (some ⟨g, 0, none⟩) l.length l.length] w fun e w' => e = .returned (.int .i64 (firstL l)) ∧ w = w' := by
  have HG := Lib.hid hg; clear hg
  obtain ⟨n, hn⟩ : ∃ n, l.length = n := ⟨_, rfl⟩
  rw [hn]
  have HN := Lib.hid hn
  rw [hn] at hl
  clear hn
  go_enter Try.func52, Try.ntmps52
  go_wp2
  go_loop [7] (fun i => ∃ k : Nat, k ≤ n ∧ i = .int .i64 k ∧ firstL l = firstL (l.drop k)) (fun i => n - (intOf i).toNat)
  case atStart => exact ⟨0, by omega, rfl, rfl⟩
  case round =>
    obtain ⟨k, hk, rfl, hF⟩ := hrel
    have HF := Lib.hid hF; clear hF
    by_cases hlt : k < n
    · obtain ⟨x, hx⟩ : ∃ x, l[k]? = some x := ⟨l[k]'(by rw [HN.out]; exact hlt), List.getElem?_eq_getElem _⟩
      have hd := Lib.hid (show l.drop k = x :: l.drop (k + 1) by
        obtain ⟨h1, h2⟩ := List.getElem?_eq_some_iff.1 hx
        rw [← h2]; exact List.drop_eq_getElem_cons h1)
      have c0 : w.cell? ⟨g, k, none⟩ = some (.int .i64 x) := by
        rw [cell_of_row w g k _ _ _ HG.out]; simp [hx]
      clear hx
      by_cases h0 : x = 0
      · have hs := Lib.hid (firstL_zero (l.drop (k + 1)) h0)
        subst h0
        go_wp2
        go_round
        case rel => exact ⟨k + 1, by omega, by go_num, by rw [HF.out, hd.out, hs.out]⟩
        case measure => simp [intOf]; omega
      · have hs := Lib.hid (firstL_at (l.drop (k + 1)) h0)
        go_wp2
        go_ret
        exact ⟨ret_int (by rw [HF.out, hd.out, hs.out]), rfl⟩
    · have hkn : k = n := by omega
      subst hkn
      have hs := Lib.hid (show l.drop k = [] from List.drop_eq_nil_of_le (by rw [HN.out]; omega))
      go_wp2
      go_ret
      exact ⟨ret_int (by rw [HF.out, hs.out, firstL_nil]), rfl⟩
/-- the code of a frame and m drums -/
def lcode (ok : Bool) (m : Nat) : Int := if ok then (if m ≤ 8 then 0 else 3) else 1
theorem lcode_false (m : Nat) : lcode false m = 1 := rfl
theorem lcode_few {m : Nat} (h : m ≤ 8) : lcode true m = 0 := by simp [lcode, h]
theorem lcode_many {m : Nat} (h : ¬ m ≤ 8) : lcode true m = 3 := by simp [lcode, h]
theorem lcode_zero {ok : Bool} {m : Nat} (h : lcode ok m = 0) : ok = true ∧ m ≤ 8 := by
  cases ok
  · simp [lcode] at h
  · by_cases hm : m ≤ 8
    · exact ⟨rfl, hm⟩
    · simp [lcode, hm] at h
attribute [irreducible] lcode
theorem firstL_lcode (ok : Bool) (m : Nat) : firstL [unl ok 1, unl (decide ((m : Int) ≤ 8)) 3] = lcode ok m := by
  cases ok
  · rw [firstL_at _ (by rw [unl_false]; simp), unl_false, lcode_false]
  · rw [firstL_zero _ (unl_true 1)]
    by_cases h : m ≤ 8
    · rw [decide_eq_true (by omega), firstL_zero _ (unl_true 3), firstL_nil, lcode_few h]
    · rw [decide_eq_false (by omega), firstL_at _ (by rw [unl_false]; simp), unl_false, lcode_many h]
/-- the same, of a list that must not be empty, and a first one -/
def scode (ok : Bool) (m : Nat) (f : Int) : Int := if lcode ok m = 0 then (if -1 ≤ f ∧ f ≤ (m : Int) - 1 then (if m = 0 then 6 else 0) else 2) else lcode ok m
theorem scode_bad {ok : Bool} {m : Nat} (f : Int) (h : ¬ lcode ok m = 0) : scode ok m f = lcode ok m := if_neg h
theorem scode_range {ok : Bool} {m : Nat} (f : Int) (h : lcode ok m = 0) (h1 : ¬ (-1 ≤ f ∧ f ≤ (m : Int) - 1)) : scode ok m f = 2 := by unfold scode; rw [if_pos h, if_neg h1]
theorem scode_none {ok : Bool} {m : Nat} (f : Int) (h : lcode ok m = 0) (h1 : -1 ≤ f ∧ f ≤ (m : Int) - 1) (h2 : m = 0) : scode ok m f = 6 := by unfold scode; rw [if_pos h, if_pos h1, if_pos h2]
theorem scode_ok {ok : Bool} {m : Nat} (f : Int) (h : lcode ok m = 0) (h1 : -1 ≤ f ∧ f ≤ (m : Int) - 1) (h2 : ¬ m = 0) : scode ok m f = 0 := by unfold scode; rw [if_pos h, if_pos h1, if_neg h2]
theorem scode_zero {ok : Bool} {m : Nat} {f : Int} (h : scode ok m f = 0) : (ok = true ∧ m ≤ 8) ∧ (-1 ≤ f ∧ f ≤ (m : Int) - 1) ∧ 0 < m := by
  by_cases h0 : lcode ok m = 0
  · refine ⟨lcode_zero h0, ?_⟩
    by_cases h1 : -1 ≤ f ∧ f ≤ (m : Int) - 1
    · by_cases h2 : m = 0
      · rw [scode_none f h0 h1 h2] at h; simp at h
      · exact ⟨h1, by omega⟩
    · rw [scode_range f h0 h1] at h; simp at h
  · rw [scode_bad f h0] at h; exact absurd h h0
attribute [irreducible] scode
set_option maxRecDepth 100000 in
theorem listCode_any (s : Int) (a : Option Addr) (n c : Nat) (P R : Nat → Int) (b : Option Addr) (m d : Nat) (L : Nat → Nat → Nat) (w : World) (hs : -32768 ≤ s ∧ s ≤ 32767) (hn : n ≤ 1048576) (hP : I8 P) (hR : I8 R) (hh : HamAt w a n P R) (hm : m ≤ 1048576) (hl : DrumsAt w b m L) :
    Calls Try.prog 35 #[.agg #[.int .i16 s, .slice a n c], .slice b m d] w fun e w' => e = .returned (.int .i64 (lcode (okAll s n P R m L) m)) ∧ Below w.heap.size w w' := by
  have HP := Lib.hid hP; have HR := Lib.hid hR
  clear hP hR
  have KB := Kp.base w
  have KH := kp_ham hh; have KL := kp_drums hl; clear hh hl
  replace KB := KB.alloc (.cells #[.int .i16 s, .slice a n c] 27)
  replace KH := KH.alloc (.cells #[.int .i16 s, .slice a n c] 27)
  replace KL := KL.alloc (.cells #[.int .i16 s, .slice a n c] 27)
  have KF := kp_new1 w #[.int .i16 s, .slice a n c] 27 (g := w.heap.size) (by simp)
  have HZ := Lib.hid (show (w.alloc (.cells #[.int .i16 s, .slice a n c] 27)).heap.size = w.heap.size + 1 by simp)
  go_enter Try.func35, Try.ntmps35
  go_wp2_with fail
  generalize (w.alloc (.cells #[.int .i16 s, .slice a n c] 27)) = W at KB KH KL KF HZ ⊢
  refine (drumCode_any s a n c P R b m d L W (by omega) (by omega) hs HP.out HR.out KH.here KL.here).mono ?_
  rintro e w1 ⟨rfl, hb1⟩
  replace KB := KB.on hb1
  obtain ⟨x, hx⟩ : ∃ x, unl (okAll s n P R m L) 1 = x := ⟨_, rfl⟩
  rw [hx]
  have HX := Lib.hid hx; clear hx
  clear hb1
  go_wp2_with (first | (go_at_call 54; refine (unless_any _ _ _).mono ?_; rintro e w2 ⟨rfl, rfl⟩) | (go_at_call 52; refine (firstOf_any [x, unl (decide ((m : Int) ≤ 8)) 3] w1.heap.size 2 _ (by simp) (heap_alloc_new w1 _)).mono ?_; rintro e w2 ⟨rfl, rfl⟩))
  go_ret
  exact ⟨ret_int (by rw [← HX.out, firstL_lcode]), (KB.alloc _).here⟩
set_option maxRecDepth 100000 in
theorem l05Asked_any (gf : Nat) (s : Int) (a : Option Addr) (n c : Nat) (P R : Nat → Int) (b : Option Addr) (m d : Nat) (L : Nat → Nat → Nat) (w : World) (hs : -32768 ≤ s ∧ s ≤ 32767) (hn : n ≤ 1048576) (hP : I8 P) (hR : I8 R) (hf : w.heap[gf]? = some (.cells #[.int .i16 s, .slice a n c] 27 (0, 0))) (hh : HamAt w a n P R) (hm : m ≤ 1048576) (hl : DrumsAt w b m L) :
    Calls Try.prog 37 #[.pointer (some ⟨gf, 0, none⟩), .slice b m d] w fun e w' => e = .returned (.int .i64 (lcode (okAll s n P R m L) m)) ∧ Below w.heap.size w w' := by
  have HP := Lib.hid hP; have HR := Lib.hid hR
  clear hP hR
  have KB := Kp.base w; have KF := kp_row hf
  have KH := kp_ham hh; have KL := kp_drums hl; clear hh hl hf
  cases hv : vFrame s n P R
  · go_enter Try.func37, Try.ntmps37
    go_wp2_with fail
    refine (l02Frame_any gf s a n c P R w (by omega) hs HP.out HR.out (row_lt KF.here) (row_cell 0 KF.here) (row_cell 1 KF.here) KH.here).mono ?_
    rw [hv]
    rintro e w1 ⟨rfl, hb1⟩
    go_wp2
    go_ret
    have : okAll s n P R m L = false := by
      rw [← Bool.not_eq_true, okAll_iff]
      rintro ⟨H, _⟩
      rw [hv] at H
      exact absurd H (by simp)
    exact ⟨ret_int (by rw [this, lcode_false]), KB.at hb1⟩
  · obtain ⟨hS, hN, _⟩ := vFrame_iff.1 hv
    go_enter Try.func37, Try.ntmps37
    go_wp2_with fail
    refine (l02Frame_any gf s a n c P R w (by omega) hs HP.out HR.out (row_lt KF.here) (row_cell 0 KF.here) (row_cell 1 KF.here) KH.here).mono ?_
    rw [hv]
    have HV := Lib.hid hv; clear hv
    rintro e w1 ⟨rfl, hb1⟩
    replace KB := KB.on hb1
    replace KF := KF.on hb1
    replace KH := KH.on hb1
    replace KL := KL.on hb1
    go_wp2
    go_loopw [5] (fun i w' => Below w1.heap.size w1 w' ∧ ∃ k : Nat, k ≤ m ∧ i = .int .i64 k ∧ ∀ j, j < k → vDrum s n (L j) = true) (fun i _ => m - (intOf i).toNat)
    case atStart => exact ⟨Below.refl _ _, 0, by omega, rfl, fun j hj => by omega⟩
    case round =>
      obtain ⟨hb, k, hk, rfl, hK⟩ := hrel
      have HK := Lib.hid hK; clear hK
      replace KB := KB.on hb
      replace KF := KF.on hb
      replace KH := KH.on hb
      replace KL := KL.on hb
      by_cases hlt : k < m
      · have hx := DrumsAt.get KL.here (show 0 < m by omega)
        obtain ⟨g, off, rfl, hg, hc⟩ := hx
        have HC := Lib.hid (hc k hlt); clear hc
        cases hd : vDrum s n (L k)
        all_goals
          go_wp2_with fail
          refine (l02DrumO_any gf g (off + k * 96) s a n c (L k) wr hN.2 hS.1 hS.2 (row_cell 0 KF.here) (row_cell 1 KF.here) HC.out).mono ?_
          rw [hd]
          rintro e w2 ⟨rfl, q, rfl⟩
          go_wp2
        · go_ret
          have : okAll s n P R m L = false := by
            rw [← Bool.not_eq_true, okAll_iff]
            rintro ⟨_, H⟩
            rw [H k hlt] at hd
            exact absurd hd (by simp)
          exact ⟨ret_int (by rw [this, lcode_false]), below_drewN KB.here _⟩
        · go_roundw
          case rel => exact ⟨below_drewN hb _, k + 1, by omega, by go_num, fun j hj => if e : j = k then e ▸ hd else HK.out j (by omega)⟩
          case measure => simp [intOf]; omega
      · have hok : okAll s n P R m L = true := okAll_iff.2 ⟨HV.out, fun j hj => HK.out j (by omega)⟩
        have HOK := Lib.hid hok; clear hok
        by_cases h8 : m ≤ 8
        · go_wp2
          go_ret
          exact ⟨ret_int (by rw [HOK.out, lcode_few h8]), KB.here⟩
        · go_wp2
          go_ret
          exact ⟨ret_int (by rw [HOK.out, lcode_many h8]), KB.here⟩
end Go.Proofs.Ytlcfjeofphncgaa
