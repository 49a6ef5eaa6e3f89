/- The pins that all drums share, by the reference and by the program; the codes of a list that must not be empty. No conditions. -/
import Derived.Test.YtkefjgbcpoggiaaUni
import Derived.Outline
namespace Go.Proofs.Ytkefjgbcpoggiaa
open Go.RowKit
set_option linter.unusedVariables false
set_option linter.unusedSimpArgs false

/-- the pins that drum 0 and all of the first i drums have -/
def interTo (L : Nat → Nat → Nat) : Nat → Nat → Nat
  | 0 => L 0
  | i + 1 => fun k => interTo L i k &&& L i k
theorem interTo_zero (L : Nat → Nat → Nat) : interTo L 0 = L 0 := rfl
theorem interTo_succ (L : Nat → Nat → Nat) (i : Nat) : interTo L (i + 1) = fun k => interTo L i k &&& L i k := rfl
theorem interTo_one (L : Nat → Nat → Nat) : interTo L 1 = L 0 := by
  rw [interTo_succ]; funext k; rw [interTo_zero, Nat.and_self]
theorem interTo_32 {L : Nat → Nat → Nat} (h : L32 L) (i : Nat) : D32 (interTo L i) := by
  induction i with
  | zero => rw [interTo_zero]; exact h 0
  | succ i ih => intro j; rw [interTo_succ]; exact and_lt32 (h i j)
attribute [irreducible] interTo
def shRes (s : Int) (n : Nat) (P R : Nat → Int) (m : Nat) (L : Nat → Nat → Nat) : Nat → Nat := if scode (okAll s n P R m L) m (-1) = 0 then interTo L m else fun _ => 0
theorem shRes_yes {s : Int} {n : Nat} {P R : Nat → Int} {m : Nat} {L : Nat → Nat → Nat} (h : scode (okAll s n P R m L) m (-1) = 0) : shRes s n P R m L = interTo L m := if_pos h
theorem shRes_no {s : Int} {n : Nat} {P R : Nat → Int} {m : Nat} {L : Nat → Nat → Nat} (h : ¬ scode (okAll s n P R m L) m (-1) = 0) : shRes s n P R m L = fun _ => 0 := if_neg h
attribute [irreducible] shRes
theorem firstL_scode (ok : Bool) (m : Nat) (f : Int) : firstL [lcode ok m, unl (inB f (-1) ((m : Int) - 1)) 2, unl (decide (0 < m)) 6] = scode ok m f := by
  by_cases h : lcode ok m = 0
  · rw [firstL_zero _ h]
    by_cases h1 : -1 ≤ f ∧ f ≤ (m : Int) - 1
    · rw [inB_true h1, firstL_zero _ (unl_true 2)]
      by_cases h2 : m = 0
      · rw [decide_eq_false (by omega), firstL_at _ (by rw [unl_false]; simp), unl_false, scode_none f h h1 h2]
      · rw [decide_eq_true (by omega), firstL_zero _ (unl_true 6), firstL_nil, scode_ok f h h1 h2]
    · rw [inB_false h1, firstL_at _ (by rw [unl_false]; simp), unl_false, scode_range f h h1]
  · rw [firstL_at _ h, scode_bad f h]
set_option maxRecDepth 100000 in
theorem startCode_any (s : Int) (a : Option Addr) (n c : Nat) (P R : Nat → Int) (b : Option Addr) (m d : Nat) (L : Nat → Nat → Nat) (f : Int) (w : World) (hs : -32768 ≤ s ∧ s ≤ 32767) (hn : n ≤ 1048576) (hP : I8 P) (hR : I8 R) (hh : HamAt w a n P R) (hm : m ≤ 1048576) (hl : DrumsAt w b m L) :
    Calls Try.prog 89 #[.agg #[.int .i16 s, .slice a n c], .slice b m d, .int .i64 f] w fun e w' => e = .returned (.int .i64 (scode (okAll s n P R m L) m f)) ∧ Below w.heap.size w w' := by
  have HP := Lib.hid hP; have HR := Lib.hid hR
  clear hP hR
  have KB := Kp.base w
  have KH := kp_ham hh; have KL := kp_drums hl; clear hh hl
  replace KB := KB.alloc (.cells #[.int .i16 s, .slice a n c] 27)
  replace KH := KH.alloc (.cells #[.int .i16 s, .slice a n c] 27)
  replace KL := KL.alloc (.cells #[.int .i16 s, .slice a n c] 27)
  have KF := kp_new1 w #[.int .i16 s, .slice a n c] 27 (g := w.heap.size) (by simp)
  have HZ := Lib.hid (show (w.alloc (.cells #[.int .i16 s, .slice a n c] 27)).heap.size = w.heap.size + 1 by simp)
  go_enter Try.func89, Try.ntmps89
  go_wp2_with (with_reducible refine load_iframe rfl _ rfl w.heap.size rfl _ s a n c KF.here ?_)
  generalize (w.alloc (.cells #[.int .i16 s, .slice a n c] 27)) = W at KB KH KL KF HZ ⊢
  refine (listCode_any s a n c P R b m d L W hs hn HP.out HR.out KH.here hm KL.here).mono ?_
  rintro e w1 ⟨rfl, hb1⟩
  replace KB := KB.on hb1
  clear hb1
  obtain ⟨x, hx⟩ : ∃ x, lcode (okAll s n P R m L) m = x := ⟨_, rfl⟩
  have hF := firstL_scode (okAll s n P R m L) m f
  rw [hx] at hF ⊢
  have HF := Lib.hid hF; clear hF hx
  have q1 := i64_id (x := (m : Int) - 1) (by omega)
  go_wp2_with (first | (go_at_call 99; refine (sizeDrum_any _ _ _ _ (by omega)).mono ?_; rintro e w2 ⟨rfl, rfl⟩) | (go_at_call 116; refine (within_any _ _ _ _).mono ?_; rintro e w2 ⟨rfl, rfl⟩) | (go_at_call 110; refine (unless_any _ _ _).mono ?_; rintro e w2 ⟨rfl, rfl⟩) | (go_at_call 108; refine (firstOf_any [x, unl (inB f (-1) ((m : Int) - 1)) 2, unl (decide (0 < m)) 6] w1.heap.size 2 _ (by simp) (heap_alloc_new w1 _)).mono ?_; rintro e w2 ⟨rfl, rfl⟩))
  go_ret
  exact ⟨ret_int HF.out, (KB.alloc _).here⟩
set_option maxRecDepth 100000 in
theorem l05First_any (gf : Nat) (s : Int) (a : Option Addr) (n c : Nat) (P R : Nat → Int) (b : Option Addr) (m d : Nat) (L : Nat → Nat → Nat) (f : Int) (w : World) (hs : -32768 ≤ s ∧ s ≤ 32767) (hn : n ≤ 1048576) (hP : I8 P) (hR : I8 R) (hf : w.heap[gf]? = some (.cells #[.int .i16 s, .slice a n c] 27 (0, 0))) (hh : HamAt w a n P R) (hm : m ≤ 1048576) (hl : DrumsAt w b m L) :
    Calls Try.prog 90 #[.pointer (some ⟨gf, 0, none⟩), .slice b m d, .int .i64 f] w fun e w' => e = .returned (.int .i64 (scode (okAll s n P R m L) m f)) ∧ Below w.heap.size w w' := by
  obtain ⟨x, hx⟩ : ∃ x, lcode (okAll s n P R m L) m = x := ⟨_, rfl⟩
  have HP := Lib.hid hP; have HR := Lib.hid hR; have HF := Lib.hid hf; have HH := Lib.hid hh; have HL := Lib.hid hl
  clear hP hR hf hh hl
  have HX := Lib.hid hx
  have q1 := i64_id (x := (m : Int) - 1) (by omega)
  by_cases h0 : x = 0
  · subst h0
    by_cases h1 : -1 ≤ f ∧ f ≤ (m : Int) - 1
    · have hin := inB_true h1
      by_cases h2 : m = 0
      · have hr := Lib.hid (scode_none f hx h1 h2)
        clear hx
        subst h2
        clear hin
        have hin : inB f (-1) (-1) = true := inB_true (by omega)
        go_enter Try.func90, Try.ntmps90
        go_wp2_with fail
        refine (l05Asked_any gf s a n c P R b 0 d L w hs hn HP.out HR.out HF.out HH.out hm HL.out).mono ?_
        rw [HX.out]
        rintro e w1 ⟨rfl, hb1⟩
        go_wp2_with (go_at_call 163; refine (l00In_any _ _ _ _).mono ?_; rintro e w2 ⟨rfl, rfl⟩)
        go_ret
        exact ⟨ret_int hr.out.symm, hb1⟩
      · have hr := Lib.hid (scode_ok f hx h1 h2)
        clear hx
        go_enter Try.func90, Try.ntmps90
        go_wp2_with fail
        refine (l05Asked_any gf s a n c P R b m d L w hs hn HP.out HR.out HF.out HH.out hm HL.out).mono ?_
        rw [HX.out]
        rintro e w1 ⟨rfl, hb1⟩
        go_wp2_with (go_at_call 163; refine (l00In_any _ _ _ _).mono ?_; rintro e w2 ⟨rfl, rfl⟩)
        go_ret
        exact ⟨ret_int hr.out.symm, hb1⟩
    · have hin := inB_false h1
      have hr := Lib.hid (scode_range f hx h1)
      clear hx
      go_enter Try.func90, Try.ntmps90
      go_wp2_with fail
      refine (l05Asked_any gf s a n c P R b m d L w hs hn HP.out HR.out HF.out HH.out hm HL.out).mono ?_
      rw [HX.out]
      rintro e w1 ⟨rfl, hb1⟩
      go_wp2_with (go_at_call 163; refine (l00In_any _ _ _ _).mono ?_; rintro e w2 ⟨rfl, rfl⟩)
      go_ret
      exact ⟨ret_int hr.out.symm, hb1⟩
  · have hr := Lib.hid (scode_bad f (show ¬ lcode (okAll s n P R m L) m = 0 by rw [hx]; exact h0))
    clear hx
    go_enter Try.func90, Try.ntmps90
    go_wp2_with fail
    refine (l05Asked_any gf s a n c P R b m d L w hs hn HP.out HR.out HF.out HH.out hm HL.out).mono ?_
    rw [HX.out]
    rintro e w1 ⟨rfl, hb1⟩
    go_wp2_with (go_at_call 163; refine (l00In_any _ _ _ _).mono ?_; rintro e w2 ⟨rfl, rfl⟩)
    go_ret
    exact ⟨ret_int (by rw [hr.out, HX.out]), hb1⟩
set_option maxRecDepth 100000 in
theorem implSharedPins_any (s : Int) (a : Option Addr) (n c : Nat) (P R : Nat → Int) (b : Option Addr) (m d : Nat) (L : Nat → Nat → Nat) (w : World) (hs : -32768 ≤ s ∧ s ≤ 32767) (hn : n ≤ 1048576) (hP : I8 P) (hR : I8 R) (hh : HamAt w a n P R) (hm : m ≤ 1048576) (hL : L32 L) (hl : DrumsAt w b m L) :
    Calls Try.prog 18 #[.agg #[.int .i16 s, .slice a n c], .slice b m d] w fun e w' => e = .returned (.tuple #[.agg (dc (shRes s n P R m L)), .int .i64 (scode (okAll s n P R m L) m (-1))]) ∧ Below w.heap.size w w' := by
  have HP := Lib.hid hP; have HR := Lib.hid hR; have HL := Lib.hid hL
  clear hP hR hL
  have KB := Kp.base w
  have KH := kp_ham hh; have KL := kp_drums hl; clear hh hl
  replace KB := KB.alloc (.cells #[.int .i16 s, .slice a n c] 27)
  replace KH := KH.alloc (.cells #[.int .i16 s, .slice a n c] 27)
  replace KL := KL.alloc (.cells #[.int .i16 s, .slice a n c] 27)
  have KF := kp_new1 w #[.int .i16 s, .slice a n c] 27 (g := w.heap.size) (by simp)
  replace KB := KB.alloc (.cells (dc fun _ => 0) 33)
  replace KH := KH.alloc (.cells (dc fun _ => 0) 33)
  replace KL := KL.alloc (.cells (dc fun _ => 0) 33)
  replace KF := KF.alloc (.cells (dc fun _ => 0) 33)
  have K0 := kp_newd (w.alloc (.cells #[.int .i16 s, .slice a n c] 27)) (fun _ => 0) 33 (g := w.heap.size + 1) (by simp)
  have HZ := Lib.hid (show ((w.alloc (.cells #[.int .i16 s, .slice a n c] 27)).alloc (.cells (dc fun _ => 0) 33)).heap.size = w.heap.size + 1 + 1 by simp)
  go_enter Try.func18, Try.ntmps18
  go_wp2_with (first | (with_reducible refine load_iframe rfl _ rfl w.heap.size rfl _ s a n c KF.here ?_) | (with_reducible refine alloc_drum ?_ ?_ ?_; with_reducible rfl; with_reducible rfl))
  generalize ((w.alloc (.cells #[.int .i16 s, .slice a n c] 27)).alloc (.cells (dc fun _ => 0) 33)) = W0 at KB KH KL KF K0 HZ ⊢
  have hz0 := HZ.out
  clear HZ
  refine (startCode_any s a n c P R b m d L (-1) W0 hs hn HP.out HR.out KH.here hm KL.here).mono ?_
  rintro e w1 ⟨rfl, hb1⟩
  have hz1 : w.heap.size + 1 + 1 ≤ w1.heap.size := by have := hb1.size; omega
  replace KB := KB.on hb1
  replace KH := KH.on hb1
  replace KL := KL.on hb1
  replace KF := KF.on hb1
  replace K0 := K0.on hb1
  obtain ⟨x, hx⟩ : ∃ x, scode (okAll s n P R m L) m (-1) = x := ⟨_, rfl⟩
  rw [hx]
  have HX := Lib.hid hx
  by_cases h0 : x = 0
  · have hr := Lib.hid (shRes_yes (hx.trans h0))
    have hm0 := (scode_zero (hx.trans h0)).2.2
    clear hx hb1
    subst h0
    have hx := DrumsAt.get KL.here hm0
    obtain ⟨g, off, rfl, hg, hc⟩ := hx
    have HC0 := Lib.hid (hc 0 hm0); have HCC := Lib.hid hc; clear hc
    rw [Nat.zero_mul, Nat.add_zero] at HC0
    have KR := K0
    go_wp2_with (first | (with_reducible refine load_drum_mid rfl _ rfl g off rfl (L 0) HC0.out ?_) | (with_reducible refine copy_drum rfl rfl rfl _ _ rfl (L 0) rfl rfl ?_; intro W hb hz hgg; replace KB := KB.on hb; replace K0 := K0.on hb; have HG := Lib.hid hgg; have HZ1 := Lib.hid hz; have HBW := Lib.hid hb; clear hb hz hgg))
    have HW0 := Lib.hid KB.here
    have HR0 := Lib.hid K0.here
    clear KB K0 KR
    go_loopw [24] (fun i w' => Below w1.heap.size W w' ∧ ∃ k : Nat, k ≤ m ∧ 0 ≤ k ∧ i = .int .i64 k ∧ w1.heap.size < w'.heap.size ∧ DrumAt w' 33 w1.heap.size (interTo L k)) (fun i _ => m - (intOf i).toNat)
    case atStart => exact ⟨Below.refl _ _, 0, by omega, by omega, rfl, by have := HZ1.out; omega, by rw [interTo_zero]; exact HG.out⟩
    case round =>
      clear HG
      obtain ⟨hb, k, hk, hk1, rfl, hsz, hgg⟩ := hrel
      have HA := Lib.hid hgg; clear hgg
      have hb1 : Below w1.heap.size w1 wr := HBW.out.trans hb
      by_cases hlt : k < m
      · have HC := Lib.hid ((HCC.out k hlt).below hb1 hg)
        have hgr : g < wr.heap.size := by omega
        have hk' : (k : Int) < m := by omega
        go_wp2_with (first | (with_reducible refine load_drum_mid rfl _ rfl g (off + k * 96) rfl (L k) HC.out ?_) | (with_reducible refine copy_drum rfl rfl rfl _ _ rfl (L k) rfl rfl ?_; intro V hb2 hz2 hg2; have HG2 := Lib.hid hg2; have HB2 := Lib.hid hb2; have HZ2 := Lib.hid hz2; clear hz2 hg2 hb2) | (with_reducible refine load_drum rfl _ rfl wr.heap.size rfl _ (L k) HG2.out ?_))
        have hz2 := HZ2.out
        have HA2 := Lib.hid (HA.out.below HB2.out hsz)
        have HBV := Lib.hid (hb.trans (HB2.out.mono (by omega)))
        clear HA HG2 HB2
        go_loopw [29] (fun i w' => Below w1.heap.size W w' ∧ ∃ j : Nat, j ≤ 96 ∧ i = .int .i64 j ∧ w1.heap.size < w'.heap.size ∧ DrumAt w' 33 w1.heap.size (mixD (fun x => interTo L k x &&& L k x) (interTo L k) j)) (fun i _ => 96 - (intOf i).toNat)
        case atStart => exact ⟨HBV.out, 0, by omega, rfl, by omega, by rw [mixD_zero]; exact HA2.out⟩
        case round =>
          clear HBV HA2 hz2 HZ2
          obtain ⟨hb3, j, hj, rfl, hsz3, hg3⟩ := hrel
          have HG3 := Lib.hid hg3; clear hg3
          by_cases hlj : j < 96
          · have hix := index_drum (L k) j hlj
            have c0 := HG3.out.cell j hlj
            rw [mixD_at] at c0
            have hf := HG3.out.frozen j
            have hbit := bits_and_u32 (interTo_32 HL.out k j) (HL.out k j)
            go_wp2
            go_roundw
            case rel =>
              have h3 := HG3.out.setCell j (interTo L k j &&& L k j) hlj
              rw [mixD_upd (fun x => interTo L k x &&& L k x)] at h3
              exact ⟨hb3.setCell (by simp) _, j + 1, by omega, by go_num, by simp; omega, h3⟩
            case measure => simp [intOf]; omega
          · have hj96 : j = 96 := by omega
            subst hj96
            have h3 := HG3.out.congr (mixD_full _ _)
            rw [← interTo_succ] at h3
            have H3 := Lib.hid h3; clear h3
            go_wp2
            go_roundw
            case rel => exact ⟨hb3, k + 1, by omega, by omega, by go_num, hsz3, H3.out⟩
            case measure => simp [intOf]; omega
      · have hkm : k = m := by omega
        subst hkm
        have h0 := HR0.out.below hb (by omega)
        have h0' := DrumAt.setRow h0 (interTo L k)
        have h1 := HA.out
        have hbe := HW0.out.trans (hb.mono (by omega))
        go_wp2_with (first | (with_reducible refine load_drum rfl _ rfl w1.heap.size rfl _ (interTo L k) h1 ?_) | (with_reducible refine store_drum rfl _ _ rfl (w.heap.size + 1) (interTo L k) rfl rfl _ _ h0 ?_))
        refine bodyPost_ret (results_drum2 rfl _ _ (w.heap.size + 1) _ (interTo L k) (.int .i64 0) rfl h0' rfl) rfl ⟨by rw [hr.out, HX.out], below_setRow hbe (by omega) _⟩
  · have hr := Lib.hid (shRes_no (s := s) (n := n) (P := P) (R := R) (m := m) (L := L) (by rw [hx]; exact h0))
    clear hx hb1
    have h1 := K0.here
    have h1' := DrumAt.setRow h1 (fun _ => 0)
    go_wp2_with (first | (with_reducible refine build_drum rfl rfl ?_) | (with_reducible refine store_drum rfl _ _ rfl (w.heap.size + 1) (fun _ => 0) rfl rfl _ _ h1 ?_))
    refine bodyPost_ret (results_drum2 rfl _ _ (w.heap.size + 1) _ (fun _ => 0) (.int .i64 x) rfl h1' rfl) rfl ⟨by rw [hr.out, HX.out], below_setRow KB.here (by omega) _⟩
set_option maxRecDepth 100000 in
theorem specSharedPins_any (s : Int) (a : Option Addr) (n c : Nat) (P R : Nat → Int) (b : Option Addr) (m d : Nat) (L : Nat → Nat → Nat) (w : World) (hs : -32768 ≤ s ∧ s ≤ 32767) (hn : n ≤ 1048576) (hP : I8 P) (hR : I8 R) (hh : HamAt w a n P R) (hm : m ≤ 1048576) (hL : L32 L) (hl : DrumsAt w b m L) :
    Calls Try.prog 19 #[.agg #[.int .i16 s, .slice a n c], .slice b m d] w fun e w' => e = .returned (.tuple #[.agg (dc (shRes s n P R m L)), .int .i64 (scode (okAll s n P R m L) m (-1))]) ∧ Below w.heap.size w w' := by
  have HP := Lib.hid hP; have HR := Lib.hid hR; have HL := Lib.hid hL
  clear hP hR hL
  have KB := Kp.base w
  have KH := kp_ham hh; have KL := kp_drums hl; clear hh hl
  replace KB := KB.alloc (.cells #[.int .i16 s, .slice a n c] 27)
  replace KH := KH.alloc (.cells #[.int .i16 s, .slice a n c] 27)
  replace KL := KL.alloc (.cells #[.int .i16 s, .slice a n c] 27)
  have KF := kp_new1 w #[.int .i16 s, .slice a n c] 27 (g := w.heap.size) (by simp)
  replace KB := KB.alloc (.cells (dc fun _ => 0) 33)
  replace KH := KH.alloc (.cells (dc fun _ => 0) 33)
  replace KL := KL.alloc (.cells (dc fun _ => 0) 33)
  replace KF := KF.alloc (.cells (dc fun _ => 0) 33)
  have K0 := kp_newd (w.alloc (.cells #[.int .i16 s, .slice a n c] 27)) (fun _ => 0) 33 (g := w.heap.size + 1) (by simp)
  have HZ := Lib.hid (show ((w.alloc (.cells #[.int .i16 s, .slice a n c] 27)).alloc (.cells (dc fun _ => 0) 33)).heap.size = w.heap.size + 1 + 1 by simp)
  go_enter Try.func19, Try.ntmps19
  go_wp2_with (first | (with_reducible refine load_iframe rfl _ rfl w.heap.size rfl _ s a n c KF.here ?_) | (with_reducible refine alloc_drum ?_ ?_ ?_; with_reducible rfl; with_reducible rfl))
  generalize ((w.alloc (.cells #[.int .i16 s, .slice a n c] 27)).alloc (.cells (dc fun _ => 0) 33)) = W0 at KB KH KL KF K0 HZ ⊢
  have hz0 := HZ.out
  clear HZ
  refine (l05First_any w.heap.size s a n c P R b m d L (-1) W0 hs hn HP.out HR.out KF.here KH.here hm KL.here).mono ?_
  rintro e w1 ⟨rfl, hb1⟩
  have hz1 : w.heap.size + 1 + 1 ≤ w1.heap.size := by have := hb1.size; omega
  replace KB := KB.on hb1
  replace KH := KH.on hb1
  replace KL := KL.on hb1
  replace KF := KF.on hb1
  replace K0 := K0.on hb1
  obtain ⟨x, hx⟩ : ∃ x, scode (okAll s n P R m L) m (-1) = x := ⟨_, rfl⟩
  rw [hx]
  have HX := Lib.hid hx
  by_cases h0 : x = 0
  · have hr := Lib.hid (shRes_yes (hx.trans h0))
    have hm0 := (scode_zero (hx.trans h0)).2.2
    clear hx hb1
    subst h0
    have hx := DrumsAt.get KL.here hm0
    obtain ⟨g, off, rfl, hg, hc⟩ := hx
    have HC0 := Lib.hid (hc 0 hm0); have HCC := Lib.hid hc; clear hc
    rw [Nat.zero_mul, Nat.add_zero] at HC0
    have KR := K0
    go_wp2_with (first | (with_reducible refine load_drum_mid rfl _ rfl g off rfl (L 0) HC0.out ?_) | (with_reducible refine copy_drum rfl rfl rfl _ _ rfl (L 0) rfl rfl ?_; intro W hb hz hgg; replace KB := KB.on hb; replace K0 := K0.on hb; have HG := Lib.hid hgg; have HZ1 := Lib.hid hz; have HBW := Lib.hid hb; clear hb hz hgg))
    have HW0 := Lib.hid KB.here
    have HR0 := Lib.hid K0.here
    clear KB K0 KR
    go_loopw [8] (fun i w' => Below w1.heap.size W w' ∧ ∃ k : Nat, k ≤ m ∧ 1 ≤ k ∧ i = .int .i64 k ∧ w1.heap.size < w'.heap.size ∧ DrumAt w' 33 w1.heap.size (interTo L k)) (fun i _ => m - (intOf i).toNat)
    case atStart => exact ⟨Below.refl _ _, 1, by omega, by omega, rfl, by have := HZ1.out; omega, by rw [interTo_one]; exact HG.out⟩
    case round =>
      clear HG
      obtain ⟨hb, k, hk, hk1, rfl, hsz, hgg⟩ := hrel
      have HA := Lib.hid hgg; clear hgg
      have hb1 : Below w1.heap.size w1 wr := HBW.out.trans hb
      by_cases hlt : k < m
      · have HC := Lib.hid ((HCC.out k hlt).below hb1 hg)
        have hgr : g < wr.heap.size := by omega
        have hk' : (k : Int) < m := by omega
        have HBV := Lib.hid hb; clear hb hb1
        go_wp2
        go_loopw [9] (fun i w' => Below w1.heap.size W w' ∧ ∃ j : Nat, j ≤ 96 ∧ i = .int .i64 j ∧ w1.heap.size < w'.heap.size ∧ DrumAt w' 33 w1.heap.size (mixD (fun x => interTo L k x &&& L k x) (interTo L k) j)) (fun i _ => 96 - (intOf i).toNat)
        case atStart => exact ⟨HBV.out, 0, by omega, rfl, by omega, by rw [mixD_zero]; exact HA.out⟩
        case round =>
          clear HBV HA HC
          obtain ⟨hb3, j, hj, rfl, hsz3, hg3⟩ := hrel
          have HG3 := Lib.hid hg3; clear hg3
          by_cases hlj : j < 96
          · have c0 := HG3.out.cell j hlj
            rw [mixD_at] at c0
            have hf := HG3.out.frozen j
            have c1 := ((HCC.out k hlt).below (HBW.out.trans hb3) hg) j hlj
            have hbit := bits_and_u32 (interTo_32 HL.out k j) (HL.out k j)
            have hj' : (j : Int) < 96 := by omega
            go_wp2
            go_still_tail 12, (by kernel_rfl)
            go_wp2
            go_roundw
            case rel =>
              have h3 := HG3.out.setCell j (interTo L k j &&& L k j) hlj
              rw [mixD_upd (fun x => interTo L k x &&& L k x)] at h3
              exact ⟨(hb3.setCell (by simp) _).drew, j + 1, by omega, by go_num, by simp; omega, h3⟩
            case measure => simp [intOf]; omega
          · have hj96 : j = 96 := by omega
            subst hj96
            have h3 := HG3.out.congr (mixD_full _ _)
            rw [← interTo_succ] at h3
            have H3 := Lib.hid h3; clear h3
            go_wp2
            go_roundw
            case rel => exact ⟨hb3, k + 1, by omega, by omega, by go_num, hsz3, H3.out⟩
            case measure => simp [intOf]; omega
      · have hkm : k = m := by omega
        subst hkm
        have h0 := HR0.out.below hb (by omega)
        have h0' := DrumAt.setRow h0 (interTo L k)
        have h1 := HA.out
        have hbe := HW0.out.trans (hb.mono (by omega))
        go_wp2_with (first | (with_reducible refine load_drum rfl _ rfl w1.heap.size rfl _ (interTo L k) h1 ?_) | (with_reducible refine store_drum rfl _ _ rfl (w.heap.size + 1) (interTo L k) rfl rfl _ _ h0 ?_))
        refine bodyPost_ret (results_drum2 rfl _ _ (w.heap.size + 1) _ (interTo L k) (.int .i64 0) rfl h0' rfl) rfl ⟨by rw [hr.out, HX.out], below_setRow hbe (by omega) _⟩
  · have hr := Lib.hid (shRes_no (s := s) (n := n) (P := P) (R := R) (m := m) (L := L) (by rw [hx]; exact h0))
    clear hx hb1
    have h1 := K0.here
    have h1' := DrumAt.setRow h1 (fun _ => 0)
    go_wp2_with (first | (with_reducible refine build_drum rfl rfl ?_) | (with_reducible refine store_drum rfl _ _ rfl (w.heap.size + 1) (fun _ => 0) rfl rfl _ _ h1 ?_))
    refine bodyPost_ret (results_drum2 rfl _ _ (w.heap.size + 1) _ (fun _ => 0) (.int .i64 x) rfl h1' rfl) rfl ⟨by rw [hr.out, HX.out], below_setRow KB.here (by omega) _⟩
end Go.Proofs.Ytkefjgbcpoggiaa
