/- ChangeCost by the reference and by the program: both hand back one number and one code. No conditions. -/
import Derived.Test.YtofmhpbilajjaaaDrum
import Derived.Test.YtofmhpbilajjaaaCost
import Derived.Outline
namespace Go.Proofs.Ytofmhpbilajjaaa
open Go.RowKit
set_option linter.unusedVariables false
set_option linter.unusedSimpArgs false

theorem l02Moves_any (ga gb : Nat) (D E : Nat → Nat) (hD : D32 D) (hE : D32 E) (w : World) (h0 : DrumCells w ga 0 D) (h1 : DrumCells w gb 0 E) :
    Calls Try.prog 124 #[.pointer (some ⟨ga, 0, none⟩), .pointer (some ⟨gb, 0, none⟩)] w fun e w' => e = .returned (.int .i64 (cnt (lessD E D))) ∧ ∃ q, w' = w.drewN q := by
  have H0 := Lib.hid h0; have H1 := Lib.hid h1; clear h0 h1
  go_enter Try.func124, Try.ntmps124
  go_wp2
  go_loopw [5, 6] (fun t i w' => (∃ q, w' = w.drewN q) ∧ ∃ k : Nat, k ≤ 96 ∧ i = .int .i64 k ∧ t = .int .i64 (sumTo (fun k => popc (lessD E D k)) k)) (fun _ i _ => 96 - (intOf i).toNat)
  case atStart => exact ⟨⟨0, rfl⟩, 0, by omega, rfl, by rw [sumTo_zero]; rfl⟩
  case round =>
    obtain ⟨hq, k, hk, rfl, rfl⟩ := hrel
    have HQ := Lib.hid hq; clear hq
    have hs := sumTo_le (fun k => popc (lessD E D k)) 32 (fun k => popc_le _) k
    have hp := popc_le (lessD E D k)
    have hl32 : lessD E D k < 4294967296 := lessD_32 hE k
    by_cases hlt : k < 96
    · have c0 : wr.cell? ⟨ga, k, none⟩ = some (.int .u32 (D k)) := by
        obtain ⟨q, rfl⟩ := HQ.out
        have := H0.out k hlt
        rwa [Nat.zero_add] at this
      have c1 : wr.cell? ⟨gb, k, none⟩ = some (.int .u32 (E k)) := by
        obtain ⟨q, rfl⟩ := HQ.out
        have := H1.out k hlt
        rwa [Nat.zero_add] at this
      have hbit : bits .andNot .u32 (E k : Int) (D k : Int) = ((lessD E D k : Nat) : Int) := bits_andNot_u32 (hE k) (hD k)
      have hsum := i64_id (x := (sumTo (fun k => popc (lessD E D k)) k : Int) + (popc (lessD E D k) : Int)) (by omega)
      go_wp2
      go_quiet ((go_at_call 148; exact q_same (l02Count_any (lessD E D k) hl32 _)))
      clear hsum
      go_wp2
      go_roundw
      case rel =>
        obtain ⟨q, rfl⟩ := HQ.out
        exact ⟨⟨q + nq, by first | rfl | rw [World.drewN_drewN]⟩, k + 1, by omega, by go_num, by rw [sumTo_succ]; go_num⟩
      case measure => simp [intOf]; omega
    · go_wp2
      go_ret
      exact ⟨ret_int (by rw [show k = 96 by omega, cnt_def]), HQ.out⟩
theorem l05Cost_any (ga gb : Nat) (D E : Nat → Nat) (hD : D32 D) (hE : D32 E) (w : World) (h0 : DrumCells w ga 0 D) (h1 : DrumCells w gb 0 E) :
    Calls Try.prog 85 #[.pointer (some ⟨ga, 0, none⟩), .pointer (some ⟨gb, 0, none⟩)] w fun e w' => e = .returned (.int .i64 (cnt (lessD D E) + cnt (lessD E D) : Nat)) ∧ ∃ q, w' = w.drewN q := by
  have c1 := cnt_le (lessD D E)
  have c2 := cnt_le (lessD E D)
  have H0 := Lib.hid h0; have H1 := Lib.hid h1; clear h0 h1
  go_enter Try.func85, Try.ntmps85
  go_wp2_with fail
  refine (l02Moves_any ga gb D E hD hE _ H0.out H1.out).mono ?_
  rintro e w' ⟨rfl, q, rfl⟩
  go_wp2_with fail
  refine (l02Moves_any gb ga E D hE hD (w.drewN q) H1.out H0.out).mono ?_
  rintro e w' ⟨rfl, q', rfl⟩
  go_wp2
  go_ret
  exact ⟨ret_int (by omega), q + q', by first | rfl | rw [World.drewN_drewN] | (rw [← World.drewN_drewN])⟩
theorem l05Both_any (gf ga gb : Nat) (s : Int) (a : Option Addr) (n c : Nat) (P R : Nat → Int) (L : Nat → Nat → Nat) (w : World) (hn : n ≤ 1000000000) (hs : -32768 ≤ s ∧ s ≤ 32767) (hP : I8 P) (hR : I8 R)
    (hgf : gf < w.heap.size) (h0 : w.cell? ⟨gf, 0, none⟩ = some (.int .i16 s)) (h1 : w.cell? ⟨gf, 1, none⟩ = some (.slice a n c)) (hh : HamAt w a n P R)
    (hga : ga < w.heap.size) (hgb : gb < w.heap.size) (hda : DrumCells w ga 0 (L 0)) (hdb : DrumCells w gb 0 (L 1)) :
    Calls Try.prog 84 #[.pointer (some ⟨gf, 0, none⟩), .pointer (some ⟨ga, 0, none⟩), .pointer (some ⟨gb, 0, none⟩)] w fun e w' => e = .returned (.int .i64 (unl (okAll s n P R 2 L) 1)) ∧ Below w.heap.size w w' := by
  have HP := Lib.hid hP; have HR := Lib.hid hR; have HH := Lib.hid hh; have HA := Lib.hid hda; have HB := Lib.hid hdb; have F0 := Lib.hid h0; have F1 := Lib.hid h1
  clear hP hR hh hda hdb h0 h1
  have hno : ∀ i, i < 2 → vDrum s n (L i) = false → okAll s n P R 2 L = false := fun i hi h => by
    rw [← Bool.not_eq_true, okAll_iff]
    rintro ⟨_, H⟩
    rw [H i hi] at h
    exact absurd h (by simp)
  have HNO := Lib.hid hno; clear hno
  cases hv : vFrame s n P R
  · go_enter Try.func84, Try.ntmps84
    go_wp2_with (go_at_call 122; refine (l02Frame_any gf s a n c P R _ (by omega) hs HP.out HR.out hgf F0.out F1.out HH.out).mono ?_; rintro e w1 ⟨rfl, hb1⟩)
    go_ret
    have : okAll s n P R 2 L = false := by
      rw [← Bool.not_eq_true, okAll_iff]
      rintro ⟨H, _⟩
      rw [hv] at H
      exact absurd H (by simp)
    exact ⟨ret_int (by rw [this, unl_false]), hb1⟩
  · obtain ⟨hS, hN, _⟩ := vFrame_iff.1 hv
    cases hd0 : vDrum s n (L 0)
    · go_enter Try.func84, Try.ntmps84
      go_wp2_with fail
      refine (l02Frame_any gf s a n c P R _ (by omega) hs HP.out HR.out hgf F0.out F1.out HH.out).mono ?_
      rintro e w1 ⟨rfl, hb1⟩
      go_wp2_with fail
      refine (l02Drum_any gf ga s a n c (L 0) _ hN.2 hS.1 hS.2 ((hb1.cell hgf).trans F0.out) ((hb1.cell hgf).trans F1.out) (HA.out.below hb1 hga)).mono ?_
      rintro e w2 ⟨rfl, q, rfl⟩
      go_wp2
      go_ret
      exact ⟨ret_int (by rw [HNO.out 0 (by omega) hd0, unl_false]), below_drewN hb1 _⟩
    · cases hd1 : vDrum s n (L 1)
      all_goals
        go_enter Try.func84, Try.ntmps84
        go_wp2_with fail
        refine (l02Frame_any gf s a n c P R _ (by omega) hs HP.out HR.out hgf F0.out F1.out HH.out).mono ?_
        rintro e w1 ⟨rfl, hb1⟩
        go_wp2_with fail
        refine (l02Drum_any gf ga s a n c (L 0) _ hN.2 hS.1 hS.2 ((hb1.cell hgf).trans F0.out) ((hb1.cell hgf).trans F1.out) (HA.out.below hb1 hga)).mono ?_
        rintro e w2 ⟨rfl, q, rfl⟩
        go_wp2_with fail
        refine (l02Drum_any gf gb s a n c (L 1) (w1.drewN q) hN.2 hS.1 hS.2 ((hb1.cell hgf).trans F0.out) ((hb1.cell hgf).trans F1.out) (HB.out.below (below_drewN hb1 q) hgb)).mono ?_
        rintro e w3 ⟨rfl, q', rfl⟩
        go_wp2
        go_ret
      · exact ⟨ret_int (by rw [HNO.out 1 (by omega) hd1, unl_false]), below_drewN hb1 _⟩
      · refine ⟨ret_int ?_, below_drewN hb1 _⟩
        rw [okAll_iff.2 ⟨hv, fun i hi => by rcases (by omega : i = 0 ∨ i = 1) with rfl | rfl <;> assumption⟩, unl_true]
theorem specChangeCost_any (s : Int) (a : Option Addr) (n c : Nat) (P R : Nat → Int) (D E : Nat → Nat) (w : World) (hn : n ≤ 1000000000) (hs : -32768 ≤ s ∧ s ≤ 32767) (hP : I8 P) (hR : I8 R) (hD : D32 D) (hE : D32 E) (hh : HamAt w a n P R) (L : Nat → Nat → Nat) (l0 : L 0 = D) (l1 : L 1 = E) :
    Calls Try.prog 32 #[.agg #[.int .i16 s, .slice a n c], .agg (dc D), .agg (dc E)] w fun e w' =>
      e = .returned (.tuple #[.int .i64 (sel (okAll s n P R 2 L) (cnt (lessD D E) + cnt (lessD E D) : Nat)), .int .i64 (unl (okAll s n P R 2 L) 1)]) ∧ Below w.heap.size w w' := by
  have HP := Lib.hid hP; have HR := Lib.hid hR; have HH := Lib.hid hh
  clear hP hR hh
  have hg1 := (DrumAt.new2 w (.cells #[.int .i16 s, .slice a n c] 61) 63 D).alloc (.cells (dc E) 63)
  have hg2 := DrumAt.new3 w (.cells #[.int .i16 s, .slice a n c] 61) (.cells (dc D) 63) 63 E
  have hb0 : Below w.heap.size w (((w.alloc (.cells #[.int .i16 s, .slice a n c] 61)).alloc (.cells (dc D) 63)).alloc (.cells (dc E) 63)) := (((Below.refl _ _).alloc (Nat.le_refl _) _).alloc (by simp) _).alloc (by simp; omega) _
  have hf := ((FrameAt.new w s a n c).alloc (.cells (dc D) 63)).alloc (.cells (dc E) 63)
  have hz : ((((w.alloc (.cells #[.int .i16 s, .slice a n c] 61)).alloc (.cells (dc D) 63)).alloc (.cells (dc E) 63))).heap.size = w.heap.size + 1 + 1 + 1 := by simp
  have HG1 := Lib.hid hg1; have HG2 := Lib.hid hg2; have HB0 := Lib.hid hb0; have HF := Lib.hid hf; have HZ := Lib.hid hz
  clear hg1 hg2 hb0 hf hz
  cases hv : okAll s n P R 2 L
  all_goals
    go_enter Try.func32, Try.ntmps32
    go_wp2_with fail
    generalize (((w.alloc (.cells #[.int .i16 s, .slice a n c] 61)).alloc (.cells (dc D) 63)).alloc (.cells (dc E) 63)) = W at HG1 HG2 HB0 HF HZ ⊢
    have hz := HZ.out
    refine (l05Both_any w.heap.size (w.heap.size + 1) (w.heap.size + 1 + 1) s a n c P R L W hn hs HP.out HR.out (by omega) HF.out.c0 HF.out.c1 (HH.out.below HB0.out) (by omega) (by omega) (by rw [l0]; exact HG1.out.cells) (by rw [l1]; exact HG2.out.cells)).mono ?_
    rintro e w1 ⟨rfl, hb1⟩
    rw [hv]
    first | rw [unl_false] | rw [unl_true]
    have hb2 := HB0.out.trans (hb1.mono (by omega))
  · go_wp2
    go_ret2
    exact ⟨by simp [sel_false, unl_false], hb2⟩
  · go_wp2_with fail
    refine (l05Cost_any (w.heap.size + 1) (w.heap.size + 1 + 1) D E hD hE w1 (HG1.out.cells.below hb1 (by omega)) (HG2.out.cells.below hb1 (by omega))).mono ?_
    rintro e w2 ⟨rfl, q, rfl⟩
    go_wp2
    go_ret2
    exact ⟨by simp [sel_true, unl_true], below_drewN hb2 _⟩
theorem implChangeCost_any (s : Int) (a : Option Addr) (n c : Nat) (P R : Nat → Int) (D E : Nat → Nat) (w : World) (hn : n ≤ 1000000000) (hs : -32768 ≤ s ∧ s ≤ 32767) (hP : I8 P) (hR : I8 R) (hD : D32 D) (hE : D32 E) (hh : HamAt w a n P R) (L : Nat → Nat → Nat) (l0 : L 0 = D) (l1 : L 1 = E) :
    Calls Try.prog 35 #[.agg #[.int .i16 s, .slice a n c], .agg (dc D), .agg (dc E)] w fun e w' =>
      e = .returned (.tuple #[.int .i64 (sel (okAll s n P R 2 L) (cnt (lessD D E) + cnt (lessD E D) : Nat)), .int .i64 (unl (okAll s n P R 2 L) 1)]) ∧ Below w.heap.size w w' := by
  have HP := Lib.hid hP; have HR := Lib.hid hR; have HH := Lib.hid hh
  clear hP hR hh
  have hg1 := (DrumAt.new2 w (.cells #[.int .i16 s, .slice a n c] 61) 63 D).alloc (.cells (dc E) 63)
  have hg2 := DrumAt.new3 w (.cells #[.int .i16 s, .slice a n c] 61) (.cells (dc D) 63) 63 E
  have hb0 : Below w.heap.size w (((w.alloc (.cells #[.int .i16 s, .slice a n c] 61)).alloc (.cells (dc D) 63)).alloc (.cells (dc E) 63)) := (((Below.refl _ _).alloc (Nat.le_refl _) _).alloc (by simp) _).alloc (by simp; omega) _
  have hf := ((FrameAt.new w s a n c).alloc (.cells (dc D) 63)).alloc (.cells (dc E) 63)
  have hz : ((((w.alloc (.cells #[.int .i16 s, .slice a n c] 61)).alloc (.cells (dc D) 63)).alloc (.cells (dc E) 63))).heap.size = w.heap.size + 1 + 1 + 1 := by simp
  have HG1 := Lib.hid hg1; have HG2 := Lib.hid hg2; have HB0 := Lib.hid hb0; have HF := Lib.hid hf; have HZ := Lib.hid hz
  clear hg1 hg2 hb0 hf hz
  have hl := DrumsAt.two (((w.alloc (.cells #[.int .i16 s, .slice a n c] 61)).alloc (.cells (dc D) 63)).alloc (.cells (dc E) 63)) D E L l0 l1
  have hbl : Below ((((w.alloc (.cells #[.int .i16 s, .slice a n c] 61)).alloc (.cells (dc D) 63)).alloc (.cells (dc E) 63))).heap.size (((w.alloc (.cells #[.int .i16 s, .slice a n c] 61)).alloc (.cells (dc D) 63)).alloc (.cells (dc E) 63)) (((((w.alloc (.cells #[.int .i16 s, .slice a n c] 61)).alloc (.cells (dc D) 63)).alloc (.cells (dc E) 63))).alloc (.cells (dc D ++ dc E) 63)) := (Below.refl _ _).alloc (Nat.le_refl _) _
  have HL := Lib.hid hl; have HBL := Lib.hid hbl
  clear hl hbl
  cases hv : okAll s n P R 2 L
  all_goals
    go_enter Try.func35, Try.ntmps35
    go_wp2_with (first | (with_reducible refine load_drum rfl _ rfl (w.heap.size + 1) rfl _ D HG1.out ?_) | (with_reducible refine load_drum rfl _ rfl (w.heap.size + 1 + 1) rfl _ E HG2.out ?_) | (with_reducible refine build2 rfl _ _ rfl D E rfl rfl ?_))
    generalize (((w.alloc (.cells #[.int .i16 s, .slice a n c] 61)).alloc (.cells (dc D) 63)).alloc (.cells (dc E) 63)) = W at HG1 HG2 HB0 HF HZ HL HBL ⊢
    have hz := HZ.out
    have hl := HL.out
    rw [hz] at hl
    refine (drumCode_any s a n c P R _ 2 2 L _ hn (by omega) hs HP.out HR.out ((HH.out.below HB0.out).below HBL.out) hl).mono ?_
    rintro e w1 ⟨rfl, hb1⟩
    rw [hv]
    first | rw [unl_false] | rw [unl_true]
    have hb2 : Below W.heap.size W w1 := HBL.out.trans (hb1.mono HBL.out.size)
    have HZ2 := Lib.hid hz
    clear hz hl
  · go_wp2
    go_ret2
    exact ⟨by simp [sel_false, unl_false], HB0.out.trans (hb2.mono (by have := HZ2.out; omega))⟩
  · have hg1 := Lib.hid (HG1.out.below hb2 (by have := HZ2.out; omega))
    have hg2 := Lib.hid (HG2.out.below hb2 (by have := HZ2.out; omega))
    go_wp2_with (first | (with_reducible refine load_drum rfl _ rfl (w.heap.size + 1) rfl _ D hg1.out ?_) | (with_reducible refine load_drum rfl _ rfl (w.heap.size + 1 + 1) rfl _ E hg2.out ?_) | (go_at_call 88; refine (cost_any D E hD hE _).mono ?_; rintro e w2 ⟨rfl, hb3⟩))
    go_ret2
    exact ⟨by simp [sel_true, unl_true], (HB0.out.trans (hb2.mono (by have := HZ2.out; omega))).trans (hb3.mono (by have := HZ2.out; have := hb2.size; omega))⟩
end Go.Proofs.Ytofmhpbilajjaaa
