/- ChangeCost by the reference and by the program: both hand back one number and one code. No conditions. -/
import Derived.Test.YtkefjgbcpoggiaaDrum
import Derived.Test.YtkefjgbcpoggiaaCost
import Derived.Outline
namespace Go.Proofs.Ytkefjgbcpoggiaa
open Go.RowKit
set_option linter.unusedVariables false
set_option linter.unusedSimpArgs false

theorem l02Moves_any (ga gb : Nat) (D E : Nat → Nat) (hD : D32 D) (hE : D32 E) (w : World) (h0 : DrumCells w ga 0 D) (h1 : DrumCells w gb 0 E) :
    Calls Try.prog 222 #[.pointer (some ⟨ga, 0, none⟩), .pointer (some ⟨gb, 0, none⟩)] w fun e w' => e = .returned (.int .i64 (cnt (lessD E D))) ∧ ∃ q, w' = w.drewN q := by
  have H0 := Lib.hid h0; have H1 := Lib.hid h1; clear h0 h1
  go_enter Try.func222, Try.ntmps222
  go_wp2
  go_loopw [5, 6] (fun t i w' => (∃ q, w' = w.drewN q) ∧ ∃ k : Nat, k ≤ 96 ∧ i = .int .i64 k ∧ t = .int .i64 (sumTo (fun k => popc (lessD E D k)) k)) (fun _ i _ => 96 - (intOf i).toNat)
  case atStart => exact ⟨⟨0, rfl⟩, 0, by omega, rfl, by rw [sumTo_zero]; rfl⟩
  case round =>
    obtain ⟨hq, k, hk, rfl, rfl⟩ := hrel
    have HQ := Lib.hid hq; clear hq
    have hs := sumTo_le (fun k => popc (lessD E D k)) 32 (fun k => popc_le _) k
    have hp := popc_le (lessD E D k)
    have hl32 : lessD E D k < 4294967296 := lessD_32 hE k
    by_cases hlt : k < 96
    · have c0 : wr.cell? ⟨ga, k, none⟩ = some (.int .u32 (D k)) := by
        obtain ⟨q, rfl⟩ := HQ.out
        have := H0.out k hlt
        rwa [Nat.zero_add] at this
      have c1 : wr.cell? ⟨gb, k, none⟩ = some (.int .u32 (E k)) := by
        obtain ⟨q, rfl⟩ := HQ.out
        have := H1.out k hlt
        rwa [Nat.zero_add] at this
      have hbit : bits .andNot .u32 (E k : Int) (D k : Int) = ((lessD E D k : Nat) : Int) := bits_andNot_u32 (hE k) (hD k)
      have hsum := i64_id (x := (sumTo (fun k => popc (lessD E D k)) k : Int) + (popc (lessD E D k) : Int)) (by omega)
      go_wp2
      go_quiet ((go_at_call 229; exact q_same (l02Count_any (lessD E D k) hl32 _)))
      clear hsum
      go_wp2
      go_roundw
      case rel =>
        obtain ⟨q, rfl⟩ := HQ.out
        exact ⟨⟨q + nq, by first | rfl | rw [World.drewN_drewN]⟩, k + 1, by omega, by go_num, by rw [sumTo_succ]; go_num⟩
      case measure => simp [intOf]; omega
    · go_wp2
      go_ret
      exact ⟨ret_int (by rw [show k = 96 by omega, cnt_def]), HQ.out⟩
theorem l05Cost_any (ga gb : Nat) (D E : Nat → Nat) (hD : D32 D) (hE : D32 E) (w : World) (h0 : DrumCells w ga 0 D) (h1 : DrumCells w gb 0 E) :
    Calls Try.prog 196 #[.pointer (some ⟨ga, 0, none⟩), .pointer (some ⟨gb, 0, none⟩)] w fun e w' => e = .returned (.int .i64 (cnt (lessD D E) + cnt (lessD E D) : Nat)) ∧ ∃ q, w' = w.drewN q := by
  have c1 := cnt_le (lessD D E)
  have c2 := cnt_le (lessD E D)
  have H0 := Lib.hid h0; have H1 := Lib.hid h1; clear h0 h1
  go_enter Try.func196, Try.ntmps196
  go_wp2_with fail
  refine (l02Moves_any ga gb D E hD hE _ H0.out H1.out).mono ?_
  rintro e w' ⟨rfl, q, rfl⟩
  go_wp2_with fail
  refine (l02Moves_any gb ga E D hE hD (w.drewN q) H1.out H0.out).mono ?_
  rintro e w' ⟨rfl, q', rfl⟩
  go_wp2
  go_ret
  exact ⟨ret_int (by omega), q + q', by first | rfl | rw [World.drewN_drewN] | (rw [← World.drewN_drewN])⟩
theorem l05Both_any (gf ga gb : Nat) (s : Int) (a : Option Addr) (n c : Nat) (P R : Nat → Int) (L : Nat → Nat → Nat) (w : World) (hn : n ≤ 1000000000) (hs : -32768 ≤ s ∧ s ≤ 32767) (hP : I8 P) (hR : I8 R)
    (hgf : gf < w.heap.size) (h0 : w.cell? ⟨gf, 0, none⟩ = some (.int .i16 s)) (h1 : w.cell? ⟨gf, 1, none⟩ = some (.slice a n c)) (hh : HamAt w a n P R)
    (hga : ga < w.heap.size) (hgb : gb < w.heap.size) (hda : DrumCells w ga 0 (L 0)) (hdb : DrumCells w gb 0 (L 1)) :
    Calls Try.prog 105 #[.pointer (some ⟨gf, 0, none⟩), .pointer (some ⟨ga, 0, none⟩), .pointer (some ⟨gb, 0, none⟩)] w fun e w' => e = .returned (.int .i64 (unl (okAll s n P R 2 L) 1)) ∧ Below w.heap.size w w' := by
  have HP := Lib.hid hP; have HR := Lib.hid hR; have HH := Lib.hid hh; have HA := Lib.hid hda; have HB := Lib.hid hdb; have F0 := Lib.hid h0; have F1 := Lib.hid h1
  clear hP hR hh hda hdb h0 h1
  have hno : ∀ i, i < 2 → vDrum s n (L i) = false → okAll s n P R 2 L = false := fun i hi h => by
    rw [← Bool.not_eq_true, okAll_iff]
    rintro ⟨_, H⟩
    rw [H i hi] at h
    exact absurd h (by simp)
  have HNO := Lib.hid hno; clear hno
  cases hv : vFrame s n P R
  · go_enter Try.func105, Try.ntmps105
    go_wp2_with (go_at_call 151; refine (l02Frame_any gf s a n c P R _ (by omega) hs HP.out HR.out hgf F0.out F1.out HH.out).mono ?_; rintro e w1 ⟨rfl, hb1⟩)
    go_ret
    have : okAll s n P R 2 L = false := by
      rw [← Bool.not_eq_true, okAll_iff]
      rintro ⟨H, _⟩
      rw [hv] at H
      exact absurd H (by simp)
    exact ⟨ret_int (by rw [this, unl_false]), hb1⟩
  · obtain ⟨hS, hN, _⟩ := vFrame_iff.1 hv
    cases hd0 : vDrum s n (L 0)
    · go_enter Try.func105, Try.ntmps105
      go_wp2_with fail
      refine (l02Frame_any gf s a n c P R _ (by omega) hs HP.out HR.out hgf F0.out F1.out HH.out).mono ?_
      rintro e w1 ⟨rfl, hb1⟩
      go_wp2_with fail
      refine (l02Drum_any gf ga s a n c (L 0) _ hN.2 hS.1 hS.2 ((hb1.cell hgf).trans F0.out) ((hb1.cell hgf).trans F1.out) (HA.out.below hb1 hga)).mono ?_
      rintro e w2 ⟨rfl, q, rfl⟩
      go_wp2
      go_ret
      exact ⟨ret_int (by rw [HNO.out 0 (by omega) hd0, unl_false]), below_drewN hb1 _⟩
    · cases hd1 : vDrum s n (L 1)
      all_goals
        go_enter Try.func105, Try.ntmps105
        go_wp2_with fail
        refine (l02Frame_any gf s a n c P R _ (by omega) hs HP.out HR.out hgf F0.out F1.out HH.out).mono ?_
        rintro e w1 ⟨rfl, hb1⟩
        go_wp2_with fail
        refine (l02Drum_any gf ga s a n c (L 0) _ hN.2 hS.1 hS.2 ((hb1.cell hgf).trans F0.out) ((hb1.cell hgf).trans F1.out) (HA.out.below hb1 hga)).mono ?_
        rintro e w2 ⟨rfl, q, rfl⟩
        go_wp2_with fail
        refine (l02Drum_any gf gb s a n c (L 1) (w1.drewN q) hN.2 hS.1 hS.2 ((hb1.cell hgf).trans F0.out) ((hb1.cell hgf).trans F1.out) (HB.out.below (below_drewN hb1 q) hgb)).mono ?_
        rintro e w3 ⟨rfl, q', rfl⟩
        go_wp2
        go_ret
      · exact ⟨ret_int (by rw [HNO.out 1 (by omega) hd1, unl_false]), below_drewN hb1 _⟩
      · refine ⟨ret_int ?_, below_drewN hb1 _⟩
        rw [okAll_iff.2 ⟨hv, fun i hi => by rcases (by omega : i = 0 ∨ i = 1) with rfl | rfl <;> assumption⟩, unl_true]
end Go.Proofs.Ytkefjgbcpoggiaa
