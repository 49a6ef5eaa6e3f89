/- ChangeCost by the reference and by the program: both hand back one number and one code. No conditions. -/
import Derived.Test.YtlcfjeofphncgaaDrum
import Derived.Test.YtlcfjeofphncgaaCost
import Derived.Outline
namespace Go.Proofs.Ytlcfjeofphncgaa
open Go.RowKit
set_option linter.unusedVariables false
set_option linter.unusedSimpArgs false

theorem l05Both_any (gf ga gb : Nat) (s : Int) (a : Option Addr) (n c : Nat) (P R : Nat → Int) (L : Nat → Nat → Nat) (w : World) (hn : n ≤ 1000000000) (hs : -32768 ≤ s ∧ s ≤ 32767) (hP : I8 P) (hR : I8 R)
    (hgf : gf < w.heap.size) (h0 : w.cell? ⟨gf, 0, none⟩ = some (.int .i16 s)) (h1 : w.cell? ⟨gf, 1, none⟩ = some (.slice a n c)) (hh : HamAt w a n P R)
    (hga : ga < w.heap.size) (hgb : gb < w.heap.size) (hda : DrumCells w ga 0 (L 0)) (hdb : DrumCells w gb 0 (L 1)) :
    Calls Try.prog 49 #[.pointer (some ⟨gf, 0, none⟩), .pointer (some ⟨ga, 0, none⟩), .pointer (some ⟨gb, 0, none⟩)] w fun e w' => e = .returned (.int .i64 (unl (okAll s n P R 2 L) 1)) ∧ Below w.heap.size w w' := by
  have HP := Lib.hid hP; have HR := Lib.hid hR; have HH := Lib.hid hh; have HA := Lib.hid hda; have HB := Lib.hid hdb; have F0 := Lib.hid h0; have F1 := Lib.hid h1
  clear hP hR hh hda hdb h0 h1
  have hno : ∀ i, i < 2 → vDrum s n (L i) = false → okAll s n P R 2 L = false := fun i hi h => by
    rw [← Bool.not_eq_true, okAll_iff]
    rintro ⟨_, H⟩
    rw [H i hi] at h
    exact absurd h (by simp)
  have HNO := Lib.hid hno; clear hno
  cases hv : vFrame s n P R
  · go_enter Try.func49, Try.ntmps49
    go_wp2_with (go_at_call 66; refine (l02Frame_any gf s a n c P R _ (by omega) hs HP.out HR.out hgf F0.out F1.out HH.out).mono ?_; rintro e w1 ⟨rfl, hb1⟩)
    go_ret
    have : okAll s n P R 2 L = false := by
      rw [← Bool.not_eq_true, okAll_iff]
      rintro ⟨H, _⟩
      rw [hv] at H
      exact absurd H (by simp)
    exact ⟨ret_int (by rw [this, unl_false]), hb1⟩
  · obtain ⟨hS, hN, _⟩ := vFrame_iff.1 hv
    cases hd0 : vDrum s n (L 0)
    · go_enter Try.func49, Try.ntmps49
      go_wp2_with fail
      refine (l02Frame_any gf s a n c P R _ (by omega) hs HP.out HR.out hgf F0.out F1.out HH.out).mono ?_
      rintro e w1 ⟨rfl, hb1⟩
      go_wp2_with fail
      refine (l02Drum_any gf ga s a n c (L 0) _ hN.2 hS.1 hS.2 ((hb1.cell hgf).trans F0.out) ((hb1.cell hgf).trans F1.out) (HA.out.below hb1 hga)).mono ?_
      rintro e w2 ⟨rfl, q, rfl⟩
      go_wp2
      go_ret
      exact ⟨ret_int (by rw [HNO.out 0 (by omega) hd0, unl_false]), below_drewN hb1 _⟩
    · cases hd1 : vDrum s n (L 1)
      all_goals
        go_enter Try.func49, Try.ntmps49
        go_wp2_with fail
        refine (l02Frame_any gf s a n c P R _ (by omega) hs HP.out HR.out hgf F0.out F1.out HH.out).mono ?_
        rintro e w1 ⟨rfl, hb1⟩
        go_wp2_with fail
        refine (l02Drum_any gf ga s a n c (L 0) _ hN.2 hS.1 hS.2 ((hb1.cell hgf).trans F0.out) ((hb1.cell hgf).trans F1.out) (HA.out.below hb1 hga)).mono ?_
        rintro e w2 ⟨rfl, q, rfl⟩
        go_wp2_with fail
        refine (l02Drum_any gf gb s a n c (L 1) (w1.drewN q) hN.2 hS.1 hS.2 ((hb1.cell hgf).trans F0.out) ((hb1.cell hgf).trans F1.out) (HB.out.below (below_drewN hb1 q) hgb)).mono ?_
        rintro e w3 ⟨rfl, q', rfl⟩
        go_wp2
        go_ret
      · exact ⟨ret_int (by rw [HNO.out 1 (by omega) hd1, unl_false]), below_drewN hb1 _⟩
      · refine ⟨ret_int ?_, below_drewN hb1 _⟩
        rw [okAll_iff.2 ⟨hv, fun i hi => by rcases (by omega : i = 0 ∨ i = 1) with rfl | rfl <;> assumption⟩, unl_true]
end Go.Proofs.Ytlcfjeofphncgaa
