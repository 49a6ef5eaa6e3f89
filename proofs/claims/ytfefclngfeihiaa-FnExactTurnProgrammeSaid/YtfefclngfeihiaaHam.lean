/- The statements' own copies of slices of hammers and of frames, and their equality. No conditions. -/
import Derived.Test.YtfefclngfeihiaaConv
import Derived.Test.YtfefclngfeihiaaBlk
import Derived.Outline
namespace Go.Proofs.Ytfefclngfeihiaa
open Go.RowKit
set_option linter.unusedVariables false
set_option linter.unusedSimpArgs false

/-- a slice that came in, at the address a, reads as n hammers -/
def HamIn (w : World) (a : Option Addr) (n : Nat) (P R : Nat → Int) : Prop :=
  0 < n → ∃ ad, a = some ad ∧ ad.block < w.heap.size ∧
    ∀ i, i < n → w.cell? (ad.add (i * 2)) = some (.int .i8 (P i)) ∧ w.cell? ⟨(ad.add (i * 2)).block, (ad.add (i * 2)).off + 1, none⟩ = some (.int .i8 (R i))
theorem add_block (ad : Addr) (k : Nat) : (ad.add k).block = ad.block := by unfold Addr.add; split <;> rfl
theorem HamIn.get {w : World} {a : Option Addr} {n : Nat} {P R : Nat → Int} (h : HamIn w a n P R) (hn : 0 < n) : ∃ ad, a = some ad ∧ ad.block < w.heap.size ∧
    ∀ i, i < n → w.cell? (ad.add (i * 2)) = some (.int .i8 (P i)) ∧ w.cell? ⟨(ad.add (i * 2)).block, (ad.add (i * 2)).off + 1, none⟩ = some (.int .i8 (R i)) := h hn
theorem HamIn.below {w w' : World} {a : Option Addr} {n : Nat} {P R : Nat → Int} (h : HamIn w a n P R) (hb : Below w.heap.size w w') : HamIn w' a n P R := by
  intro hn
  obtain ⟨ad, rfl, hg, hc⟩ := h hn
  refine ⟨ad, rfl, Nat.lt_of_lt_of_le hg hb.size, fun i hi => ?_⟩
  rw [hb.cell (p := ad.add (i * 2)) (by rw [add_block]; exact hg), hb.cell (p := ⟨(ad.add (i * 2)).block, (ad.add (i * 2)).off + 1, none⟩) (by rw [add_block]; exact hg)]
  exact hc i hi
/-- a block bears n hammers -/
def HamF (n : Nat) (P R : Nat → Int) (f : Nat → Value) : Prop := ∀ i, i < n → f (i * 2) = .int .i8 (P i) ∧ f (i * 2 + 1) = .int .i8 (R i)
theorem HamF.at {w : World} {T g n : Nat} {P R : Nat → Int} {f : Nat → Value} (h : HamF n P R f) (hb : BlkAt w T g (n * 2) f) : HamAt w (some ⟨g, 0, none⟩) n P R := fun _ =>
  ⟨g, 0, rfl, hb.lt, fun i hi => by
    rw [Nat.zero_add, hb.cell (i * 2) (by omega), hb.cell (i * 2 + 1) (by omega), (h i hi).1, (h i hi).2]
    exact ⟨rfl, rfl⟩⟩
theorem infoHammer : (Try.prog.info? 72).map (fun i => (i.zero, i.size, i.bytes)) = some (some (.agg #[.int .i8 0, .int .i8 0]), 2, 2) := by kernel_rfl

theorem HamF.step {k : Nat} {P R : Nat → Int} {f : Nat → Value} (h : HamF k P R f) : HamF (k + 1) P R (updV (updV f (k * 2) (.int .i8 (P k))) (k * 2 + 1) (.int .i8 (R k))) := by
  intro i hi
  by_cases e : i = k
  · subst e
    rw [updV_other _ _ _ (by omega), updV_same, updV_same]
    exact ⟨rfl, rfl⟩
  · rw [updV_other _ _ _ (by omega), updV_other _ _ _ (by omega), updV_other _ _ _ (by omega), updV_other _ _ _ (by omega)]
    exact h i (by omega)

theorem toHammerS_any (a : Option Addr) (n c : Nat) (P R : Nat → Int) (w : World) (hn : n ≤ 1048576) (hh : HamIn w a n P R) :
    Calls Try.prog 19 #[.slice a n c] w fun e w' => e = .returned (.slice (some ⟨w.heap.size, 0, none⟩) n n) ∧ Below w.heap.size w w' ∧ ∃ f, BlkAt w' 72 w.heap.size (n * 2) f ∧ HamF n P R f := by
  obtain ⟨i0, hi, hz0, hz1, hz2⟩ := info_parts infoHammer
  obtain ⟨f0, hmk⟩ := run_make_n w 38 72 i0 _ Try.underlying38 hi hz0 2 2 n hz1 hz2 (by omega) (by omega)
  clear hi hz0 hz1 hz2
  have HH := Lib.hid hh; clear hh
  have hb0 : Below w.heap.size w (w.alloc (.cells (cf (n * 2) f0) 72)) := (Below.refl _ _).alloc (Nat.le_refl _) _
  have hk0 := BlkAt.new w 72 (n * 2) f0
  have HB0 := Lib.hid hb0; have HK0 := Lib.hid hk0; clear hb0 hk0
  go_enter Try.func19, Try.ntmps19
  go_wp2
  go_loopw [4] (fun i w' => Below w.heap.size w w' ∧ ∃ k : Nat, k ≤ n ∧ i = .int .i64 k ∧ ∃ f, BlkAt w' 72 w.heap.size (n * 2) f ∧ HamF k P R f) (fun i _ => n - (intOf i).toNat)
  case atStart => exact ⟨HB0.out, 0, by omega, rfl, f0, HK0.out, fun i hi => absurd hi (by omega)⟩
  case round =>
    clear HB0 HK0 hmk
    obtain ⟨hb, k, hk, rfl, f, hB, hF⟩ := hrel
    have HB := Lib.hid hB; have HF := Lib.hid hF; clear hB hF
    by_cases hlt : k < n
    · have hx := HamIn.get HH.out (show 0 < n by omega)
      obtain ⟨ad, rfl, hg, hc⟩ := hx
      have c0 := (hb.cell (p := ad.add (k * 2)) (by rw [add_block]; exact hg)).trans (hc k hlt).1
      have c1 := (hb.cell (p := ⟨(ad.add (k * 2)).block, (ad.add (k * 2)).off + 1, none⟩) (by rw [add_block]; exact hg)).trans (hc k hlt).2
      clear hc
      have hlb := HB.out.lt
      go_wp2_with (go_at_call 36; refine (toHammer_any _ _ _).mono ?_; rintro e w1 ⟨rfl, hb1⟩; have HB1 := Lib.hid (HB.out.below hb1 hlb); have d0 := HB1.out.cell (k * 2) (by omega); have d1 := HB1.out.cell (k * 2 + 1) (by omega); have e0 := HB1.out.frozen (k * 2); have e1 := HB1.out.frozen (k * 2 + 1))
      go_roundw
      case rel => exact ⟨((hb.trans (hb1.mono hb.size)).setCell (Nat.le_refl _) _).setCell (Nat.le_refl _) _, k + 1, by omega, by go_num, _, (HB1.out.setCell (k * 2) _ (by omega)).setCell (k * 2 + 1) _ (by omega), HF.out.step⟩
      case measure => simp [intOf]; omega
    · have hkn : k = n := by omega
      subst hkn
      go_wp2
      go_ret
      exact ⟨rfl, hb, f, HB.out, HF.out⟩
theorem toFrame_any (s : Int) (a : Option Addr) (n c : Nat) (P R : Nat → Int) (w : World) (hn : n ≤ 1048576) (hs : -32768 ≤ s ∧ s ≤ 32767) (hh : HamIn w a n P R) :
    Calls Try.prog 7 #[.agg #[.int .i16 s, .slice a n c]] w fun e w' => e = .returned (.agg #[.int .i16 s, .slice (some ⟨w.heap.size + 1 + 1 + 1, 0, none⟩) n n]) ∧ Below w.heap.size w w' ∧ ∃ f, BlkAt w' 72 (w.heap.size + 1 + 1 + 1) (n * 2) f ∧ HamF n P R f := by
  have hb0 : Below w.heap.size w (((w.alloc (.cells #[.int .i16 s, .slice a n c] 25)).alloc (.cells #[.int .i16 0, .slice none 0 0] 40)).alloc (.cells #[.int .i16 s, .slice none 0 0] 40)) := (((Below.refl _ _).alloc (Nat.le_refl _) _).alloc (by simp) _).alloc (by simp; omega) _
  have f1 := (FrameAt.new2 w (.cells #[.int .i16 s, .slice a n c] 25) 0 none 0 0).alloc (.cells #[.int .i16 s, .slice none 0 0] 40)
  have f2 := FrameAt.new3 w (.cells #[.int .i16 s, .slice a n c] 25) (.cells #[.int .i16 0, .slice none 0 0] 40) s none 0 0
  have hz : ((((w.alloc (.cells #[.int .i16 s, .slice a n c] 25)).alloc (.cells #[.int .i16 0, .slice none 0 0] 40)).alloc (.cells #[.int .i16 s, .slice none 0 0] 40))).heap.size = w.heap.size + 1 + 1 + 1 := by simp
  have HB0 := Lib.hid hb0; have HF1 := Lib.hid f1; have HF2 := Lib.hid f2; have HZ := Lib.hid hz; have HH := Lib.hid hh
  clear hb0 f1 f2 hz hh
  go_enter Try.func7, Try.ntmps7
  go_wp2_with fail
  generalize (((w.alloc (.cells #[.int .i16 s, .slice a n c] 25)).alloc (.cells #[.int .i16 0, .slice none 0 0] 40)).alloc (.cells #[.int .i16 s, .slice none 0 0] 40)) = W at HB0 HF1 HF2 HZ ⊢
  refine (toHammerS_any a n c P R W hn (HH.out.below HB0.out)).mono ?_
  rw [HZ.out]
  rintro e w1 ⟨rfl, hb1, f, hB, hF⟩
  have hlt := HZ.out
  have g1 := HF1.out.below hb1 (by omega)
  have g2 := HF2.out.below hb1 (by omega)
  have a0 := g1.c0; have a1 := g1.c1; have a2 := g1.frozen 0; have a3 := g1.frozen 1
  have b0 := g2.c0; have b1 := g2.c1; have b3 := g2.frozen 1
  have hbw := HB0.out.trans (hb1.mono (by omega))
  have HBW := Lib.hid hbw; have HB := Lib.hid hB; have HF := Lib.hid hF; have HZ2 := Lib.hid hlt
  clear hbw hB hF hlt g1 g2 hb1 HB0 HF1 HF2 HH
  go_wp2
  refine bodyPost_ret (v := .agg #[.int .i16 s, .slice (some ⟨w.heap.size + 1 + 1 + 1, 0, none⟩) n n]) (by simp [results, Try.results7, go_sem, a0, a1, b0, b1]) rfl ⟨rfl, ?_, f, ?_, HF.out⟩
  · exact ((HBW.out.setCell (by simp <;> omega) _).setCell (by simp <;> omega) _).setCell (by simp <;> omega) _
  · exact ((HB.out.setOther _ _ (by simp <;> omega)).setOther _ _ (by simp <;> omega)).setOther _ _ (by simp <;> omega)
theorem eqHammer_any (p r : Int) (w : World) :
    Calls Try.prog 48 #[.agg #[.int .i8 p, .int .i8 r], .agg #[.int .i8 p, .int .i8 r]] w fun e w' => e = .returned (.bool true) ∧ Below w.heap.size w w' := by
  go_enter Try.func48, Try.ntmps48
  go_wp2
  go_ret
  exact ⟨rfl, ((Below.refl _ _).alloc (Nat.le_refl _) _).alloc (by simp) _⟩
set_option maxRecDepth 100000 in
theorem eqHammerS_any (a b : Option Addr) (n c d : Nat) (P R : Nat → Int) (w : World) (hn : n ≤ 1000000000000) (ha : HamAt w a n P R) (hb : HamAt w b n P R) :
    Calls Try.prog 31 #[.slice a n c, .slice b n d] w fun e w' => e = .returned (.bool true) ∧ Below w.heap.size w w' := by
  have HA := Lib.hid ha; have HB := Lib.hid hb; clear ha hb
  go_enter Try.func31, Try.ntmps31
  go_wp2
  go_loopw [5] (fun i w' => Below w.heap.size w w' ∧ ∃ k : Nat, k ≤ n ∧ i = .int .i64 k) (fun i _ => n - (intOf i).toNat)
  case atStart => exact ⟨Below.refl _ _, 0, by omega, rfl⟩
  case round =>
    obtain ⟨hb, k, hk, rfl⟩ := hrel
    by_cases hlt : k < n
    · have hx := HamAt.get HA.out (show 0 < n by omega)
      have hy := HamAt.get HB.out (show 0 < n by omega)
      obtain ⟨g, off, rfl, hg, hc⟩ := hx
      obtain ⟨g', off', rfl, hg', hc'⟩ := hy
      have c0 := (hb.cell (p := ⟨g, off + k * 2, none⟩) hg).trans (hc k hlt).1
      have c1 := (hb.cell (p := ⟨g, off + k * 2 + 1, none⟩) hg).trans (hc k hlt).2
      have c2 := (hb.cell (p := ⟨g', off' + k * 2, none⟩) hg').trans (hc' k hlt).1
      have c3 := (hb.cell (p := ⟨g', off' + k * 2 + 1, none⟩) hg').trans (hc' k hlt).2
      clear hc hc'
      go_wp2
      go_still_tail 8, (by kernel_rfl)
      go_wp2_with (go_at_call 48; refine (eqHammer_any _ _ _).mono ?_; rintro e w1 ⟨rfl, hb1⟩)
      go_roundw
      case rel => exact ⟨hb.trans ((Below.refl _ _).drew.trans (hb1.mono hb.size)), k + 1, by omega, by go_num⟩
      case measure => simp [intOf]; omega
    · go_wp2
      go_ret
      exact ⟨rfl, hb⟩
theorem eqFrame_any (s : Int) (a b : Option Addr) (n c d : Nat) (P R : Nat → Int) (w : World) (hn : n ≤ 1000000000000) (ha : HamAt w a n P R) (hb : HamAt w b n P R) :
    Calls Try.prog 11 #[.agg #[.int .i16 s, .slice a n c], .agg #[.int .i16 s, .slice b n d]] w fun e w' => e = .returned (.bool true) ∧ Below w.heap.size w w' := by
  have hb0 : Below w.heap.size w ((w.alloc (.cells #[.int .i16 s, .slice a n c] 40)).alloc (.cells #[.int .i16 s, .slice b n d] 40)) := ((Below.refl _ _).alloc (Nat.le_refl _) _).alloc (by simp) _
  have HB0 := Lib.hid hb0; have HA := Lib.hid ha; have HB := Lib.hid hb; clear hb0 ha hb
  go_enter Try.func11, Try.ntmps11
  go_wp2_with (go_at_call 31; refine (eqHammerS_any a b n c d P R _ hn (HA.out.below HB0.out) (HB.out.below HB0.out)).mono ?_; rintro e w1 ⟨rfl, hb1⟩)
  go_ret
  exact ⟨rfl, HB0.out.trans (hb1.mono (by simp <;> omega))⟩
end Go.Proofs.Ytfefclngfeihiaa
