/- The law FnExactCrowdedAt: the walk, printed by lawgen.py. No conditions. -/
import Derived.Test.YtkefjgbcpoggiaaKp
import Derived.Test.YtkefjgbcpoggiaaCr
import Derived.Test.YtkefjgbcpoggiaaHeld2
import Derived.Outline
namespace Go.Proofs.Ytkefjgbcpoggiaa
open Go.RowKit
set_option linter.unusedVariables false
set_option linter.unusedSimpArgs false

set_option maxRecDepth 100000 in
set_option maxHeartbeats 4000000 in
theorem lawCrowdedAt (s0 : Int) (a0 : Option Addr) (n0 c0 : Nat) (P0 R0 : Nat → Int) (a1 : Option Addr) (n1 c1 : Nat) (A1 P1 : Nat → Int) (w : World) (hn0 : n0 ≤ 9223372036854775807) (hs0 : -32768 ≤ s0 ∧ s0 ≤ 32767) (hP0 : I8 P0) (hR0 : I8 R0) (hh0 : HamIn w a0 n0 P0 R0) (hn1 : n1 ≤ 9223372036854775807) (hA1 : I16 A1) (hP1 : I8 P1) (hh1 : NoteIn w a1 n1 A1 P1) :
    Calls Try.prog 5 #[.agg #[.int .i16 s0, .slice a0 n0 c0], .slice a1 n1 c1] w fun e w' => e = .returned (.bool true) ∧ Below w.heap.size w w' := by
  have HP0 := Lib.hid hP0; clear hP0
  have HR0 := Lib.hid hR0; clear hR0
  have HA1 := Lib.hid hA1; clear hA1
  have HP1 := Lib.hid hP1; clear hP1
  have KB := Kp.base w
  have KH0 := kp_hamIn hh0; clear hh0
  have KH1 := kp_noteIn hh1; clear hh1
  replace KB := KB.alloc (.cells #[.int .i16 s0, .slice a0 n0 c0] 60)
  replace KH0 := KH0.alloc (.cells #[.int .i16 s0, .slice a0 n0 c0] 60)
  replace KH1 := KH1.alloc (.cells #[.int .i16 s0, .slice a0 n0 c0] 60)
  have KR0 := kp_new1 w #[.int .i16 s0, .slice a0 n0 c0] 60 (g := w.heap.size) (by simp)
  go_enter Try.func5, Try.ntmps5
  go_wp2_with (first | (with_reducible refine load_lframe rfl _ rfl (w.heap.size) rfl _ s0 a0 n0 c0 KR0.here ?_))
  generalize (w.alloc (.cells #[.int .i16 s0, .slice a0 n0 c0] 60)) = w1 at KB KH0 KH1 KR0 ⊢
  refine (szFrame_kp s0 a0 n0 c0 (1048576) _ (by omega) (by omega)).mono ?_
  rintro e w3 ⟨rfl, hb2⟩
  replace KB := KB.on hb2
  replace KH0 := KH0.on hb2
  replace KH1 := KH1.on hb2
  replace KR0 := KR0.on hb2
  by_cases hlw3 : (1048576 : Int) < n0
  · rw [szOf_lt hlw3]
    go_wp2_with (first | (with_reducible refine load_lframe rfl _ rfl (w.heap.size) rfl _ s0 a0 n0 c0 KR0.here ?_))
    go_ret
    exact ⟨rfl, KB.here⟩
  rw [szOf_ge (by omega)]
  go_wp2_with (first | (with_reducible refine load_lframe rfl _ rfl (w.heap.size) rfl _ s0 a0 n0 c0 KR0.here ?_))
  refine (szTune_kp a1 n1 c1 (1048576 - (n0 : Int)) _ (by omega) (by omega)).mono ?_
  rintro e w5 ⟨rfl, hb4⟩
  replace KB := KB.on hb4
  replace KH0 := KH0.on hb4
  replace KH1 := KH1.on hb4
  replace KR0 := KR0.on hb4
  by_cases hlw5 : (1048576 - (n0 : Int) : Int) < n1
  · rw [szOf_lt hlw5]
    go_wp2_with (first | (with_reducible refine load_lframe rfl _ rfl (w.heap.size) rfl _ s0 a0 n0 c0 KR0.here ?_))
    go_ret
    exact ⟨rfl, KB.here⟩
  rw [szOf_ge (by omega)]
  go_wp2_with (first | (with_reducible refine load_lframe rfl _ rfl (w.heap.size) rfl _ s0 a0 n0 c0 KR0.here ?_))
  refine (toFrame_kp s0 a0 n0 c0 P0 R0 _ (by omega) hs0 (KH0.here)).mono ?_
  rintro e w7 ⟨b8, rfl, hb6, KX9⟩
  replace KB := KB.on hb6
  replace KH0 := KH0.on hb6
  replace KH1 := KH1.on hb6
  replace KR0 := KR0.on hb6
  go_wp2_with (first | (with_reducible refine load_lframe rfl _ rfl (w.heap.size) rfl _ s0 a0 n0 c0 KR0.here ?_))
  refine (toTune_kp a1 n1 c1 A1 P1 _ (by omega) (KH1.here)).mono ?_
  rintro e w11 ⟨b12, rfl, hb10, KX13⟩
  replace KB := KB.on hb10
  replace KH0 := KH0.on hb10
  replace KH1 := KH1.on hb10
  replace KR0 := KR0.on hb10
  replace KX9 := KX9.on hb10
  go_wp2_with (first | (with_reducible refine load_lframe rfl _ rfl (w.heap.size) rfl _ s0 a0 n0 c0 KR0.here ?_))
  obtain ⟨r0, hr0⟩ : ∃ r, r = (crR s0 n0 P0 R0 n1 A1 P1).1 := ⟨_, rfl⟩
  obtain ⟨r1, hr1⟩ : ∃ r, r = (crR s0 n0 P0 R0 n1 A1 P1).2.1 := ⟨_, rfl⟩
  obtain ⟨r2, hr2⟩ : ∃ r, r = (crR s0 n0 P0 R0 n1 A1 P1).2.2.1 := ⟨_, rfl⟩
  obtain ⟨r3, hr3⟩ : ∃ r, r = (crR s0 n0 P0 R0 n1 A1 P1).2.2.2 := ⟨_, rfl⟩
  refine (specCrowdedAt_any s0 b8 n0 n0 P0 R0 b12 n1 n1 A1 P1 _ hs0 (by omega) HP0.out HR0.out (KX9.here) (by omega) HA1.out HP1.out (KX13.here)).mono ?_
  rw [← hr0, ← hr1, ← hr2, ← hr3]
  rintro e w15 ⟨rfl, hb14⟩
  have HR_0 := Lib.hid hr0; clear hr0
  have HR_1 := Lib.hid hr1; clear hr1
  have HR_2 := Lib.hid hr2; clear hr2
  have HR_3 := Lib.hid hr3; clear hr3
  replace KB := KB.on hb14
  replace KH0 := KH0.on hb14
  replace KH1 := KH1.on hb14
  replace KR0 := KR0.on hb14
  replace KX9 := KX9.on hb14
  replace KX13 := KX13.on hb14
  go_wp2_with (first | (with_reducible refine load_lframe rfl _ rfl (w.heap.size) rfl _ s0 a0 n0 c0 KR0.here ?_))
  refine (toFrame_kp s0 a0 n0 c0 P0 R0 _ (by omega) hs0 (KH0.here)).mono ?_
  rintro e w17 ⟨b18, rfl, hb16, KX19⟩
  replace KB := KB.on hb16
  replace KH0 := KH0.on hb16
  replace KH1 := KH1.on hb16
  replace KR0 := KR0.on hb16
  replace KX9 := KX9.on hb16
  replace KX13 := KX13.on hb16
  replace KB := KB.alloc (.cells #[.int .i16 s0, .slice b18 n0 n0] 27)
  replace KH0 := KH0.alloc (.cells #[.int .i16 s0, .slice b18 n0 n0] 27)
  replace KH1 := KH1.alloc (.cells #[.int .i16 s0, .slice b18 n0 n0] 27)
  replace KR0 := KR0.alloc (.cells #[.int .i16 s0, .slice b18 n0 n0] 27)
  replace KX9 := KX9.alloc (.cells #[.int .i16 s0, .slice b18 n0 n0] 27)
  replace KX13 := KX13.alloc (.cells #[.int .i16 s0, .slice b18 n0 n0] 27)
  replace KX19 := KX19.alloc (.cells #[.int .i16 s0, .slice b18 n0 n0] 27)
  have KR21 := kp_new1 w17 #[.int .i16 s0, .slice b18 n0 n0] 27 (g := w17.heap.size) rfl
  go_wp2_with (first | (with_reducible refine load_lframe rfl _ rfl (w.heap.size) rfl _ s0 a0 n0 c0 KR0.here ?_) | (with_reducible refine load_iframe rfl _ rfl (w17.heap.size) rfl _ s0 b18 n0 n0 KR21.here ?_))
  generalize (w17.alloc (.cells #[.int .i16 s0, .slice b18 n0 n0] 27)) = w22 at KB KH0 KH1 KR0 KX9 KX13 KX19 KR21 ⊢
  refine (toTune_kp a1 n1 c1 A1 P1 _ (by omega) (KH1.here)).mono ?_
  rintro e w24 ⟨b25, rfl, hb23, KX26⟩
  replace KB := KB.on hb23
  replace KH0 := KH0.on hb23
  replace KH1 := KH1.on hb23
  replace KR0 := KR0.on hb23
  replace KX9 := KX9.on hb23
  replace KX13 := KX13.on hb23
  replace KX19 := KX19.on hb23
  replace KR21 := KR21.on hb23
  go_wp2_with (first | (with_reducible refine load_lframe rfl _ rfl (w.heap.size) rfl _ s0 a0 n0 c0 KR0.here ?_) | (with_reducible refine load_iframe rfl _ rfl (w17.heap.size) rfl _ s0 b18 n0 n0 KR21.here ?_))
  refine (implCrowdedAt_any s0 b18 n0 n0 P0 R0 b25 n1 n1 A1 P1 _ hs0 (by omega) HP0.out HR0.out (KX19.here) (by omega) HA1.out HP1.out (KX26.here)).mono ?_
  rw [← HR_0.out, ← HR_1.out, ← HR_2.out, ← HR_3.out]
  rintro e w28 ⟨rfl, hb27⟩
  replace KB := KB.on hb27
  replace KH0 := KH0.on hb27
  replace KH1 := KH1.on hb27
  replace KR0 := KR0.on hb27
  replace KX9 := KX9.on hb27
  replace KX13 := KX13.on hb27
  replace KX19 := KX19.on hb27
  replace KR21 := KR21.on hb27
  replace KX26 := KX26.on hb27
  go_wp2_with (first | (with_reducible refine load_lframe rfl _ rfl (w.heap.size) rfl _ s0 a0 n0 c0 KR0.here ?_) | (with_reducible refine load_iframe rfl _ rfl (w17.heap.size) rfl _ s0 b18 n0 n0 KR21.here ?_))
  refine wp_region_S (fun V => Below w28.heap.size w28 V) (by kernel_rfl) (Below.refl _ _).drew ?_
  refine take_val 0 (.agg #[.int .i16 s0, .slice b18 n0 n0]) rfl (by kernel_rfl) (by kernel_rfl) (by kernel_rfl) (fun _ _ _ h => h) rfl (fun V hV => ex_load_iframe _ rfl (w17.heap.size) rfl _ s0 b18 n0 n0 (KR21.at hV)) (Below.refl _ _).drew ?_
  simp only [List.getElem_toArray, List.getElem_cons_zero, List.getElem_cons_succ, Act.put, List.setIfInBounds_toArray, List.set_cons_zero, List.set_cons_succ]
  refine take_val 1 (.agg #[.int .i16 s0, .slice a0 n0 c0]) rfl (by kernel_rfl) (by kernel_rfl) (by kernel_rfl) (fun _ _ _ h => h) rfl (fun V hV => ex_load_lframe _ rfl (w.heap.size) rfl _ s0 a0 n0 c0 (KR0.at hV)) (Below.refl _ _).drew ?_
  simp only [List.getElem_toArray, List.getElem_cons_zero, List.getElem_cons_succ, Act.put, List.setIfInBounds_toArray, List.set_cons_zero, List.set_cons_succ]
  have KQ29 := kp_start w28; have hdKQ29 := below_drew w28
  replace KB := KB.on hdKQ29
  replace KH0 := KH0.on hdKQ29
  replace KH1 := KH1.on hdKQ29
  replace KR0 := KR0.on hdKQ29
  replace KX9 := KX9.on hdKQ29
  replace KX13 := KX13.on hdKQ29
  replace KX19 := KX19.on hdKQ29
  replace KR21 := KR21.on hdKQ29
  replace KX26 := KX26.on hdKQ29
  clear hdKQ29
  refine step_call 2 42 #[.agg #[.int .i16 s0, .slice a0 n0 c0]] (by kernel_rfl) rfl rfl (by simp [go_sem]) ?_
  refine (toFrame_kp s0 a0 n0 c0 P0 R0 _ (by omega) hs0 (KH0.here)).mono ?_
  rintro e w31 ⟨b32, rfl, hb30, KX33⟩
  replace KB := KB.on hb30
  replace KH0 := KH0.on hb30
  replace KH1 := KH1.on hb30
  replace KR0 := KR0.on hb30
  replace KX9 := KX9.on hb30
  replace KX13 := KX13.on hb30
  replace KX19 := KX19.on hb30
  replace KR21 := KR21.on hb30
  replace KX26 := KX26.on hb30
  replace KQ29 := KQ29.on hb30
  refine ⟨_, rfl, KQ29.here, ?_⟩
  simp only [List.getElem_toArray, List.getElem_cons_zero, List.getElem_cons_succ, Act.put, List.setIfInBounds_toArray, List.set_cons_zero, List.set_cons_succ]
  refine step_call 3 45 #[.agg #[.int .i16 s0, .slice b18 n0 n0], .agg #[.int .i16 s0, .slice b32 n0 n0]] (by kernel_rfl) rfl rfl (by simp [go_sem]) ?_
  refine (eqFrame_kp s0 _ _ n0 n0 n0 P0 R0 _ (by omega) (KX19.here) (KX33.here)).mono ?_
  rintro e w35 ⟨rfl, hb34⟩
  replace KB := KB.on hb34
  replace KH0 := KH0.on hb34
  replace KH1 := KH1.on hb34
  replace KR0 := KR0.on hb34
  replace KX9 := KX9.on hb34
  replace KX13 := KX13.on hb34
  replace KX19 := KX19.on hb34
  replace KR21 := KR21.on hb34
  replace KX26 := KX26.on hb34
  replace KQ29 := KQ29.on hb34
  replace KX33 := KX33.on hb34
  refine ⟨_, rfl, KQ29.here, ?_⟩
  simp only [List.getElem_toArray, List.getElem_cons_zero, List.getElem_cons_succ, Act.put, List.setIfInBounds_toArray, List.set_cons_zero, List.set_cons_succ]
  refine take_val 4 (.bool false) rfl (by kernel_rfl) (by kernel_rfl) (by kernel_rfl) (fun _ _ _ h => h) rfl (fun V _ => by simp [go_sem]) KQ29.here ?_
  simp only [List.getElem_toArray, List.getElem_cons_zero, List.getElem_cons_succ, Act.put, List.setIfInBounds_toArray, List.set_cons_zero, List.set_cons_succ]
  refine wpAnyH_done (by kernel_rfl) ?_ _
  clear KQ29
  go_wp2_with (first | (with_reducible refine load_lframe rfl _ rfl (w.heap.size) rfl _ s0 a0 n0 c0 KR0.here ?_) | (with_reducible refine load_iframe rfl _ rfl (w17.heap.size) rfl _ s0 b18 n0 n0 KR21.here ?_))
  refine (toTune_kp a1 n1 c1 A1 P1 _ (by omega) (KH1.here)).mono ?_
  rintro e w37 ⟨b38, rfl, hb36, KX39⟩
  replace KB := KB.on hb36
  replace KH0 := KH0.on hb36
  replace KH1 := KH1.on hb36
  replace KR0 := KR0.on hb36
  replace KX9 := KX9.on hb36
  replace KX13 := KX13.on hb36
  replace KX19 := KX19.on hb36
  replace KR21 := KR21.on hb36
  replace KX26 := KX26.on hb36
  replace KX33 := KX33.on hb36
  go_wp2_with (first | (with_reducible refine load_lframe rfl _ rfl (w.heap.size) rfl _ s0 a0 n0 c0 KR0.here ?_) | (with_reducible refine load_iframe rfl _ rfl (w17.heap.size) rfl _ s0 b18 n0 n0 KR21.here ?_))
  refine (eqTune_kp _ _ n1 n1 n1 A1 P1 _ (by omega) (KX26.here) (KX39.here)).mono ?_
  rintro e w41 ⟨rfl, hb40⟩
  replace KB := KB.on hb40
  replace KH0 := KH0.on hb40
  replace KH1 := KH1.on hb40
  replace KR0 := KR0.on hb40
  replace KX9 := KX9.on hb40
  replace KX13 := KX13.on hb40
  replace KX19 := KX19.on hb40
  replace KR21 := KR21.on hb40
  replace KX26 := KX26.on hb40
  replace KX33 := KX33.on hb40
  replace KX39 := KX39.on hb40
  go_wp2_with fail
  go_ret
  exact ⟨rfl, KB.here⟩
end Go.Proofs.Ytkefjgbcpoggiaa
