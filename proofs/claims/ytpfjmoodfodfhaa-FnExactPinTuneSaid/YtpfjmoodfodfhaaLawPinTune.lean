/- The law FnExactPinTune: the walk, printed by lawgen.py. No conditions. -/
import Derived.Test.YtpfjmoodfodfhaaKp
import Derived.Test.YtpfjmoodfodfhaaPv
import Derived.Test.YtpfjmoodfodfhaaNote
import Derived.Test.YtpfjmoodfodfhaaHeld2
import Derived.Outline
namespace Go.Proofs.Ytpfjmoodfodfhaa
open Go.RowKit
set_option linter.unusedVariables false
set_option linter.unusedSimpArgs false

set_option maxRecDepth 100000 in
set_option maxHeartbeats 4000000 in
theorem lawPinTune (s0 : Int) (a0 : Option Addr) (n0 c0 : Nat) (P0 R0 : Nat → Int) (a1 : Option Addr) (n1 c1 : Nat) (A1 P1 : Nat → Int) (x2 : Int) (w : World) (hn0 : n0 ≤ 9223372036854775807) (hs0 : -32768 ≤ s0 ∧ s0 ≤ 32767) (hP0 : I8 P0) (hR0 : I8 R0) (hh0 : HamIn w a0 n0 P0 R0) (hn1 : n1 ≤ 9223372036854775807) (hA1 : I16 A1) (hP1 : I8 P1) (hh1 : NoteIn w a1 n1 A1 P1) (hx2 : -9223372036854775808 ≤ x2 ∧ x2 ≤ 9223372036854775807) :
    Calls Try.prog 6 #[.agg #[.int .i16 s0, .slice a0 n0 c0], .slice a1 n1 c1, .int .i64 x2] w fun e w' => e = .returned (.bool true) ∧ Below w.heap.size w w' := by
  have HP0 := Lib.hid hP0; clear hP0
  have HR0 := Lib.hid hR0; clear hR0
  have HA1 := Lib.hid hA1; clear hA1
  have HP1 := Lib.hid hP1; clear hP1
  have KB := Kp.base w
  have KH0 := kp_hamIn hh0; clear hh0
  have KH1 := kp_noteIn hh1; clear hh1
  replace KB := KB.alloc (.cells #[.int .i16 s0, .slice a0 n0 c0] 40)
  replace KH0 := KH0.alloc (.cells #[.int .i16 s0, .slice a0 n0 c0] 40)
  replace KH1 := KH1.alloc (.cells #[.int .i16 s0, .slice a0 n0 c0] 40)
  have KR0 := kp_new1 w #[.int .i16 s0, .slice a0 n0 c0] 40 (g := w.heap.size) (by simp)
  go_enter Try.func6, Try.ntmps6
  go_wp2_with (first | (with_reducible refine load_lframe rfl _ rfl (w.heap.size) rfl _ s0 a0 n0 c0 KR0.here ?_))
  generalize (w.alloc (.cells #[.int .i16 s0, .slice a0 n0 c0] 40)) = w1 at KB KH0 KH1 KR0 ⊢
  refine (szFrame_kp s0 a0 n0 c0 (1048576) _ (by omega) (by omega)).mono ?_
  rintro e w3 ⟨rfl, hb2⟩
  replace KB := KB.on hb2
  replace KH0 := KH0.on hb2
  replace KH1 := KH1.on hb2
  replace KR0 := KR0.on hb2
  by_cases hlw3 : (1048576 : Int) < n0
  · rw [szOf_lt hlw3]
    go_wp2_with (first | (with_reducible refine load_lframe rfl _ rfl (w.heap.size) rfl _ s0 a0 n0 c0 KR0.here ?_))
    go_ret
    exact ⟨rfl, KB.here⟩
  rw [szOf_ge (by omega)]
  go_wp2_with (first | (with_reducible refine load_lframe rfl _ rfl (w.heap.size) rfl _ s0 a0 n0 c0 KR0.here ?_))
  refine (szTune_kp a1 n1 c1 (1048576 - (n0 : Int)) _ (by omega) (by omega)).mono ?_
  rintro e w5 ⟨rfl, hb4⟩
  replace KB := KB.on hb4
  replace KH0 := KH0.on hb4
  replace KH1 := KH1.on hb4
  replace KR0 := KR0.on hb4
  by_cases hlw5 : (1048576 - (n0 : Int) : Int) < n1
  · rw [szOf_lt hlw5]
    go_wp2_with (first | (with_reducible refine load_lframe rfl _ rfl (w.heap.size) rfl _ s0 a0 n0 c0 KR0.here ?_))
    go_ret
    exact ⟨rfl, KB.here⟩
  rw [szOf_ge (by omega)]
  go_wp2_with (first | (with_reducible refine load_lframe rfl _ rfl (w.heap.size) rfl _ s0 a0 n0 c0 KR0.here ?_))
  refine (toFrame_kp s0 a0 n0 c0 P0 R0 _ (by omega) hs0 (KH0.here)).mono ?_
  rintro e w7 ⟨b8, rfl, hb6, KX9⟩
  replace KB := KB.on hb6
  replace KH0 := KH0.on hb6
  replace KH1 := KH1.on hb6
  replace KR0 := KR0.on hb6
  go_wp2_with (first | (with_reducible refine load_lframe rfl _ rfl (w.heap.size) rfl _ s0 a0 n0 c0 KR0.here ?_))
  refine (toTune_kp a1 n1 c1 A1 P1 _ (by omega) (KH1.here)).mono ?_
  rintro e w11 ⟨b12, rfl, hb10, KX13⟩
  replace KB := KB.on hb10
  replace KH0 := KH0.on hb10
  replace KH1 := KH1.on hb10
  replace KR0 := KR0.on hb10
  replace KX9 := KX9.on hb10
  go_wp2_with (first | (with_reducible refine load_lframe rfl _ rfl (w.heap.size) rfl _ s0 a0 n0 c0 KR0.here ?_))
  obtain ⟨r0, hr0⟩ : ∃ r, r = ptD s0 n0 P0 R0 n1 A1 P1 x2 := ⟨_, rfl⟩
  obtain ⟨r1, hr1⟩ : ∃ r, r = ptT s0 n0 P0 R0 n1 A1 P1 x2 := ⟨_, rfl⟩
  obtain ⟨r2, hr2⟩ : ∃ r, r = ptC s0 n0 P0 R0 n1 A1 P1 x2 := ⟨_, rfl⟩
  refine (specPinTune_any s0 b8 n0 n0 P0 R0 b12 n1 n1 A1 P1 x2 _ hs0 (by omega) HP0.out HR0.out (KX9.here) (by omega) HA1.out HP1.out (KX13.here) hx2).mono ?_
  rw [← hr0, ← hr1, ← hr2]
  rintro e w15 ⟨rfl, hb14⟩
  have HR_0 := Lib.hid hr0; clear hr0
  have HR_1 := Lib.hid hr1; clear hr1
  have HR_2 := Lib.hid hr2; clear hr2
  replace KB := KB.on hb14
  replace KH0 := KH0.on hb14
  replace KH1 := KH1.on hb14
  replace KR0 := KR0.on hb14
  replace KX9 := KX9.on hb14
  replace KX13 := KX13.on hb14
  go_wp2_with (first | (with_reducible refine copy_drum rfl rfl rfl _ _ rfl (r0) rfl rfl ?_; intro w18 hn19 _ hn19g; replace KB := KB.on hn19; replace KH0 := KH0.on hn19; replace KH1 := KH1.on hn19; replace KR0 := KR0.on hn19; replace KX9 := KX9.on hn19; replace KX13 := KX13.on hn19; have KR17 := kp_drum hn19g; clear hn19 hn19g) | (with_reducible refine load_lframe rfl _ rfl (w.heap.size) rfl _ s0 a0 n0 c0 KR0.here ?_) | (with_reducible refine load_drum rfl _ rfl (w15.heap.size) rfl _ r0 KR17.here ?_))
  refine (toFrame_kp s0 a0 n0 c0 P0 R0 _ (by omega) hs0 (KH0.here)).mono ?_
  rintro e w21 ⟨b22, rfl, hb20, KX23⟩
  replace KB := KB.on hb20
  replace KH0 := KH0.on hb20
  replace KH1 := KH1.on hb20
  replace KR0 := KR0.on hb20
  replace KX9 := KX9.on hb20
  replace KX13 := KX13.on hb20
  replace KR17 := KR17.on hb20
  replace KB := KB.alloc (.cells #[.int .i16 s0, .slice b22 n0 n0] 27)
  replace KH0 := KH0.alloc (.cells #[.int .i16 s0, .slice b22 n0 n0] 27)
  replace KH1 := KH1.alloc (.cells #[.int .i16 s0, .slice b22 n0 n0] 27)
  replace KR0 := KR0.alloc (.cells #[.int .i16 s0, .slice b22 n0 n0] 27)
  replace KX9 := KX9.alloc (.cells #[.int .i16 s0, .slice b22 n0 n0] 27)
  replace KX13 := KX13.alloc (.cells #[.int .i16 s0, .slice b22 n0 n0] 27)
  replace KR17 := KR17.alloc (.cells #[.int .i16 s0, .slice b22 n0 n0] 27)
  replace KX23 := KX23.alloc (.cells #[.int .i16 s0, .slice b22 n0 n0] 27)
  have KR25 := kp_new1 w21 #[.int .i16 s0, .slice b22 n0 n0] 27 (g := w21.heap.size) rfl
  go_wp2_with (first | (with_reducible refine load_lframe rfl _ rfl (w.heap.size) rfl _ s0 a0 n0 c0 KR0.here ?_) | (with_reducible refine load_drum rfl _ rfl (w15.heap.size) rfl _ r0 KR17.here ?_) | (with_reducible refine load_iframe rfl _ rfl (w21.heap.size) rfl _ s0 b22 n0 n0 KR25.here ?_))
  generalize (w21.alloc (.cells #[.int .i16 s0, .slice b22 n0 n0] 27)) = w26 at KB KH0 KH1 KR0 KX9 KX13 KR17 KX23 KR25 ⊢
  refine (toTune_kp a1 n1 c1 A1 P1 _ (by omega) (KH1.here)).mono ?_
  rintro e w28 ⟨b29, rfl, hb27, KX30⟩
  replace KB := KB.on hb27
  replace KH0 := KH0.on hb27
  replace KH1 := KH1.on hb27
  replace KR0 := KR0.on hb27
  replace KX9 := KX9.on hb27
  replace KX13 := KX13.on hb27
  replace KR17 := KR17.on hb27
  replace KX23 := KX23.on hb27
  replace KR25 := KR25.on hb27
  go_wp2_with (first | (with_reducible refine load_lframe rfl _ rfl (w.heap.size) rfl _ s0 a0 n0 c0 KR0.here ?_) | (with_reducible refine load_drum rfl _ rfl (w15.heap.size) rfl _ r0 KR17.here ?_) | (with_reducible refine load_iframe rfl _ rfl (w21.heap.size) rfl _ s0 b22 n0 n0 KR25.here ?_))
  refine (implPinTune_any s0 b22 n0 n0 P0 R0 b29 n1 n1 A1 P1 x2 _ hs0 (by omega) HP0.out HR0.out (KX23.here) (by omega) HA1.out HP1.out (KX30.here) hx2).mono ?_
  rw [← HR_0.out, ← HR_1.out, ← HR_2.out]
  rintro e w32 ⟨rfl, hb31⟩
  replace KB := KB.on hb31
  replace KH0 := KH0.on hb31
  replace KH1 := KH1.on hb31
  replace KR0 := KR0.on hb31
  replace KX9 := KX9.on hb31
  replace KX13 := KX13.on hb31
  replace KR17 := KR17.on hb31
  replace KX23 := KX23.on hb31
  replace KR25 := KR25.on hb31
  replace KX30 := KX30.on hb31
  go_wp2_with (first | (with_reducible refine copy_drum rfl rfl rfl _ _ rfl (r0) rfl rfl ?_; intro w35 hn36 _ hn36g; replace KB := KB.on hn36; replace KH0 := KH0.on hn36; replace KH1 := KH1.on hn36; replace KR0 := KR0.on hn36; replace KX9 := KX9.on hn36; replace KX13 := KX13.on hn36; replace KR17 := KR17.on hn36; replace KX23 := KX23.on hn36; replace KR25 := KR25.on hn36; replace KX30 := KX30.on hn36; have KR34 := kp_drum hn36g; clear hn36 hn36g) | (with_reducible refine load_lframe rfl _ rfl (w.heap.size) rfl _ s0 a0 n0 c0 KR0.here ?_) | (with_reducible refine load_drum rfl _ rfl (w15.heap.size) rfl _ r0 KR17.here ?_) | (with_reducible refine load_iframe rfl _ rfl (w21.heap.size) rfl _ s0 b22 n0 n0 KR25.here ?_) | (with_reducible refine load_drum rfl _ rfl (w32.heap.size) rfl _ r0 KR34.here ?_))
  refine (eqDrum_any r0 _).mono ?_
  rintro e w38 ⟨rfl, hb37⟩
  replace KB := KB.on hb37
  replace KH0 := KH0.on hb37
  replace KH1 := KH1.on hb37
  replace KR0 := KR0.on hb37
  replace KX9 := KX9.on hb37
  replace KX13 := KX13.on hb37
  replace KR17 := KR17.on hb37
  replace KX23 := KX23.on hb37
  replace KR25 := KR25.on hb37
  replace KX30 := KX30.on hb37
  replace KR34 := KR34.on hb37
  go_wp2_with (first | (with_reducible refine load_lframe rfl _ rfl (w.heap.size) rfl _ s0 a0 n0 c0 KR0.here ?_) | (with_reducible refine load_drum rfl _ rfl (w15.heap.size) rfl _ r0 KR17.here ?_) | (with_reducible refine load_iframe rfl _ rfl (w21.heap.size) rfl _ s0 b22 n0 n0 KR25.here ?_) | (with_reducible refine load_drum rfl _ rfl (w32.heap.size) rfl _ r0 KR34.here ?_))
  refine wp_region_S (fun V => Below w38.heap.size w38 V) (by kernel_rfl) (Below.refl _ _).drew ?_
  refine take_val 0 (.agg #[.int .i16 s0, .slice b22 n0 n0]) rfl (by kernel_rfl) (by kernel_rfl) (by kernel_rfl) (fun _ _ _ h => h) rfl (fun V hV => ex_load_iframe _ rfl (w21.heap.size) rfl _ s0 b22 n0 n0 (KR25.at hV)) (Below.refl _ _).drew ?_
  simp only [List.getElem_toArray, List.getElem_cons_zero, List.getElem_cons_succ, Act.put, List.setIfInBounds_toArray, List.set_cons_zero, List.set_cons_succ]
  refine take_val 1 (.agg #[.int .i16 s0, .slice a0 n0 c0]) rfl (by kernel_rfl) (by kernel_rfl) (by kernel_rfl) (fun _ _ _ h => h) rfl (fun V hV => ex_load_lframe _ rfl (w.heap.size) rfl _ s0 a0 n0 c0 (KR0.at hV)) (Below.refl _ _).drew ?_
  simp only [List.getElem_toArray, List.getElem_cons_zero, List.getElem_cons_succ, Act.put, List.setIfInBounds_toArray, List.set_cons_zero, List.set_cons_succ]
  have KQ39 := kp_start w38; have hdKQ39 := below_drew w38
  replace KB := KB.on hdKQ39
  replace KH0 := KH0.on hdKQ39
  replace KH1 := KH1.on hdKQ39
  replace KR0 := KR0.on hdKQ39
  replace KX9 := KX9.on hdKQ39
  replace KX13 := KX13.on hdKQ39
  replace KR17 := KR17.on hdKQ39
  replace KX23 := KX23.on hdKQ39
  replace KR25 := KR25.on hdKQ39
  replace KX30 := KX30.on hdKQ39
  replace KR34 := KR34.on hdKQ39
  clear hdKQ39
  refine step_call 2 21 #[.agg #[.int .i16 s0, .slice a0 n0 c0]] (by kernel_rfl) rfl rfl (by simp [go_sem]) ?_
  refine (toFrame_kp s0 a0 n0 c0 P0 R0 _ (by omega) hs0 (KH0.here)).mono ?_
  rintro e w41 ⟨b42, rfl, hb40, KX43⟩
  replace KB := KB.on hb40
  replace KH0 := KH0.on hb40
  replace KH1 := KH1.on hb40
  replace KR0 := KR0.on hb40
  replace KX9 := KX9.on hb40
  replace KX13 := KX13.on hb40
  replace KR17 := KR17.on hb40
  replace KX23 := KX23.on hb40
  replace KR25 := KR25.on hb40
  replace KX30 := KX30.on hb40
  replace KR34 := KR34.on hb40
  replace KQ39 := KQ39.on hb40
  refine ⟨_, rfl, KQ39.here, ?_⟩
  simp only [List.getElem_toArray, List.getElem_cons_zero, List.getElem_cons_succ, Act.put, List.setIfInBounds_toArray, List.set_cons_zero, List.set_cons_succ]
  refine step_call 3 13 #[.agg #[.int .i16 s0, .slice b22 n0 n0], .agg #[.int .i16 s0, .slice b42 n0 n0]] (by kernel_rfl) rfl rfl (by simp [go_sem]) ?_
  refine (eqFrame_kp s0 _ _ n0 n0 n0 P0 R0 _ (by omega) (KX23.here) (KX43.here)).mono ?_
  rintro e w45 ⟨rfl, hb44⟩
  replace KB := KB.on hb44
  replace KH0 := KH0.on hb44
  replace KH1 := KH1.on hb44
  replace KR0 := KR0.on hb44
  replace KX9 := KX9.on hb44
  replace KX13 := KX13.on hb44
  replace KR17 := KR17.on hb44
  replace KX23 := KX23.on hb44
  replace KR25 := KR25.on hb44
  replace KX30 := KX30.on hb44
  replace KR34 := KR34.on hb44
  replace KQ39 := KQ39.on hb44
  replace KX43 := KX43.on hb44
  refine ⟨_, rfl, KQ39.here, ?_⟩
  simp only [List.getElem_toArray, List.getElem_cons_zero, List.getElem_cons_succ, Act.put, List.setIfInBounds_toArray, List.set_cons_zero, List.set_cons_succ]
  refine take_val 4 (.bool false) rfl (by kernel_rfl) (by kernel_rfl) (by kernel_rfl) (fun _ _ _ h => h) rfl (fun V _ => by simp [go_sem]) KQ39.here ?_
  simp only [List.getElem_toArray, List.getElem_cons_zero, List.getElem_cons_succ, Act.put, List.setIfInBounds_toArray, List.set_cons_zero, List.set_cons_succ]
  refine wpAnyH_done (by kernel_rfl) ?_ _
  clear KQ39
  go_wp2_with (first | (with_reducible refine load_lframe rfl _ rfl (w.heap.size) rfl _ s0 a0 n0 c0 KR0.here ?_) | (with_reducible refine load_drum rfl _ rfl (w15.heap.size) rfl _ r0 KR17.here ?_) | (with_reducible refine load_iframe rfl _ rfl (w21.heap.size) rfl _ s0 b22 n0 n0 KR25.here ?_) | (with_reducible refine load_drum rfl _ rfl (w32.heap.size) rfl _ r0 KR34.here ?_))
  refine (toTune_kp a1 n1 c1 A1 P1 _ (by omega) (KH1.here)).mono ?_
  rintro e w47 ⟨b48, rfl, hb46, KX49⟩
  replace KB := KB.on hb46
  replace KH0 := KH0.on hb46
  replace KH1 := KH1.on hb46
  replace KR0 := KR0.on hb46
  replace KX9 := KX9.on hb46
  replace KX13 := KX13.on hb46
  replace KR17 := KR17.on hb46
  replace KX23 := KX23.on hb46
  replace KR25 := KR25.on hb46
  replace KX30 := KX30.on hb46
  replace KR34 := KR34.on hb46
  replace KX43 := KX43.on hb46
  go_wp2_with (first | (with_reducible refine load_lframe rfl _ rfl (w.heap.size) rfl _ s0 a0 n0 c0 KR0.here ?_) | (with_reducible refine load_drum rfl _ rfl (w15.heap.size) rfl _ r0 KR17.here ?_) | (with_reducible refine load_iframe rfl _ rfl (w21.heap.size) rfl _ s0 b22 n0 n0 KR25.here ?_) | (with_reducible refine load_drum rfl _ rfl (w32.heap.size) rfl _ r0 KR34.here ?_))
  refine (eqTune_kp _ _ n1 n1 n1 A1 P1 _ (by omega) (KX30.here) (KX49.here)).mono ?_
  rintro e w51 ⟨rfl, hb50⟩
  replace KB := KB.on hb50
  replace KH0 := KH0.on hb50
  replace KH1 := KH1.on hb50
  replace KR0 := KR0.on hb50
  replace KX9 := KX9.on hb50
  replace KX13 := KX13.on hb50
  replace KR17 := KR17.on hb50
  replace KX23 := KX23.on hb50
  replace KR25 := KR25.on hb50
  replace KX30 := KX30.on hb50
  replace KR34 := KR34.on hb50
  replace KX43 := KX43.on hb50
  replace KX49 := KX49.on hb50
  go_wp2_with fail
  go_ret
  exact ⟨rfl, KB.here⟩
end Go.Proofs.Ytpfjmoodfodfhaa
