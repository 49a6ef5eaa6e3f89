/- The law FnExactOrderCost: the walk, printed by lawgen.py. No conditions. -/
import Derived.Test.YtmmneedmhmppoaaKp
import Derived.Test.YtmmneedmhmppoaaOc
import Derived.Test.YtmmneedmhmppoaaHeld2
import Derived.Outline
namespace Go.Proofs.Ytmmneedmhmppoaa
open Go.RowKit
set_option linter.unusedVariables false
set_option linter.unusedSimpArgs false

set_option maxRecDepth 100000 in
set_option maxHeartbeats 4000000 in
theorem lawOrderCost (s0 : Int) (a0 : Option Addr) (n0 c0 : Nat) (P0 R0 : Nat → Int) (a1 : Option Addr) (n1 c1 : Nat) (L1 : Nat → Nat → Nat) (a2 : Option Addr) (n2 c2 : Nat) (Z2 : Nat → Int) (w : World) (hn0 : n0 ≤ 9223372036854775807) (hs0 : -32768 ≤ s0 ∧ s0 ≤ 32767) (hP0 : I8 P0) (hR0 : I8 R0) (hh0 : HamIn w a0 n0 P0 R0) (hn1 : n1 ≤ 9223372036854775807) (hL1 : L32 L1) (hh1 : DrumsIn w a1 n1 L1) (hn2 : n2 ≤ 9223372036854775807) (hZ2 : I64 Z2) (hh2 : IntIn w a2 n2 Z2) :
    Calls Try.prog 13 #[.agg #[.int .i16 s0, .slice a0 n0 c0], .slice a1 n1 c1, .slice a2 n2 c2] w fun e w' => e = .returned (.bool true) ∧ Below w.heap.size w w' := by
  have HP0 := Lib.hid hP0; clear hP0
  have HR0 := Lib.hid hR0; clear hR0
  have HL1 := Lib.hid hL1; clear hL1
  have HZ2 := Lib.hid hZ2; clear hZ2
  have KB := Kp.base w
  have KH0 := kp_hamIn hh0; clear hh0
  have KH1 := kp_drumsIn hh1; clear hh1
  have KH2 := kp_intIn hh2; clear hh2
  replace KB := KB.alloc (.cells #[.int .i16 s0, .slice a0 n0 c0] 34)
  replace KH0 := KH0.alloc (.cells #[.int .i16 s0, .slice a0 n0 c0] 34)
  replace KH1 := KH1.alloc (.cells #[.int .i16 s0, .slice a0 n0 c0] 34)
  replace KH2 := KH2.alloc (.cells #[.int .i16 s0, .slice a0 n0 c0] 34)
  have KR0 := kp_new1 w #[.int .i16 s0, .slice a0 n0 c0] 34 (g := w.heap.size) (by simp)
  go_enter Try.func13, Try.ntmps13
  by_cases hg2 : (1048576 : Int) < n2
  · go_wp2_with (first | (with_reducible refine load_lframe rfl _ rfl (w.heap.size) rfl _ s0 a0 n0 c0 KR0.here ?_))
    go_ret
    exact ⟨rfl, KB.here⟩
  go_wp2_with (first | (with_reducible refine load_lframe rfl _ rfl (w.heap.size) rfl _ s0 a0 n0 c0 KR0.here ?_))
  generalize (w.alloc (.cells #[.int .i16 s0, .slice a0 n0 c0] 34)) = w1 at KB KH0 KH1 KH2 KR0 ⊢
  refine (szFrame_kp s0 a0 n0 c0 (1048576) _ (by omega) (by omega)).mono ?_
  rintro e w3 ⟨rfl, hb2⟩
  replace KB := KB.on hb2
  replace KH0 := KH0.on hb2
  replace KH1 := KH1.on hb2
  replace KH2 := KH2.on hb2
  replace KR0 := KR0.on hb2
  by_cases hlw3 : (1048576 : Int) < n0
  · rw [szOf_lt hlw3]
    go_wp2_with (first | (with_reducible refine load_lframe rfl _ rfl (w.heap.size) rfl _ s0 a0 n0 c0 KR0.here ?_))
    go_ret
    exact ⟨rfl, KB.here⟩
  rw [szOf_ge (by omega)]
  go_wp2_with (first | (with_reducible refine load_lframe rfl _ rfl (w.heap.size) rfl _ s0 a0 n0 c0 KR0.here ?_))
  refine (szDrumS_kp a1 n1 c1 (1048576 - (n0 : Int)) _ (by omega) (by omega)).mono ?_
  rintro e w5 ⟨rfl, hb4⟩
  replace KB := KB.on hb4
  replace KH0 := KH0.on hb4
  replace KH1 := KH1.on hb4
  replace KH2 := KH2.on hb4
  replace KR0 := KR0.on hb4
  by_cases hlw5 : (1048576 - (n0 : Int) : Int) < n1
  · rw [szOf_lt hlw5]
    go_wp2_with (first | (with_reducible refine load_lframe rfl _ rfl (w.heap.size) rfl _ s0 a0 n0 c0 KR0.here ?_))
    go_ret
    exact ⟨rfl, KB.here⟩
  rw [szOf_ge (by omega)]
  go_wp2_with (first | (with_reducible refine load_lframe rfl _ rfl (w.heap.size) rfl _ s0 a0 n0 c0 KR0.here ?_))
  refine (toFrame_kp s0 a0 n0 c0 P0 R0 _ (by omega) hs0 (KH0.here)).mono ?_
  rintro e w7 ⟨b8, rfl, hb6, KX9⟩
  replace KB := KB.on hb6
  replace KH0 := KH0.on hb6
  replace KH1 := KH1.on hb6
  replace KH2 := KH2.on hb6
  replace KR0 := KR0.on hb6
  go_wp2_with (first | (with_reducible refine load_lframe rfl _ rfl (w.heap.size) rfl _ s0 a0 n0 c0 KR0.here ?_))
  refine (toDrumS_kp a1 n1 c1 L1 _ (by omega) (KH1.here)).mono ?_
  rintro e w11 ⟨b12, rfl, hb10, KX13⟩
  replace KB := KB.on hb10
  replace KH0 := KH0.on hb10
  replace KH1 := KH1.on hb10
  replace KH2 := KH2.on hb10
  replace KR0 := KR0.on hb10
  replace KX9 := KX9.on hb10
  go_wp2_with (first | (with_reducible refine load_lframe rfl _ rfl (w.heap.size) rfl _ s0 a0 n0 c0 KR0.here ?_))
  refine (toInt64S_kp a2 n2 c2 Z2 _ (by omega) (KH2.here)).mono ?_
  rintro e w15 ⟨b16, rfl, hb14, KX17⟩
  replace KB := KB.on hb14
  replace KH0 := KH0.on hb14
  replace KH1 := KH1.on hb14
  replace KH2 := KH2.on hb14
  replace KR0 := KR0.on hb14
  replace KX9 := KX9.on hb14
  replace KX13 := KX13.on hb14
  go_wp2_with (first | (with_reducible refine load_lframe rfl _ rfl (w.heap.size) rfl _ s0 a0 n0 c0 KR0.here ?_))
  obtain ⟨r0, hr0⟩ : ∃ r, r = ocV s0 n0 P0 R0 n1 L1 n2 Z2 := ⟨_, rfl⟩
  obtain ⟨r1, hr1⟩ : ∃ r, r = ocC s0 n0 P0 R0 n1 L1 n2 Z2 := ⟨_, rfl⟩
  refine (specOrderCost_any s0 b8 n0 n0 P0 R0 b12 n1 n1 L1 b16 n2 n2 Z2 _ hs0 (by omega) HP0.out HR0.out (KX9.here) (by omega) HL1.out (KX13.here) (by omega) HZ2.out (KX17.here)).mono ?_
  rw [← hr0, ← hr1]
  rintro e w19 ⟨rfl, hb18⟩
  have HR_0 := Lib.hid hr0; clear hr0
  have HR_1 := Lib.hid hr1; clear hr1
  replace KB := KB.on hb18
  replace KH0 := KH0.on hb18
  replace KH1 := KH1.on hb18
  replace KH2 := KH2.on hb18
  replace KR0 := KR0.on hb18
  replace KX9 := KX9.on hb18
  replace KX13 := KX13.on hb18
  replace KX17 := KX17.on hb18
  go_wp2_with (first | (with_reducible refine load_lframe rfl _ rfl (w.heap.size) rfl _ s0 a0 n0 c0 KR0.here ?_))
  refine (toFrame_kp s0 a0 n0 c0 P0 R0 _ (by omega) hs0 (KH0.here)).mono ?_
  rintro e w21 ⟨b22, rfl, hb20, KX23⟩
  replace KB := KB.on hb20
  replace KH0 := KH0.on hb20
  replace KH1 := KH1.on hb20
  replace KH2 := KH2.on hb20
  replace KR0 := KR0.on hb20
  replace KX9 := KX9.on hb20
  replace KX13 := KX13.on hb20
  replace KX17 := KX17.on hb20
  replace KB := KB.alloc (.cells #[.int .i16 s0, .slice b22 n0 n0] 43)
  replace KH0 := KH0.alloc (.cells #[.int .i16 s0, .slice b22 n0 n0] 43)
  replace KH1 := KH1.alloc (.cells #[.int .i16 s0, .slice b22 n0 n0] 43)
  replace KH2 := KH2.alloc (.cells #[.int .i16 s0, .slice b22 n0 n0] 43)
  replace KR0 := KR0.alloc (.cells #[.int .i16 s0, .slice b22 n0 n0] 43)
  replace KX9 := KX9.alloc (.cells #[.int .i16 s0, .slice b22 n0 n0] 43)
  replace KX13 := KX13.alloc (.cells #[.int .i16 s0, .slice b22 n0 n0] 43)
  replace KX17 := KX17.alloc (.cells #[.int .i16 s0, .slice b22 n0 n0] 43)
  replace KX23 := KX23.alloc (.cells #[.int .i16 s0, .slice b22 n0 n0] 43)
  have KR25 := kp_new1 w21 #[.int .i16 s0, .slice b22 n0 n0] 43 (g := w21.heap.size) rfl
  go_wp2_with (first | (with_reducible refine load_lframe rfl _ rfl (w.heap.size) rfl _ s0 a0 n0 c0 KR0.here ?_) | (with_reducible refine load_iframe rfl _ rfl (w21.heap.size) rfl _ s0 b22 n0 n0 KR25.here ?_))
  generalize (w21.alloc (.cells #[.int .i16 s0, .slice b22 n0 n0] 43)) = w26 at KB KH0 KH1 KH2 KR0 KX9 KX13 KX17 KX23 KR25 ⊢
  refine (toDrumS_kp a1 n1 c1 L1 _ (by omega) (KH1.here)).mono ?_
  rintro e w28 ⟨b29, rfl, hb27, KX30⟩
  replace KB := KB.on hb27
  replace KH0 := KH0.on hb27
  replace KH1 := KH1.on hb27
  replace KH2 := KH2.on hb27
  replace KR0 := KR0.on hb27
  replace KX9 := KX9.on hb27
  replace KX13 := KX13.on hb27
  replace KX17 := KX17.on hb27
  replace KX23 := KX23.on hb27
  replace KR25 := KR25.on hb27
  go_wp2_with (first | (with_reducible refine load_lframe rfl _ rfl (w.heap.size) rfl _ s0 a0 n0 c0 KR0.here ?_) | (with_reducible refine load_iframe rfl _ rfl (w21.heap.size) rfl _ s0 b22 n0 n0 KR25.here ?_))
  refine (toInt64S_kp a2 n2 c2 Z2 _ (by omega) (KH2.here)).mono ?_
  rintro e w32 ⟨b33, rfl, hb31, KX34⟩
  replace KB := KB.on hb31
  replace KH0 := KH0.on hb31
  replace KH1 := KH1.on hb31
  replace KH2 := KH2.on hb31
  replace KR0 := KR0.on hb31
  replace KX9 := KX9.on hb31
  replace KX13 := KX13.on hb31
  replace KX17 := KX17.on hb31
  replace KX23 := KX23.on hb31
  replace KR25 := KR25.on hb31
  replace KX30 := KX30.on hb31
  go_wp2_with (first | (with_reducible refine load_lframe rfl _ rfl (w.heap.size) rfl _ s0 a0 n0 c0 KR0.here ?_) | (with_reducible refine load_iframe rfl _ rfl (w21.heap.size) rfl _ s0 b22 n0 n0 KR25.here ?_))
  refine (implOrderCost_any s0 b22 n0 n0 P0 R0 b29 n1 n1 L1 b33 n2 n2 Z2 _ hs0 (by omega) HP0.out HR0.out (KX23.here) (by omega) HL1.out (KX30.here) (by omega) HZ2.out (KX34.here)).mono ?_
  rw [← HR_0.out, ← HR_1.out]
  rintro e w36 ⟨rfl, hb35⟩
  replace KB := KB.on hb35
  replace KH0 := KH0.on hb35
  replace KH1 := KH1.on hb35
  replace KH2 := KH2.on hb35
  replace KR0 := KR0.on hb35
  replace KX9 := KX9.on hb35
  replace KX13 := KX13.on hb35
  replace KX17 := KX17.on hb35
  replace KX23 := KX23.on hb35
  replace KR25 := KR25.on hb35
  replace KX30 := KX30.on hb35
  replace KX34 := KX34.on hb35
  go_wp2_with (first | (with_reducible refine load_lframe rfl _ rfl (w.heap.size) rfl _ s0 a0 n0 c0 KR0.here ?_) | (with_reducible refine load_iframe rfl _ rfl (w21.heap.size) rfl _ s0 b22 n0 n0 KR25.here ?_))
  refine wp_region_S (fun V => Below w36.heap.size w36 V) (by kernel_rfl) (Below.refl _ _).drew ?_
  refine take_val 0 (.agg #[.int .i16 s0, .slice b22 n0 n0]) rfl (by kernel_rfl) (by kernel_rfl) (by kernel_rfl) (fun _ _ _ h => h) rfl (fun V hV => ex_load_iframe _ rfl (w21.heap.size) rfl _ s0 b22 n0 n0 (KR25.at hV)) (Below.refl _ _).drew ?_
  simp only [List.getElem_toArray, List.getElem_cons_zero, List.getElem_cons_succ, Act.put, List.setIfInBounds_toArray, List.set_cons_zero, List.set_cons_succ]
  refine take_val 1 (.agg #[.int .i16 s0, .slice a0 n0 c0]) rfl (by kernel_rfl) (by kernel_rfl) (by kernel_rfl) (fun _ _ _ h => h) rfl (fun V hV => ex_load_lframe _ rfl (w.heap.size) rfl _ s0 a0 n0 c0 (KR0.at hV)) (Below.refl _ _).drew ?_
  simp only [List.getElem_toArray, List.getElem_cons_zero, List.getElem_cons_succ, Act.put, List.setIfInBounds_toArray, List.set_cons_zero, List.set_cons_succ]
  have KQ37 := kp_start w36; have hdKQ37 := below_drew w36
  replace KB := KB.on hdKQ37
  replace KH0 := KH0.on hdKQ37
  replace KH1 := KH1.on hdKQ37
  replace KH2 := KH2.on hdKQ37
  replace KR0 := KR0.on hdKQ37
  replace KX9 := KX9.on hdKQ37
  replace KX13 := KX13.on hdKQ37
  replace KX17 := KX17.on hdKQ37
  replace KX23 := KX23.on hdKQ37
  replace KR25 := KR25.on hdKQ37
  replace KX30 := KX30.on hdKQ37
  replace KX34 := KX34.on hdKQ37
  clear hdKQ37
  refine step_call 2 24 #[.agg #[.int .i16 s0, .slice a0 n0 c0]] (by kernel_rfl) rfl rfl (by simp [go_sem]) ?_
  refine (toFrame_kp s0 a0 n0 c0 P0 R0 _ (by omega) hs0 (KH0.here)).mono ?_
  rintro e w39 ⟨b40, rfl, hb38, KX41⟩
  replace KB := KB.on hb38
  replace KH0 := KH0.on hb38
  replace KH1 := KH1.on hb38
  replace KH2 := KH2.on hb38
  replace KR0 := KR0.on hb38
  replace KX9 := KX9.on hb38
  replace KX13 := KX13.on hb38
  replace KX17 := KX17.on hb38
  replace KX23 := KX23.on hb38
  replace KR25 := KR25.on hb38
  replace KX30 := KX30.on hb38
  replace KX34 := KX34.on hb38
  replace KQ37 := KQ37.on hb38
  refine ⟨_, rfl, KQ37.here, ?_⟩
  simp only [List.getElem_toArray, List.getElem_cons_zero, List.getElem_cons_succ, Act.put, List.setIfInBounds_toArray, List.set_cons_zero, List.set_cons_succ]
  refine step_call 3 28 #[.agg #[.int .i16 s0, .slice b22 n0 n0], .agg #[.int .i16 s0, .slice b40 n0 n0]] (by kernel_rfl) rfl rfl (by simp [go_sem]) ?_
  refine (eqFrame_kp s0 _ _ n0 n0 n0 P0 R0 _ (by omega) (KX23.here) (KX41.here)).mono ?_
  rintro e w43 ⟨rfl, hb42⟩
  replace KB := KB.on hb42
  replace KH0 := KH0.on hb42
  replace KH1 := KH1.on hb42
  replace KH2 := KH2.on hb42
  replace KR0 := KR0.on hb42
  replace KX9 := KX9.on hb42
  replace KX13 := KX13.on hb42
  replace KX17 := KX17.on hb42
  replace KX23 := KX23.on hb42
  replace KR25 := KR25.on hb42
  replace KX30 := KX30.on hb42
  replace KX34 := KX34.on hb42
  replace KQ37 := KQ37.on hb42
  replace KX41 := KX41.on hb42
  refine ⟨_, rfl, KQ37.here, ?_⟩
  simp only [List.getElem_toArray, List.getElem_cons_zero, List.getElem_cons_succ, Act.put, List.setIfInBounds_toArray, List.set_cons_zero, List.set_cons_succ]
  refine take_val 4 (.bool false) rfl (by kernel_rfl) (by kernel_rfl) (by kernel_rfl) (fun _ _ _ h => h) rfl (fun V _ => by simp [go_sem]) KQ37.here ?_
  simp only [List.getElem_toArray, List.getElem_cons_zero, List.getElem_cons_succ, Act.put, List.setIfInBounds_toArray, List.set_cons_zero, List.set_cons_succ]
  refine wpAnyH_done (by kernel_rfl) ?_ _
  clear KQ37
  go_wp2_with (first | (with_reducible refine load_lframe rfl _ rfl (w.heap.size) rfl _ s0 a0 n0 c0 KR0.here ?_) | (with_reducible refine load_iframe rfl _ rfl (w21.heap.size) rfl _ s0 b22 n0 n0 KR25.here ?_))
  refine (toDrumS_kp a1 n1 c1 L1 _ (by omega) (KH1.here)).mono ?_
  rintro e w45 ⟨b46, rfl, hb44, KX47⟩
  replace KB := KB.on hb44
  replace KH0 := KH0.on hb44
  replace KH1 := KH1.on hb44
  replace KH2 := KH2.on hb44
  replace KR0 := KR0.on hb44
  replace KX9 := KX9.on hb44
  replace KX13 := KX13.on hb44
  replace KX17 := KX17.on hb44
  replace KX23 := KX23.on hb44
  replace KR25 := KR25.on hb44
  replace KX30 := KX30.on hb44
  replace KX34 := KX34.on hb44
  replace KX41 := KX41.on hb44
  go_wp2_with (first | (with_reducible refine load_lframe rfl _ rfl (w.heap.size) rfl _ s0 a0 n0 c0 KR0.here ?_) | (with_reducible refine load_iframe rfl _ rfl (w21.heap.size) rfl _ s0 b22 n0 n0 KR25.here ?_))
  refine (eqDrumS_kp _ _ n1 n1 n1 L1 _ (by omega) (KX30.here) (KX47.here)).mono ?_
  rintro e w49 ⟨rfl, hb48⟩
  replace KB := KB.on hb48
  replace KH0 := KH0.on hb48
  replace KH1 := KH1.on hb48
  replace KH2 := KH2.on hb48
  replace KR0 := KR0.on hb48
  replace KX9 := KX9.on hb48
  replace KX13 := KX13.on hb48
  replace KX17 := KX17.on hb48
  replace KX23 := KX23.on hb48
  replace KR25 := KR25.on hb48
  replace KX30 := KX30.on hb48
  replace KX34 := KX34.on hb48
  replace KX41 := KX41.on hb48
  replace KX47 := KX47.on hb48
  go_wp2_with (first | (with_reducible refine load_lframe rfl _ rfl (w.heap.size) rfl _ s0 a0 n0 c0 KR0.here ?_) | (with_reducible refine load_iframe rfl _ rfl (w21.heap.size) rfl _ s0 b22 n0 n0 KR25.here ?_))
  refine (toInt64S_kp a2 n2 c2 Z2 _ (by omega) (KH2.here)).mono ?_
  rintro e w51 ⟨b52, rfl, hb50, KX53⟩
  replace KB := KB.on hb50
  replace KH0 := KH0.on hb50
  replace KH1 := KH1.on hb50
  replace KH2 := KH2.on hb50
  replace KR0 := KR0.on hb50
  replace KX9 := KX9.on hb50
  replace KX13 := KX13.on hb50
  replace KX17 := KX17.on hb50
  replace KX23 := KX23.on hb50
  replace KR25 := KR25.on hb50
  replace KX30 := KX30.on hb50
  replace KX34 := KX34.on hb50
  replace KX41 := KX41.on hb50
  replace KX47 := KX47.on hb50
  go_wp2_with (first | (with_reducible refine load_lframe rfl _ rfl (w.heap.size) rfl _ s0 a0 n0 c0 KR0.here ?_) | (with_reducible refine load_iframe rfl _ rfl (w21.heap.size) rfl _ s0 b22 n0 n0 KR25.here ?_))
  refine (eqInt64S_kp _ _ n2 n2 n2 Z2 _ (by omega) (KX34.here) (KX53.here)).mono ?_
  rintro e w55 ⟨rfl, hb54⟩
  replace KB := KB.on hb54
  replace KH0 := KH0.on hb54
  replace KH1 := KH1.on hb54
  replace KH2 := KH2.on hb54
  replace KR0 := KR0.on hb54
  replace KX9 := KX9.on hb54
  replace KX13 := KX13.on hb54
  replace KX17 := KX17.on hb54
  replace KX23 := KX23.on hb54
  replace KR25 := KR25.on hb54
  replace KX30 := KX30.on hb54
  replace KX34 := KX34.on hb54
  replace KX41 := KX41.on hb54
  replace KX47 := KX47.on hb54
  replace KX53 := KX53.on hb54
  go_wp2_with fail
  go_ret
  exact ⟨rfl, KB.here⟩
end Go.Proofs.Ytmmneedmhmppoaa
