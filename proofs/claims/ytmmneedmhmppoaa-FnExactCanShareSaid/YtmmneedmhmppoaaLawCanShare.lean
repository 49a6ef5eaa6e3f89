/- The law FnExactCanShare: the walk, printed by lawgen.py. No conditions. -/
import Derived.Test.YtmmneedmhmppoaaKp
import Derived.Test.YtmmneedmhmppoaaCs
import Derived.Outline
namespace Go.Proofs.Ytmmneedmhmppoaa
open Go.RowKit
set_option linter.unusedVariables false
set_option linter.unusedSimpArgs false

set_option maxRecDepth 100000 in
set_option maxHeartbeats 4000000 in
theorem lawCanShare (s0 : Int) (a0 : Option Addr) (n0 c0 : Nat) (P0 R0 : Nat → Int) (D1 : Nat → Nat) (D2 : Nat → Nat) (w : World) (hn0 : n0 ≤ 9223372036854775807) (hs0 : -32768 ≤ s0 ∧ s0 ≤ 32767) (hP0 : I8 P0) (hR0 : I8 R0) (hh0 : HamIn w a0 n0 P0 R0) (hD1 : D32 D1) (hD2 : D32 D2) :
    Calls Try.prog 5 #[.agg #[.int .i16 s0, .slice a0 n0 c0], .agg (dc D1), .agg (dc D2)] w fun e w' => e = .returned (.bool true) ∧ Below w.heap.size w w' := by
  have HP0 := Lib.hid hP0; clear hP0
  have HR0 := Lib.hid hR0; clear hR0
  have HD1 := Lib.hid hD1; clear hD1
  have HD2 := Lib.hid hD2; clear hD2
  have KB := Kp.base w
  have KH0 := kp_hamIn hh0; clear hh0
  replace KB := KB.alloc (.cells #[.int .i16 s0, .slice a0 n0 c0] 34)
  replace KH0 := KH0.alloc (.cells #[.int .i16 s0, .slice a0 n0 c0] 34)
  have KR0 := kp_new1 w #[.int .i16 s0, .slice a0 n0 c0] 34 (g := w.heap.size) (by simp)
  replace KB := KB.alloc (.cells (dc D1) 36)
  replace KH0 := KH0.alloc (.cells (dc D1) 36)
  replace KR0 := KR0.alloc (.cells (dc D1) 36)
  have KR1 := kp_newd (w.alloc (.cells #[.int .i16 s0, .slice a0 n0 c0] 34)) D1 36 (g := w.heap.size + 1) (by simp)
  replace KB := KB.alloc (.cells (dc D2) 36)
  replace KH0 := KH0.alloc (.cells (dc D2) 36)
  replace KR0 := KR0.alloc (.cells (dc D2) 36)
  replace KR1 := KR1.alloc (.cells (dc D2) 36)
  have KR2 := kp_newd ((w.alloc (.cells #[.int .i16 s0, .slice a0 n0 c0] 34)).alloc (.cells (dc D1) 36)) D2 36 (g := w.heap.size + 1 + 1) (by simp)
  go_enter Try.func5, Try.ntmps5
  go_wp2_with (first | (with_reducible refine load_lframe rfl _ rfl (w.heap.size) rfl _ s0 a0 n0 c0 KR0.here ?_) | (with_reducible refine load_arr rfl _ rfl (w.heap.size + 1) rfl _ D1 KR1.here ?_) | (with_reducible refine load_arr rfl _ rfl (w.heap.size + 1 + 1) rfl _ D2 KR2.here ?_))
  generalize (((w.alloc (.cells #[.int .i16 s0, .slice a0 n0 c0] 34)).alloc (.cells (dc D1) 36)).alloc (.cells (dc D2) 36)) = w1 at KB KH0 KR0 KR1 KR2 ⊢
  refine (szFrame_kp s0 a0 n0 c0 (1048576) _ (by omega) (by omega)).mono ?_
  rintro e w3 ⟨rfl, hb2⟩
  replace KB := KB.on hb2
  replace KH0 := KH0.on hb2
  replace KR0 := KR0.on hb2
  replace KR1 := KR1.on hb2
  replace KR2 := KR2.on hb2
  by_cases hlw3 : (1048576 : Int) < n0
  · rw [szOf_lt hlw3]
    go_wp2_with (first | (with_reducible refine load_lframe rfl _ rfl (w.heap.size) rfl _ s0 a0 n0 c0 KR0.here ?_) | (with_reducible refine load_arr rfl _ rfl (w.heap.size + 1) rfl _ D1 KR1.here ?_) | (with_reducible refine load_arr rfl _ rfl (w.heap.size + 1 + 1) rfl _ D2 KR2.here ?_))
    go_ret
    exact ⟨rfl, KB.here⟩
  rw [szOf_ge (by omega)]
  go_wp2_with (first | (with_reducible refine load_lframe rfl _ rfl (w.heap.size) rfl _ s0 a0 n0 c0 KR0.here ?_) | (with_reducible refine load_arr rfl _ rfl (w.heap.size + 1) rfl _ D1 KR1.here ?_) | (with_reducible refine load_arr rfl _ rfl (w.heap.size + 1 + 1) rfl _ D2 KR2.here ?_))
  refine wp_region_S (fun V => Below w3.heap.size w3 V) (by kernel_rfl) (Below.refl _ _).drew ?_
  refine take_val 0 (.agg #[.int .i16 s0, .slice a0 n0 c0]) rfl (by kernel_rfl) (by kernel_rfl) (by kernel_rfl) (fun _ _ _ h => h) rfl (fun V hV => ex_load_lframe _ rfl (w.heap.size) rfl _ s0 a0 n0 c0 (KR0.at hV)) (Below.refl _ _).drew ?_
  simp only [List.getElem_toArray, List.getElem_cons_zero, List.getElem_cons_succ, Act.put, List.setIfInBounds_toArray, List.set_cons_zero, List.set_cons_succ]
  refine take_val 2 (.agg (dc D1)) rfl (by kernel_rfl) (by kernel_rfl) (by kernel_rfl) (fun _ _ _ h => h) rfl (fun V hV => ex_load_arr _ rfl (w.heap.size + 1) rfl _ D1 (KR1.at hV)) (Below.refl _ _).drew ?_
  simp only [List.getElem_toArray, List.getElem_cons_zero, List.getElem_cons_succ, Act.put, List.setIfInBounds_toArray, List.set_cons_zero, List.set_cons_succ]
  refine take_val 4 (.agg (dc D2)) rfl (by kernel_rfl) (by kernel_rfl) (by kernel_rfl) (fun _ _ _ h => h) rfl (fun V hV => ex_load_arr _ rfl (w.heap.size + 1 + 1) rfl _ D2 (KR2.at hV)) (Below.refl _ _).drew ?_
  simp only [List.getElem_toArray, List.getElem_cons_zero, List.getElem_cons_succ, Act.put, List.setIfInBounds_toArray, List.set_cons_zero, List.set_cons_succ]
  have KQ4 := kp_start w3; have hdKQ4 := below_drew w3
  replace KB := KB.on hdKQ4
  replace KH0 := KH0.on hdKQ4
  replace KR0 := KR0.on hdKQ4
  replace KR1 := KR1.on hdKQ4
  replace KR2 := KR2.on hdKQ4
  clear hdKQ4
  refine step_call 1 24 #[.agg #[.int .i16 s0, .slice a0 n0 c0]] (by kernel_rfl) rfl rfl (by simp [go_sem]) ?_
  refine (toFrame_kp s0 a0 n0 c0 P0 R0 _ (by omega) hs0 (KH0.here)).mono ?_
  rintro e w6 ⟨b7, rfl, hb5, KX8⟩
  replace KB := KB.on hb5
  replace KH0 := KH0.on hb5
  replace KR0 := KR0.on hb5
  replace KR1 := KR1.on hb5
  replace KR2 := KR2.on hb5
  replace KQ4 := KQ4.on hb5
  refine ⟨_, rfl, KQ4.here, ?_⟩
  simp only [List.getElem_toArray, List.getElem_cons_zero, List.getElem_cons_succ, Act.put, List.setIfInBounds_toArray, List.set_cons_zero, List.set_cons_succ]
  refine step_call 3 25 #[.agg (dc D1)] (by kernel_rfl) rfl rfl (by simp [go_sem]) ?_
  refine (toDrum_any D1 _).mono ?_
  rintro e w10 ⟨rfl, hb9⟩
  replace KB := KB.on hb9
  replace KH0 := KH0.on hb9
  replace KR0 := KR0.on hb9
  replace KR1 := KR1.on hb9
  replace KR2 := KR2.on hb9
  replace KQ4 := KQ4.on hb9
  replace KX8 := KX8.on hb9
  refine ⟨_, rfl, KQ4.here, ?_⟩
  simp only [List.getElem_toArray, List.getElem_cons_zero, List.getElem_cons_succ, Act.put, List.setIfInBounds_toArray, List.set_cons_zero, List.set_cons_succ]
  refine step_call 5 25 #[.agg (dc D2)] (by kernel_rfl) rfl rfl (by simp [go_sem]) ?_
  refine (toDrum_any D2 _).mono ?_
  rintro e w12 ⟨rfl, hb11⟩
  replace KB := KB.on hb11
  replace KH0 := KH0.on hb11
  replace KR0 := KR0.on hb11
  replace KR1 := KR1.on hb11
  replace KR2 := KR2.on hb11
  replace KQ4 := KQ4.on hb11
  replace KX8 := KX8.on hb11
  refine ⟨_, rfl, KQ4.here, ?_⟩
  simp only [List.getElem_toArray, List.getElem_cons_zero, List.getElem_cons_succ, Act.put, List.setIfInBounds_toArray, List.set_cons_zero, List.set_cons_succ]
  refine step_call 6 32 #[.agg #[.int .i16 s0, .slice b7 n0 n0], .agg (dc D1), .agg (dc D2)] (by kernel_rfl) rfl rfl (by simp [go_sem]) ?_
  obtain ⟨r0, hr0⟩ : ∃ r, r = csV s0 n0 P0 R0 D1 D2 := ⟨_, rfl⟩
  obtain ⟨r1, hr1⟩ : ∃ r, r = unl (ok2 s0 n0 P0 R0 D1 D2) 1 := ⟨_, rfl⟩
  refine (specCanShare_any s0 b7 n0 n0 P0 R0 D1 D2 _ hs0 (by omega) HP0.out HR0.out (KX8.here) HD1.out HD2.out).mono ?_
  rw [← hr0, ← hr1]
  rintro e w14 ⟨rfl, hb13⟩
  have HR_0 := Lib.hid hr0; clear hr0
  have HR_1 := Lib.hid hr1; clear hr1
  replace KB := KB.on hb13
  replace KH0 := KH0.on hb13
  replace KR0 := KR0.on hb13
  replace KR1 := KR1.on hb13
  replace KR2 := KR2.on hb13
  replace KQ4 := KQ4.on hb13
  replace KX8 := KX8.on hb13
  refine ⟨_, rfl, KQ4.here, ?_⟩
  simp only [List.getElem_toArray, List.getElem_cons_zero, List.getElem_cons_succ, Act.put, List.setIfInBounds_toArray, List.set_cons_zero, List.set_cons_succ]
  refine take_val 7 (.tuple #[.bool r0, .int .i64 r1]) rfl (by kernel_rfl) (by kernel_rfl) (by kernel_rfl) (fun _ _ _ h => h) rfl (fun V _ => by simp [go_sem]) KQ4.here ?_
  simp only [List.getElem_toArray, List.getElem_cons_zero, List.getElem_cons_succ, Act.put, List.setIfInBounds_toArray, List.set_cons_zero, List.set_cons_succ]
  refine take_val 8 (.bool r0) rfl (by kernel_rfl) (by kernel_rfl) (by kernel_rfl) (fun _ _ _ h => h) rfl (fun V _ => by simp [go_sem]) KQ4.here ?_
  simp only [List.getElem_toArray, List.getElem_cons_zero, List.getElem_cons_succ, Act.put, List.setIfInBounds_toArray, List.set_cons_zero, List.set_cons_succ]
  refine take_val 9 (.int .i64 r1) rfl (by kernel_rfl) (by kernel_rfl) (by kernel_rfl) (fun _ _ _ h => h) rfl (fun V _ => by simp [go_sem]) KQ4.here ?_
  simp only [List.getElem_toArray, List.getElem_cons_zero, List.getElem_cons_succ, Act.put, List.setIfInBounds_toArray, List.set_cons_zero, List.set_cons_succ]
  refine take_val 10 (.bool r0) rfl (by kernel_rfl) (by kernel_rfl) (by kernel_rfl) (fun _ _ _ h => h) rfl (fun V _ => by simp [go_sem]) KQ4.here ?_
  simp only [List.getElem_toArray, List.getElem_cons_zero, List.getElem_cons_succ, Act.put, List.setIfInBounds_toArray, List.set_cons_zero, List.set_cons_succ]
  refine take_val 11 (.int .i64 r1) rfl (by kernel_rfl) (by kernel_rfl) (by kernel_rfl) (fun _ _ _ h => h) rfl (fun V _ => by simp [go_sem]) KQ4.here ?_
  simp only [List.getElem_toArray, List.getElem_cons_zero, List.getElem_cons_succ, Act.put, List.setIfInBounds_toArray, List.set_cons_zero, List.set_cons_succ]
  refine wpAnyH_done (by kernel_rfl) ?_ _
  clear KQ4
  go_wp2_with (first | (with_reducible refine load_lframe rfl _ rfl (w.heap.size) rfl _ s0 a0 n0 c0 KR0.here ?_) | (with_reducible refine load_arr rfl _ rfl (w.heap.size + 1) rfl _ D1 KR1.here ?_) | (with_reducible refine load_arr rfl _ rfl (w.heap.size + 1 + 1) rfl _ D2 KR2.here ?_))
  refine (toFrame_kp s0 a0 n0 c0 P0 R0 _ (by omega) hs0 (KH0.here)).mono ?_
  rintro e w16 ⟨b17, rfl, hb15, KX18⟩
  replace KB := KB.on hb15
  replace KH0 := KH0.on hb15
  replace KR0 := KR0.on hb15
  replace KR1 := KR1.on hb15
  replace KR2 := KR2.on hb15
  replace KX8 := KX8.on hb15
  replace KB := KB.alloc (.cells #[.int .i16 s0, .slice b17 n0 n0] 43)
  replace KH0 := KH0.alloc (.cells #[.int .i16 s0, .slice b17 n0 n0] 43)
  replace KR0 := KR0.alloc (.cells #[.int .i16 s0, .slice b17 n0 n0] 43)
  replace KR1 := KR1.alloc (.cells #[.int .i16 s0, .slice b17 n0 n0] 43)
  replace KR2 := KR2.alloc (.cells #[.int .i16 s0, .slice b17 n0 n0] 43)
  replace KX8 := KX8.alloc (.cells #[.int .i16 s0, .slice b17 n0 n0] 43)
  replace KX18 := KX18.alloc (.cells #[.int .i16 s0, .slice b17 n0 n0] 43)
  have KR20 := kp_new1 w16 #[.int .i16 s0, .slice b17 n0 n0] 43 (g := w16.heap.size) rfl
  go_wp2_with (first | (with_reducible refine load_lframe rfl _ rfl (w.heap.size) rfl _ s0 a0 n0 c0 KR0.here ?_) | (with_reducible refine load_arr rfl _ rfl (w.heap.size + 1) rfl _ D1 KR1.here ?_) | (with_reducible refine load_arr rfl _ rfl (w.heap.size + 1 + 1) rfl _ D2 KR2.here ?_) | (with_reducible refine load_iframe rfl _ rfl (w16.heap.size) rfl _ s0 b17 n0 n0 KR20.here ?_))
  generalize (w16.alloc (.cells #[.int .i16 s0, .slice b17 n0 n0] 43)) = w21 at KB KH0 KR0 KR1 KR2 KX8 KX18 KR20 ⊢
  refine wp_region_S (fun V => Below w21.heap.size w21 V) (by kernel_rfl) (Below.refl _ _).drew ?_
  refine take_val 0 (.agg #[.int .i16 s0, .slice b17 n0 n0]) rfl (by kernel_rfl) (by kernel_rfl) (by kernel_rfl) (fun _ _ _ h => h) rfl (fun V hV => ex_load_iframe _ rfl (w16.heap.size) rfl _ s0 b17 n0 n0 (KR20.at hV)) (Below.refl _ _).drew ?_
  simp only [List.getElem_toArray, List.getElem_cons_zero, List.getElem_cons_succ, Act.put, List.setIfInBounds_toArray, List.set_cons_zero, List.set_cons_succ]
  refine take_val 1 (.agg (dc D1)) rfl (by kernel_rfl) (by kernel_rfl) (by kernel_rfl) (fun _ _ _ h => h) rfl (fun V hV => ex_load_arr _ rfl (w.heap.size + 1) rfl _ D1 (KR1.at hV)) (Below.refl _ _).drew ?_
  simp only [List.getElem_toArray, List.getElem_cons_zero, List.getElem_cons_succ, Act.put, List.setIfInBounds_toArray, List.set_cons_zero, List.set_cons_succ]
  refine take_val 3 (.agg (dc D2)) rfl (by kernel_rfl) (by kernel_rfl) (by kernel_rfl) (fun _ _ _ h => h) rfl (fun V hV => ex_load_arr _ rfl (w.heap.size + 1 + 1) rfl _ D2 (KR2.at hV)) (Below.refl _ _).drew ?_
  simp only [List.getElem_toArray, List.getElem_cons_zero, List.getElem_cons_succ, Act.put, List.setIfInBounds_toArray, List.set_cons_zero, List.set_cons_succ]
  have KQ22 := kp_start w21; have hdKQ22 := below_drew w21
  replace KB := KB.on hdKQ22
  replace KH0 := KH0.on hdKQ22
  replace KR0 := KR0.on hdKQ22
  replace KR1 := KR1.on hdKQ22
  replace KR2 := KR2.on hdKQ22
  replace KX8 := KX8.on hdKQ22
  replace KX18 := KX18.on hdKQ22
  replace KR20 := KR20.on hdKQ22
  clear hdKQ22
  refine step_call 2 25 #[.agg (dc D1)] (by kernel_rfl) rfl rfl (by simp [go_sem]) ?_
  refine (toDrum_any D1 _).mono ?_
  rintro e w24 ⟨rfl, hb23⟩
  replace KB := KB.on hb23
  replace KH0 := KH0.on hb23
  replace KR0 := KR0.on hb23
  replace KR1 := KR1.on hb23
  replace KR2 := KR2.on hb23
  replace KX8 := KX8.on hb23
  replace KX18 := KX18.on hb23
  replace KR20 := KR20.on hb23
  replace KQ22 := KQ22.on hb23
  refine ⟨_, rfl, KQ22.here, ?_⟩
  simp only [List.getElem_toArray, List.getElem_cons_zero, List.getElem_cons_succ, Act.put, List.setIfInBounds_toArray, List.set_cons_zero, List.set_cons_succ]
  refine step_call 4 25 #[.agg (dc D2)] (by kernel_rfl) rfl rfl (by simp [go_sem]) ?_
  refine (toDrum_any D2 _).mono ?_
  rintro e w26 ⟨rfl, hb25⟩
  replace KB := KB.on hb25
  replace KH0 := KH0.on hb25
  replace KR0 := KR0.on hb25
  replace KR1 := KR1.on hb25
  replace KR2 := KR2.on hb25
  replace KX8 := KX8.on hb25
  replace KX18 := KX18.on hb25
  replace KR20 := KR20.on hb25
  replace KQ22 := KQ22.on hb25
  refine ⟨_, rfl, KQ22.here, ?_⟩
  simp only [List.getElem_toArray, List.getElem_cons_zero, List.getElem_cons_succ, Act.put, List.setIfInBounds_toArray, List.set_cons_zero, List.set_cons_succ]
  refine step_call 5 33 #[.agg #[.int .i16 s0, .slice b17 n0 n0], .agg (dc D1), .agg (dc D2)] (by kernel_rfl) rfl rfl (by simp [go_sem]) ?_
  refine (implCanShare_any s0 b17 n0 n0 P0 R0 D1 D2 _ hs0 (by omega) HP0.out HR0.out (KX18.here) HD1.out HD2.out).mono ?_
  rw [← HR_0.out, ← HR_1.out]
  rintro e w28 ⟨rfl, hb27⟩
  replace KB := KB.on hb27
  replace KH0 := KH0.on hb27
  replace KR0 := KR0.on hb27
  replace KR1 := KR1.on hb27
  replace KR2 := KR2.on hb27
  replace KX8 := KX8.on hb27
  replace KX18 := KX18.on hb27
  replace KR20 := KR20.on hb27
  replace KQ22 := KQ22.on hb27
  refine ⟨_, rfl, KQ22.here, ?_⟩
  simp only [List.getElem_toArray, List.getElem_cons_zero, List.getElem_cons_succ, Act.put, List.setIfInBounds_toArray, List.set_cons_zero, List.set_cons_succ]
  refine take_val 6 (.tuple #[.bool r0, .int .i64 r1]) rfl (by kernel_rfl) (by kernel_rfl) (by kernel_rfl) (fun _ _ _ h => h) rfl (fun V _ => by simp [go_sem]) KQ22.here ?_
  simp only [List.getElem_toArray, List.getElem_cons_zero, List.getElem_cons_succ, Act.put, List.setIfInBounds_toArray, List.set_cons_zero, List.set_cons_succ]
  refine take_val 7 (.bool r0) rfl (by kernel_rfl) (by kernel_rfl) (by kernel_rfl) (fun _ _ _ h => h) rfl (fun V _ => by simp [go_sem]) KQ22.here ?_
  simp only [List.getElem_toArray, List.getElem_cons_zero, List.getElem_cons_succ, Act.put, List.setIfInBounds_toArray, List.set_cons_zero, List.set_cons_succ]
  refine take_val 8 (.int .i64 r1) rfl (by kernel_rfl) (by kernel_rfl) (by kernel_rfl) (fun _ _ _ h => h) rfl (fun V _ => by simp [go_sem]) KQ22.here ?_
  simp only [List.getElem_toArray, List.getElem_cons_zero, List.getElem_cons_succ, Act.put, List.setIfInBounds_toArray, List.set_cons_zero, List.set_cons_succ]
  refine take_val 9 (.bool r0) rfl (by kernel_rfl) (by kernel_rfl) (by kernel_rfl) (fun _ _ _ h => h) rfl (fun V _ => by simp [go_sem]) KQ22.here ?_
  simp only [List.getElem_toArray, List.getElem_cons_zero, List.getElem_cons_succ, Act.put, List.setIfInBounds_toArray, List.set_cons_zero, List.set_cons_succ]
  refine take_val 10 (.int .i64 r1) rfl (by kernel_rfl) (by kernel_rfl) (by kernel_rfl) (fun _ _ _ h => h) rfl (fun V _ => by simp [go_sem]) KQ22.here ?_
  simp only [List.getElem_toArray, List.getElem_cons_zero, List.getElem_cons_succ, Act.put, List.setIfInBounds_toArray, List.set_cons_zero, List.set_cons_succ]
  refine wpAnyH_done (by kernel_rfl) ?_ _
  clear KQ22
  go_wp2_with (first | (with_reducible refine load_lframe rfl _ rfl (w.heap.size) rfl _ s0 a0 n0 c0 KR0.here ?_) | (with_reducible refine load_arr rfl _ rfl (w.heap.size + 1) rfl _ D1 KR1.here ?_) | (with_reducible refine load_arr rfl _ rfl (w.heap.size + 1 + 1) rfl _ D2 KR2.here ?_) | (with_reducible refine load_iframe rfl _ rfl (w16.heap.size) rfl _ s0 b17 n0 n0 KR20.here ?_))
  refine wp_region_S (fun V => Below w28.heap.size w28 V) (by kernel_rfl) (Below.refl _ _).drew ?_
  refine take_val 0 (.agg #[.int .i16 s0, .slice b17 n0 n0]) rfl (by kernel_rfl) (by kernel_rfl) (by kernel_rfl) (fun _ _ _ h => h) rfl (fun V hV => ex_load_iframe _ rfl (w16.heap.size) rfl _ s0 b17 n0 n0 (KR20.at hV)) (Below.refl _ _).drew ?_
  simp only [List.getElem_toArray, List.getElem_cons_zero, List.getElem_cons_succ, Act.put, List.setIfInBounds_toArray, List.set_cons_zero, List.set_cons_succ]
  refine take_val 1 (.agg #[.int .i16 s0, .slice a0 n0 c0]) rfl (by kernel_rfl) (by kernel_rfl) (by kernel_rfl) (fun _ _ _ h => h) rfl (fun V hV => ex_load_lframe _ rfl (w.heap.size) rfl _ s0 a0 n0 c0 (KR0.at hV)) (Below.refl _ _).drew ?_
  simp only [List.getElem_toArray, List.getElem_cons_zero, List.getElem_cons_succ, Act.put, List.setIfInBounds_toArray, List.set_cons_zero, List.set_cons_succ]
  have KQ29 := kp_start w28; have hdKQ29 := below_drew w28
  replace KB := KB.on hdKQ29
  replace KH0 := KH0.on hdKQ29
  replace KR0 := KR0.on hdKQ29
  replace KR1 := KR1.on hdKQ29
  replace KR2 := KR2.on hdKQ29
  replace KX8 := KX8.on hdKQ29
  replace KX18 := KX18.on hdKQ29
  replace KR20 := KR20.on hdKQ29
  clear hdKQ29
  refine step_call 2 24 #[.agg #[.int .i16 s0, .slice a0 n0 c0]] (by kernel_rfl) rfl rfl (by simp [go_sem]) ?_
  refine (toFrame_kp s0 a0 n0 c0 P0 R0 _ (by omega) hs0 (KH0.here)).mono ?_
  rintro e w31 ⟨b32, rfl, hb30, KX33⟩
  replace KB := KB.on hb30
  replace KH0 := KH0.on hb30
  replace KR0 := KR0.on hb30
  replace KR1 := KR1.on hb30
  replace KR2 := KR2.on hb30
  replace KX8 := KX8.on hb30
  replace KX18 := KX18.on hb30
  replace KR20 := KR20.on hb30
  replace KQ29 := KQ29.on hb30
  refine ⟨_, rfl, KQ29.here, ?_⟩
  simp only [List.getElem_toArray, List.getElem_cons_zero, List.getElem_cons_succ, Act.put, List.setIfInBounds_toArray, List.set_cons_zero, List.set_cons_succ]
  refine step_call 3 28 #[.agg #[.int .i16 s0, .slice b17 n0 n0], .agg #[.int .i16 s0, .slice b32 n0 n0]] (by kernel_rfl) rfl rfl (by simp [go_sem]) ?_
  refine (eqFrame_kp s0 _ _ n0 n0 n0 P0 R0 _ (by omega) (KX18.here) (KX33.here)).mono ?_
  rintro e w35 ⟨rfl, hb34⟩
  replace KB := KB.on hb34
  replace KH0 := KH0.on hb34
  replace KR0 := KR0.on hb34
  replace KR1 := KR1.on hb34
  replace KR2 := KR2.on hb34
  replace KX8 := KX8.on hb34
  replace KX18 := KX18.on hb34
  replace KR20 := KR20.on hb34
  replace KQ29 := KQ29.on hb34
  replace KX33 := KX33.on hb34
  refine ⟨_, rfl, KQ29.here, ?_⟩
  simp only [List.getElem_toArray, List.getElem_cons_zero, List.getElem_cons_succ, Act.put, List.setIfInBounds_toArray, List.set_cons_zero, List.set_cons_succ]
  refine take_val 4 (.bool false) rfl (by kernel_rfl) (by kernel_rfl) (by kernel_rfl) (fun _ _ _ h => h) rfl (fun V _ => by simp [go_sem]) KQ29.here ?_
  simp only [List.getElem_toArray, List.getElem_cons_zero, List.getElem_cons_succ, Act.put, List.setIfInBounds_toArray, List.set_cons_zero, List.set_cons_succ]
  refine wpAnyH_done (by kernel_rfl) ?_ _
  clear KQ29
  go_wp2_with fail
  go_ret
  exact ⟨rfl, KB.here⟩
end Go.Proofs.Ytmmneedmhmppoaa
