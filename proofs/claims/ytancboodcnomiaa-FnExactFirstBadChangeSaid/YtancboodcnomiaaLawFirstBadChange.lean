/- The law FnExactFirstBadChange: the walk, printed by lawgen.py. No conditions. -/
import Derived.Test.YtancboodcnomiaaKp
import Derived.Test.YtancboodcnomiaaMc
import Derived.Outline
namespace Go.Proofs.Ytancboodcnomiaa
open Go.RowKit
set_option linter.unusedVariables false
set_option linter.unusedSimpArgs false

set_option maxRecDepth 100000 in
set_option maxHeartbeats 4000000 in
theorem lawFirstBadChange (s0 : Int) (a0 : Option Addr) (n0 c0 : Nat) (P0 R0 : Nat → Int) (D1 : Nat → Nat) (a2 : Option Addr) (n2 c2 : Nat) (S2 K2 : Nat → Int) (U2 : Nat → Bool) (w : World) (hn0 : n0 ≤ 9223372036854775807) (hs0 : -32768 ≤ s0 ∧ s0 ≤ 32767) (hP0 : I8 P0) (hR0 : I8 R0) (hh0 : HamIn w a0 n0 P0 R0) (hD1 : D32 D1) (hn2 : n2 ≤ 9223372036854775807) (hS2 : I16 S2) (hK2 : I8 K2) (hh2 : ChgIn w a2 n2 S2 K2 U2) :
    Calls Try.prog 9 #[.agg #[.int .i16 s0, .slice a0 n0 c0], .agg (dc D1), .slice a2 n2 c2] w fun e w' => e = .returned (.bool true) ∧ Below w.heap.size w w' := by
  have HP0 := Lib.hid hP0; clear hP0
  have HR0 := Lib.hid hR0; clear hR0
  have HD1 := Lib.hid hD1; clear hD1
  have HS2 := Lib.hid hS2; clear hS2
  have HK2 := Lib.hid hK2; clear hK2
  have KB := Kp.base w
  have KH0 := kp_hamIn hh0; clear hh0
  have KH2 := kp_chgIn hh2; clear hh2
  replace KB := KB.alloc (.cells #[.int .i16 s0, .slice a0 n0 c0] 25)
  replace KH0 := KH0.alloc (.cells #[.int .i16 s0, .slice a0 n0 c0] 25)
  replace KH2 := KH2.alloc (.cells #[.int .i16 s0, .slice a0 n0 c0] 25)
  have KR0 := kp_new1 w #[.int .i16 s0, .slice a0 n0 c0] 25 (g := w.heap.size) (by simp)
  replace KB := KB.alloc (.cells (dc D1) 58)
  replace KH0 := KH0.alloc (.cells (dc D1) 58)
  replace KH2 := KH2.alloc (.cells (dc D1) 58)
  replace KR0 := KR0.alloc (.cells (dc D1) 58)
  have KR1 := kp_newd (w.alloc (.cells #[.int .i16 s0, .slice a0 n0 c0] 25)) D1 58 (g := w.heap.size + 1) (by simp)
  go_enter Try.func9, Try.ntmps9
  go_wp2_with (first | (with_reducible refine load_lframe rfl _ rfl (w.heap.size) rfl _ s0 a0 n0 c0 KR0.here ?_) | (with_reducible refine load_arr rfl _ rfl (w.heap.size + 1) rfl _ D1 KR1.here ?_))
  generalize ((w.alloc (.cells #[.int .i16 s0, .slice a0 n0 c0] 25)).alloc (.cells (dc D1) 58)) = w1 at KB KH0 KH2 KR0 KR1 ⊢
  refine (szFrame_kp s0 a0 n0 c0 (1048576) _ (by omega) (by omega)).mono ?_
  rintro e w3 ⟨rfl, hb2⟩
  replace KB := KB.on hb2
  replace KH0 := KH0.on hb2
  replace KH2 := KH2.on hb2
  replace KR0 := KR0.on hb2
  replace KR1 := KR1.on hb2
  by_cases hlw3 : (1048576 : Int) < n0
  · rw [szOf_lt hlw3]
    go_wp2_with (first | (with_reducible refine load_lframe rfl _ rfl (w.heap.size) rfl _ s0 a0 n0 c0 KR0.here ?_) | (with_reducible refine load_arr rfl _ rfl (w.heap.size + 1) rfl _ D1 KR1.here ?_))
    go_ret
    exact ⟨rfl, KB.here⟩
  rw [szOf_ge (by omega)]
  go_wp2_with (first | (with_reducible refine load_lframe rfl _ rfl (w.heap.size) rfl _ s0 a0 n0 c0 KR0.here ?_) | (with_reducible refine load_arr rfl _ rfl (w.heap.size + 1) rfl _ D1 KR1.here ?_))
  refine (szChangeS_kp a2 n2 c2 (1048576 - (n0 : Int)) _ (by omega) (by omega)).mono ?_
  rintro e w5 ⟨rfl, hb4⟩
  replace KB := KB.on hb4
  replace KH0 := KH0.on hb4
  replace KH2 := KH2.on hb4
  replace KR0 := KR0.on hb4
  replace KR1 := KR1.on hb4
  by_cases hlw5 : (1048576 - (n0 : Int) : Int) < n2
  · rw [szOf_lt hlw5]
    go_wp2_with (first | (with_reducible refine load_lframe rfl _ rfl (w.heap.size) rfl _ s0 a0 n0 c0 KR0.here ?_) | (with_reducible refine load_arr rfl _ rfl (w.heap.size + 1) rfl _ D1 KR1.here ?_))
    go_ret
    exact ⟨rfl, KB.here⟩
  rw [szOf_ge (by omega)]
  go_wp2_with (first | (with_reducible refine load_lframe rfl _ rfl (w.heap.size) rfl _ s0 a0 n0 c0 KR0.here ?_) | (with_reducible refine load_arr rfl _ rfl (w.heap.size + 1) rfl _ D1 KR1.here ?_))
  refine wp_region_S (fun V => Below w5.heap.size w5 V) (by kernel_rfl) (Below.refl _ _).drew ?_
  refine take_val 0 (.agg #[.int .i16 s0, .slice a0 n0 c0]) rfl (by kernel_rfl) (by kernel_rfl) (by kernel_rfl) (fun _ _ _ h => h) rfl (fun V hV => ex_load_lframe _ rfl (w.heap.size) rfl _ s0 a0 n0 c0 (KR0.at hV)) (Below.refl _ _).drew ?_
  simp only [List.getElem_toArray, List.getElem_cons_zero, List.getElem_cons_succ, Act.put, List.setIfInBounds_toArray, List.set_cons_zero, List.set_cons_succ]
  refine take_val 2 (.agg (dc D1)) rfl (by kernel_rfl) (by kernel_rfl) (by kernel_rfl) (fun _ _ _ h => h) rfl (fun V hV => ex_load_arr _ rfl (w.heap.size + 1) rfl _ D1 (KR1.at hV)) (Below.refl _ _).drew ?_
  simp only [List.getElem_toArray, List.getElem_cons_zero, List.getElem_cons_succ, Act.put, List.setIfInBounds_toArray, List.set_cons_zero, List.set_cons_succ]
  refine take_val 4 (.slice a2 n2 c2) rfl (by kernel_rfl) (by kernel_rfl) (by kernel_rfl) (fun _ _ _ h => h) rfl (fun V _ => by simp [go_sem]) (Below.refl _ _).drew ?_
  simp only [List.getElem_toArray, List.getElem_cons_zero, List.getElem_cons_succ, Act.put, List.setIfInBounds_toArray, List.set_cons_zero, List.set_cons_succ]
  have KQ6 := kp_start w5; have hdKQ6 := below_drew w5
  replace KB := KB.on hdKQ6
  replace KH0 := KH0.on hdKQ6
  replace KH2 := KH2.on hdKQ6
  replace KR0 := KR0.on hdKQ6
  replace KR1 := KR1.on hdKQ6
  clear hdKQ6
  refine step_call 1 18 #[.agg #[.int .i16 s0, .slice a0 n0 c0]] (by kernel_rfl) rfl rfl (by simp [go_sem]) ?_
  refine (toFrame_kp s0 a0 n0 c0 P0 R0 _ (by omega) hs0 (KH0.here)).mono ?_
  rintro e w8 ⟨b9, rfl, hb7, KX10⟩
  replace KB := KB.on hb7
  replace KH0 := KH0.on hb7
  replace KH2 := KH2.on hb7
  replace KR0 := KR0.on hb7
  replace KR1 := KR1.on hb7
  replace KQ6 := KQ6.on hb7
  refine ⟨_, rfl, KQ6.here, ?_⟩
  simp only [List.getElem_toArray, List.getElem_cons_zero, List.getElem_cons_succ, Act.put, List.setIfInBounds_toArray, List.set_cons_zero, List.set_cons_succ]
  refine step_call 3 36 #[.agg (dc D1)] (by kernel_rfl) rfl rfl (by simp [go_sem]) ?_
  refine (toDrum_any D1 _).mono ?_
  rintro e w12 ⟨rfl, hb11⟩
  replace KB := KB.on hb11
  replace KH0 := KH0.on hb11
  replace KH2 := KH2.on hb11
  replace KR0 := KR0.on hb11
  replace KR1 := KR1.on hb11
  replace KQ6 := KQ6.on hb11
  replace KX10 := KX10.on hb11
  refine ⟨_, rfl, KQ6.here, ?_⟩
  simp only [List.getElem_toArray, List.getElem_cons_zero, List.getElem_cons_succ, Act.put, List.setIfInBounds_toArray, List.set_cons_zero, List.set_cons_succ]
  refine step_call 5 37 #[.slice a2 n2 c2] (by kernel_rfl) rfl rfl (by simp [go_sem]) ?_
  refine (toChangeS_kp a2 n2 c2 S2 K2 U2 _ (by omega) (KH2.here)).mono ?_
  rintro e w14 ⟨b15, rfl, hb13, KX16⟩
  replace KB := KB.on hb13
  replace KH0 := KH0.on hb13
  replace KH2 := KH2.on hb13
  replace KR0 := KR0.on hb13
  replace KR1 := KR1.on hb13
  replace KQ6 := KQ6.on hb13
  replace KX10 := KX10.on hb13
  refine ⟨_, rfl, KQ6.here, ?_⟩
  simp only [List.getElem_toArray, List.getElem_cons_zero, List.getElem_cons_succ, Act.put, List.setIfInBounds_toArray, List.set_cons_zero, List.set_cons_succ]
  refine step_call 6 41 #[.agg #[.int .i16 s0, .slice b9 n0 n0], .agg (dc D1), .slice b15 n2 n2] (by kernel_rfl) rfl rfl (by simp [go_sem]) ?_
  obtain ⟨r0, hr0⟩ : ∃ r, r = fbV s0 n0 P0 R0 D1 n2 S2 K2 U2 := ⟨_, rfl⟩
  obtain ⟨r1, hr1⟩ : ∃ r, r = fbC s0 n0 P0 R0 D1 n2 S2 K2 U2 := ⟨_, rfl⟩
  refine (specFirstBadChange_any s0 b9 n0 n0 P0 R0 D1 b15 n2 n2 S2 K2 U2 _ hs0 (by omega) HP0.out HR0.out (KX10.here) HD1.out (by omega) HS2.out HK2.out (KX16.here)).mono ?_
  rw [← hr0, ← hr1]
  rintro e w18 ⟨rfl, hb17⟩
  have HR_0 := Lib.hid hr0; clear hr0
  have HR_1 := Lib.hid hr1; clear hr1
  replace KB := KB.on hb17
  replace KH0 := KH0.on hb17
  replace KH2 := KH2.on hb17
  replace KR0 := KR0.on hb17
  replace KR1 := KR1.on hb17
  replace KQ6 := KQ6.on hb17
  replace KX10 := KX10.on hb17
  replace KX16 := KX16.on hb17
  refine ⟨_, rfl, KQ6.here, ?_⟩
  simp only [List.getElem_toArray, List.getElem_cons_zero, List.getElem_cons_succ, Act.put, List.setIfInBounds_toArray, List.set_cons_zero, List.set_cons_succ]
  refine take_val 7 (.tuple #[.int .i64 r0, .int .i64 r1]) rfl (by kernel_rfl) (by kernel_rfl) (by kernel_rfl) (fun _ _ _ h => h) rfl (fun V _ => by simp [go_sem]) KQ6.here ?_
  simp only [List.getElem_toArray, List.getElem_cons_zero, List.getElem_cons_succ, Act.put, List.setIfInBounds_toArray, List.set_cons_zero, List.set_cons_succ]
  refine take_val 8 (.int .i64 r0) rfl (by kernel_rfl) (by kernel_rfl) (by kernel_rfl) (fun _ _ _ h => h) rfl (fun V _ => by simp [go_sem]) KQ6.here ?_
  simp only [List.getElem_toArray, List.getElem_cons_zero, List.getElem_cons_succ, Act.put, List.setIfInBounds_toArray, List.set_cons_zero, List.set_cons_succ]
  refine take_val 9 (.int .i64 r1) rfl (by kernel_rfl) (by kernel_rfl) (by kernel_rfl) (fun _ _ _ h => h) rfl (fun V _ => by simp [go_sem]) KQ6.here ?_
  simp only [List.getElem_toArray, List.getElem_cons_zero, List.getElem_cons_succ, Act.put, List.setIfInBounds_toArray, List.set_cons_zero, List.set_cons_succ]
  refine take_val 10 (.int .i64 r0) rfl (by kernel_rfl) (by kernel_rfl) (by kernel_rfl) (fun _ _ _ h => h) rfl (fun V _ => by simp [go_sem]) KQ6.here ?_
  simp only [List.getElem_toArray, List.getElem_cons_zero, List.getElem_cons_succ, Act.put, List.setIfInBounds_toArray, List.set_cons_zero, List.set_cons_succ]
  refine take_val 11 (.int .i64 r1) rfl (by kernel_rfl) (by kernel_rfl) (by kernel_rfl) (fun _ _ _ h => h) rfl (fun V _ => by simp [go_sem]) KQ6.here ?_
  simp only [List.getElem_toArray, List.getElem_cons_zero, List.getElem_cons_succ, Act.put, List.setIfInBounds_toArray, List.set_cons_zero, List.set_cons_succ]
  refine wpAnyH_done (by kernel_rfl) ?_ _
  clear KQ6
  go_wp2_with (first | (with_reducible refine load_lframe rfl _ rfl (w.heap.size) rfl _ s0 a0 n0 c0 KR0.here ?_) | (with_reducible refine load_arr rfl _ rfl (w.heap.size + 1) rfl _ D1 KR1.here ?_))
  refine (toFrame_kp s0 a0 n0 c0 P0 R0 _ (by omega) hs0 (KH0.here)).mono ?_
  rintro e w20 ⟨b21, rfl, hb19, KX22⟩
  replace KB := KB.on hb19
  replace KH0 := KH0.on hb19
  replace KH2 := KH2.on hb19
  replace KR0 := KR0.on hb19
  replace KR1 := KR1.on hb19
  replace KX10 := KX10.on hb19
  replace KX16 := KX16.on hb19
  replace KB := KB.alloc (.cells #[.int .i16 s0, .slice b21 n0 n0] 33)
  replace KH0 := KH0.alloc (.cells #[.int .i16 s0, .slice b21 n0 n0] 33)
  replace KH2 := KH2.alloc (.cells #[.int .i16 s0, .slice b21 n0 n0] 33)
  replace KR0 := KR0.alloc (.cells #[.int .i16 s0, .slice b21 n0 n0] 33)
  replace KR1 := KR1.alloc (.cells #[.int .i16 s0, .slice b21 n0 n0] 33)
  replace KX10 := KX10.alloc (.cells #[.int .i16 s0, .slice b21 n0 n0] 33)
  replace KX16 := KX16.alloc (.cells #[.int .i16 s0, .slice b21 n0 n0] 33)
  replace KX22 := KX22.alloc (.cells #[.int .i16 s0, .slice b21 n0 n0] 33)
  have KR24 := kp_new1 w20 #[.int .i16 s0, .slice b21 n0 n0] 33 (g := w20.heap.size) rfl
  go_wp2_with (first | (with_reducible refine load_lframe rfl _ rfl (w.heap.size) rfl _ s0 a0 n0 c0 KR0.here ?_) | (with_reducible refine load_arr rfl _ rfl (w.heap.size + 1) rfl _ D1 KR1.here ?_) | (with_reducible refine load_iframe rfl _ rfl (w20.heap.size) rfl _ s0 b21 n0 n0 KR24.here ?_))
  generalize (w20.alloc (.cells #[.int .i16 s0, .slice b21 n0 n0] 33)) = w25 at KB KH0 KH2 KR0 KR1 KX10 KX16 KX22 KR24 ⊢
  refine (toChangeS_kp a2 n2 c2 S2 K2 U2 _ (by omega) (KH2.here)).mono ?_
  rintro e w27 ⟨b28, rfl, hb26, KX29⟩
  replace KB := KB.on hb26
  replace KH0 := KH0.on hb26
  replace KH2 := KH2.on hb26
  replace KR0 := KR0.on hb26
  replace KR1 := KR1.on hb26
  replace KX10 := KX10.on hb26
  replace KX16 := KX16.on hb26
  replace KX22 := KX22.on hb26
  replace KR24 := KR24.on hb26
  go_wp2_with (first | (with_reducible refine load_lframe rfl _ rfl (w.heap.size) rfl _ s0 a0 n0 c0 KR0.here ?_) | (with_reducible refine load_arr rfl _ rfl (w.heap.size + 1) rfl _ D1 KR1.here ?_) | (with_reducible refine load_iframe rfl _ rfl (w20.heap.size) rfl _ s0 b21 n0 n0 KR24.here ?_))
  refine wp_region_S (fun V => Below w27.heap.size w27 V) (by kernel_rfl) (Below.refl _ _).drew ?_
  refine take_val 0 (.agg #[.int .i16 s0, .slice b21 n0 n0]) rfl (by kernel_rfl) (by kernel_rfl) (by kernel_rfl) (fun _ _ _ h => h) rfl (fun V hV => ex_load_iframe _ rfl (w20.heap.size) rfl _ s0 b21 n0 n0 (KR24.at hV)) (Below.refl _ _).drew ?_
  simp only [List.getElem_toArray, List.getElem_cons_zero, List.getElem_cons_succ, Act.put, List.setIfInBounds_toArray, List.set_cons_zero, List.set_cons_succ]
  refine take_val 1 (.agg (dc D1)) rfl (by kernel_rfl) (by kernel_rfl) (by kernel_rfl) (fun _ _ _ h => h) rfl (fun V hV => ex_load_arr _ rfl (w.heap.size + 1) rfl _ D1 (KR1.at hV)) (Below.refl _ _).drew ?_
  simp only [List.getElem_toArray, List.getElem_cons_zero, List.getElem_cons_succ, Act.put, List.setIfInBounds_toArray, List.set_cons_zero, List.set_cons_succ]
  refine take_val 3 (.slice b28 n2 n2) rfl (by kernel_rfl) (by kernel_rfl) (by kernel_rfl) (fun _ _ _ h => h) rfl (fun V _ => by simp [go_sem]) (Below.refl _ _).drew ?_
  simp only [List.getElem_toArray, List.getElem_cons_zero, List.getElem_cons_succ, Act.put, List.setIfInBounds_toArray, List.set_cons_zero, List.set_cons_succ]
  have KQ30 := kp_start w27; have hdKQ30 := below_drew w27
  replace KB := KB.on hdKQ30
  replace KH0 := KH0.on hdKQ30
  replace KH2 := KH2.on hdKQ30
  replace KR0 := KR0.on hdKQ30
  replace KR1 := KR1.on hdKQ30
  replace KX10 := KX10.on hdKQ30
  replace KX16 := KX16.on hdKQ30
  replace KX22 := KX22.on hdKQ30
  replace KR24 := KR24.on hdKQ30
  replace KX29 := KX29.on hdKQ30
  clear hdKQ30
  refine step_call 2 36 #[.agg (dc D1)] (by kernel_rfl) rfl rfl (by simp [go_sem]) ?_
  refine (toDrum_any D1 _).mono ?_
  rintro e w32 ⟨rfl, hb31⟩
  replace KB := KB.on hb31
  replace KH0 := KH0.on hb31
  replace KH2 := KH2.on hb31
  replace KR0 := KR0.on hb31
  replace KR1 := KR1.on hb31
  replace KX10 := KX10.on hb31
  replace KX16 := KX16.on hb31
  replace KX22 := KX22.on hb31
  replace KR24 := KR24.on hb31
  replace KX29 := KX29.on hb31
  replace KQ30 := KQ30.on hb31
  refine ⟨_, rfl, KQ30.here, ?_⟩
  simp only [List.getElem_toArray, List.getElem_cons_zero, List.getElem_cons_succ, Act.put, List.setIfInBounds_toArray, List.set_cons_zero, List.set_cons_succ]
  refine step_call 4 42 #[.agg #[.int .i16 s0, .slice b21 n0 n0], .agg (dc D1), .slice b28 n2 n2] (by kernel_rfl) rfl rfl (by simp [go_sem]) ?_
  refine (implFirstBadChange_any s0 b21 n0 n0 P0 R0 D1 b28 n2 n2 S2 K2 U2 _ hs0 (by omega) HP0.out HR0.out (KX22.here) HD1.out (by omega) HS2.out HK2.out (KX29.here)).mono ?_
  rw [← HR_0.out, ← HR_1.out]
  rintro e w34 ⟨rfl, hb33⟩
  replace KB := KB.on hb33
  replace KH0 := KH0.on hb33
  replace KH2 := KH2.on hb33
  replace KR0 := KR0.on hb33
  replace KR1 := KR1.on hb33
  replace KX10 := KX10.on hb33
  replace KX16 := KX16.on hb33
  replace KX22 := KX22.on hb33
  replace KR24 := KR24.on hb33
  replace KX29 := KX29.on hb33
  replace KQ30 := KQ30.on hb33
  refine ⟨_, rfl, KQ30.here, ?_⟩
  simp only [List.getElem_toArray, List.getElem_cons_zero, List.getElem_cons_succ, Act.put, List.setIfInBounds_toArray, List.set_cons_zero, List.set_cons_succ]
  refine take_val 5 (.tuple #[.int .i64 r0, .int .i64 r1]) rfl (by kernel_rfl) (by kernel_rfl) (by kernel_rfl) (fun _ _ _ h => h) rfl (fun V _ => by simp [go_sem]) KQ30.here ?_
  simp only [List.getElem_toArray, List.getElem_cons_zero, List.getElem_cons_succ, Act.put, List.setIfInBounds_toArray, List.set_cons_zero, List.set_cons_succ]
  refine take_val 6 (.int .i64 r0) rfl (by kernel_rfl) (by kernel_rfl) (by kernel_rfl) (fun _ _ _ h => h) rfl (fun V _ => by simp [go_sem]) KQ30.here ?_
  simp only [List.getElem_toArray, List.getElem_cons_zero, List.getElem_cons_succ, Act.put, List.setIfInBounds_toArray, List.set_cons_zero, List.set_cons_succ]
  refine take_val 7 (.int .i64 r1) rfl (by kernel_rfl) (by kernel_rfl) (by kernel_rfl) (fun _ _ _ h => h) rfl (fun V _ => by simp [go_sem]) KQ30.here ?_
  simp only [List.getElem_toArray, List.getElem_cons_zero, List.getElem_cons_succ, Act.put, List.setIfInBounds_toArray, List.set_cons_zero, List.set_cons_succ]
  refine take_val 8 (.int .i64 r0) rfl (by kernel_rfl) (by kernel_rfl) (by kernel_rfl) (fun _ _ _ h => h) rfl (fun V _ => by simp [go_sem]) KQ30.here ?_
  simp only [List.getElem_toArray, List.getElem_cons_zero, List.getElem_cons_succ, Act.put, List.setIfInBounds_toArray, List.set_cons_zero, List.set_cons_succ]
  refine take_val 9 (.int .i64 r1) rfl (by kernel_rfl) (by kernel_rfl) (by kernel_rfl) (fun _ _ _ h => h) rfl (fun V _ => by simp [go_sem]) KQ30.here ?_
  simp only [List.getElem_toArray, List.getElem_cons_zero, List.getElem_cons_succ, Act.put, List.setIfInBounds_toArray, List.set_cons_zero, List.set_cons_succ]
  refine wpAnyH_done (by kernel_rfl) ?_ _
  clear KQ30
  go_wp2_with (first | (with_reducible refine load_lframe rfl _ rfl (w.heap.size) rfl _ s0 a0 n0 c0 KR0.here ?_) | (with_reducible refine load_arr rfl _ rfl (w.heap.size + 1) rfl _ D1 KR1.here ?_) | (with_reducible refine load_iframe rfl _ rfl (w20.heap.size) rfl _ s0 b21 n0 n0 KR24.here ?_))
  refine wp_region_S (fun V => Below w34.heap.size w34 V) (by kernel_rfl) (Below.refl _ _).drew ?_
  refine take_val 0 (.agg #[.int .i16 s0, .slice b21 n0 n0]) rfl (by kernel_rfl) (by kernel_rfl) (by kernel_rfl) (fun _ _ _ h => h) rfl (fun V hV => ex_load_iframe _ rfl (w20.heap.size) rfl _ s0 b21 n0 n0 (KR24.at hV)) (Below.refl _ _).drew ?_
  simp only [List.getElem_toArray, List.getElem_cons_zero, List.getElem_cons_succ, Act.put, List.setIfInBounds_toArray, List.set_cons_zero, List.set_cons_succ]
  refine take_val 1 (.agg #[.int .i16 s0, .slice a0 n0 c0]) rfl (by kernel_rfl) (by kernel_rfl) (by kernel_rfl) (fun _ _ _ h => h) rfl (fun V hV => ex_load_lframe _ rfl (w.heap.size) rfl _ s0 a0 n0 c0 (KR0.at hV)) (Below.refl _ _).drew ?_
  simp only [List.getElem_toArray, List.getElem_cons_zero, List.getElem_cons_succ, Act.put, List.setIfInBounds_toArray, List.set_cons_zero, List.set_cons_succ]
  have KQ35 := kp_start w34; have hdKQ35 := below_drew w34
  replace KB := KB.on hdKQ35
  replace KH0 := KH0.on hdKQ35
  replace KH2 := KH2.on hdKQ35
  replace KR0 := KR0.on hdKQ35
  replace KR1 := KR1.on hdKQ35
  replace KX10 := KX10.on hdKQ35
  replace KX16 := KX16.on hdKQ35
  replace KX22 := KX22.on hdKQ35
  replace KR24 := KR24.on hdKQ35
  replace KX29 := KX29.on hdKQ35
  clear hdKQ35
  refine step_call 2 18 #[.agg #[.int .i16 s0, .slice a0 n0 c0]] (by kernel_rfl) rfl rfl (by simp [go_sem]) ?_
  refine (toFrame_kp s0 a0 n0 c0 P0 R0 _ (by omega) hs0 (KH0.here)).mono ?_
  rintro e w37 ⟨b38, rfl, hb36, KX39⟩
  replace KB := KB.on hb36
  replace KH0 := KH0.on hb36
  replace KH2 := KH2.on hb36
  replace KR0 := KR0.on hb36
  replace KR1 := KR1.on hb36
  replace KX10 := KX10.on hb36
  replace KX16 := KX16.on hb36
  replace KX22 := KX22.on hb36
  replace KR24 := KR24.on hb36
  replace KX29 := KX29.on hb36
  replace KQ35 := KQ35.on hb36
  refine ⟨_, rfl, KQ35.here, ?_⟩
  simp only [List.getElem_toArray, List.getElem_cons_zero, List.getElem_cons_succ, Act.put, List.setIfInBounds_toArray, List.set_cons_zero, List.set_cons_succ]
  refine step_call 3 21 #[.agg #[.int .i16 s0, .slice b21 n0 n0], .agg #[.int .i16 s0, .slice b38 n0 n0]] (by kernel_rfl) rfl rfl (by simp [go_sem]) ?_
  refine (eqFrame_kp s0 _ _ n0 n0 n0 P0 R0 _ (by omega) (KX22.here) (KX39.here)).mono ?_
  rintro e w41 ⟨rfl, hb40⟩
  replace KB := KB.on hb40
  replace KH0 := KH0.on hb40
  replace KH2 := KH2.on hb40
  replace KR0 := KR0.on hb40
  replace KR1 := KR1.on hb40
  replace KX10 := KX10.on hb40
  replace KX16 := KX16.on hb40
  replace KX22 := KX22.on hb40
  replace KR24 := KR24.on hb40
  replace KX29 := KX29.on hb40
  replace KQ35 := KQ35.on hb40
  replace KX39 := KX39.on hb40
  refine ⟨_, rfl, KQ35.here, ?_⟩
  simp only [List.getElem_toArray, List.getElem_cons_zero, List.getElem_cons_succ, Act.put, List.setIfInBounds_toArray, List.set_cons_zero, List.set_cons_succ]
  refine take_val 4 (.bool false) rfl (by kernel_rfl) (by kernel_rfl) (by kernel_rfl) (fun _ _ _ h => h) rfl (fun V _ => by simp [go_sem]) KQ35.here ?_
  simp only [List.getElem_toArray, List.getElem_cons_zero, List.getElem_cons_succ, Act.put, List.setIfInBounds_toArray, List.set_cons_zero, List.set_cons_succ]
  refine wpAnyH_done (by kernel_rfl) ?_ _
  clear KQ35
  go_wp2_with (first | (with_reducible refine load_lframe rfl _ rfl (w.heap.size) rfl _ s0 a0 n0 c0 KR0.here ?_) | (with_reducible refine load_arr rfl _ rfl (w.heap.size + 1) rfl _ D1 KR1.here ?_) | (with_reducible refine load_iframe rfl _ rfl (w20.heap.size) rfl _ s0 b21 n0 n0 KR24.here ?_))
  refine (toChangeS_kp a2 n2 c2 S2 K2 U2 _ (by omega) (KH2.here)).mono ?_
  rintro e w43 ⟨b44, rfl, hb42, KX45⟩
  replace KB := KB.on hb42
  replace KH0 := KH0.on hb42
  replace KH2 := KH2.on hb42
  replace KR0 := KR0.on hb42
  replace KR1 := KR1.on hb42
  replace KX10 := KX10.on hb42
  replace KX16 := KX16.on hb42
  replace KX22 := KX22.on hb42
  replace KR24 := KR24.on hb42
  replace KX29 := KX29.on hb42
  replace KX39 := KX39.on hb42
  go_wp2_with (first | (with_reducible refine load_lframe rfl _ rfl (w.heap.size) rfl _ s0 a0 n0 c0 KR0.here ?_) | (with_reducible refine load_arr rfl _ rfl (w.heap.size + 1) rfl _ D1 KR1.here ?_) | (with_reducible refine load_iframe rfl _ rfl (w20.heap.size) rfl _ s0 b21 n0 n0 KR24.here ?_))
  refine (eqChangeS_kp _ _ n2 n2 n2 S2 K2 U2 _ (by omega) (KX29.here) (KX45.here)).mono ?_
  rintro e w47 ⟨rfl, hb46⟩
  replace KB := KB.on hb46
  replace KH0 := KH0.on hb46
  replace KH2 := KH2.on hb46
  replace KR0 := KR0.on hb46
  replace KR1 := KR1.on hb46
  replace KX10 := KX10.on hb46
  replace KX16 := KX16.on hb46
  replace KX22 := KX22.on hb46
  replace KR24 := KR24.on hb46
  replace KX29 := KX29.on hb46
  replace KX39 := KX39.on hb46
  replace KX45 := KX45.on hb46
  go_wp2_with fail
  go_ret
  exact ⟨rfl, KB.here⟩
end Go.Proofs.Ytancboodcnomiaa
