/- The law FnExactCheckPinning: the walk, printed by lawgen.py. No conditions. -/
import Derived.Test.YteffaghcjpeblaaKp
import Derived.Test.YteffaghcjpeblaaTt
import Derived.Outline
namespace Go.Proofs.Yteffaghcjpeblaa
open Go.RowKit
set_option linter.unusedVariables false
set_option linter.unusedSimpArgs false

set_option maxRecDepth 100000 in
set_option maxHeartbeats 4000000 in
theorem lawCheckPinning (s0 : Int) (a0 : Option Addr) (n0 c0 : Nat) (P0 R0 : Nat → Int) (a1 : Option Addr) (n1 c1 : Nat) (A1 P1 : Nat → Int) (D2 : Nat → Nat) (w : World) (hn0 : n0 ≤ 9223372036854775807) (hs0 : -32768 ≤ s0 ∧ s0 ≤ 32767) (hP0 : I8 P0) (hR0 : I8 R0) (hh0 : HamIn w a0 n0 P0 R0) (hn1 : n1 ≤ 9223372036854775807) (hA1 : I16 A1) (hP1 : I8 P1) (hh1 : NoteIn w a1 n1 A1 P1) (hD2 : D32 D2) :
    Calls Try.prog 4 #[.agg #[.int .i16 s0, .slice a0 n0 c0], .slice a1 n1 c1, .agg (dc D2)] w fun e w' => e = .returned (.bool true) ∧ Below w.heap.size w w' := by
  have HP0 := Lib.hid hP0; clear hP0
  have HR0 := Lib.hid hR0; clear hR0
  have HA1 := Lib.hid hA1; clear hA1
  have HP1 := Lib.hid hP1; clear hP1
  have HD2 := Lib.hid hD2; clear hD2
  have KB := Kp.base w
  have KH0 := kp_hamIn hh0; clear hh0
  have KH1 := kp_noteIn hh1; clear hh1
  replace KB := KB.alloc (.cells #[.int .i16 s0, .slice a0 n0 c0] 40)
  replace KH0 := KH0.alloc (.cells #[.int .i16 s0, .slice a0 n0 c0] 40)
  replace KH1 := KH1.alloc (.cells #[.int .i16 s0, .slice a0 n0 c0] 40)
  have KR0 := kp_new1 w #[.int .i16 s0, .slice a0 n0 c0] 40 (g := w.heap.size) (by simp)
  replace KB := KB.alloc (.cells (dc D2) 42)
  replace KH0 := KH0.alloc (.cells (dc D2) 42)
  replace KH1 := KH1.alloc (.cells (dc D2) 42)
  replace KR0 := KR0.alloc (.cells (dc D2) 42)
  have KR2 := kp_newd (w.alloc (.cells #[.int .i16 s0, .slice a0 n0 c0] 40)) D2 42 (g := w.heap.size + 1) (by simp)
  go_enter Try.func4, Try.ntmps4
  go_wp2_with (first | (with_reducible refine load_lframe rfl _ rfl (w.heap.size) rfl _ s0 a0 n0 c0 KR0.here ?_) | (with_reducible refine load_arr rfl _ rfl (w.heap.size + 1) rfl _ D2 KR2.here ?_))
  generalize ((w.alloc (.cells #[.int .i16 s0, .slice a0 n0 c0] 40)).alloc (.cells (dc D2) 42)) = w1 at KB KH0 KH1 KR0 KR2 ⊢
  refine (szFrame_kp s0 a0 n0 c0 (1048576) _ (by omega) (by omega)).mono ?_
  rintro e w3 ⟨rfl, hb2⟩
  replace KB := KB.on hb2
  replace KH0 := KH0.on hb2
  replace KH1 := KH1.on hb2
  replace KR0 := KR0.on hb2
  replace KR2 := KR2.on hb2
  by_cases hlw3 : (1048576 : Int) < n0
  · rw [szOf_lt hlw3]
    go_wp2_with (first | (with_reducible refine load_lframe rfl _ rfl (w.heap.size) rfl _ s0 a0 n0 c0 KR0.here ?_) | (with_reducible refine load_arr rfl _ rfl (w.heap.size + 1) rfl _ D2 KR2.here ?_))
    go_ret
    exact ⟨rfl, KB.here⟩
  rw [szOf_ge (by omega)]
  go_wp2_with (first | (with_reducible refine load_lframe rfl _ rfl (w.heap.size) rfl _ s0 a0 n0 c0 KR0.here ?_) | (with_reducible refine load_arr rfl _ rfl (w.heap.size + 1) rfl _ D2 KR2.here ?_))
  refine (szTune_kp a1 n1 c1 (1048576 - (n0 : Int)) _ (by omega) (by omega)).mono ?_
  rintro e w5 ⟨rfl, hb4⟩
  replace KB := KB.on hb4
  replace KH0 := KH0.on hb4
  replace KH1 := KH1.on hb4
  replace KR0 := KR0.on hb4
  replace KR2 := KR2.on hb4
  by_cases hlw5 : (1048576 - (n0 : Int) : Int) < n1
  · rw [szOf_lt hlw5]
    go_wp2_with (first | (with_reducible refine load_lframe rfl _ rfl (w.heap.size) rfl _ s0 a0 n0 c0 KR0.here ?_) | (with_reducible refine load_arr rfl _ rfl (w.heap.size + 1) rfl _ D2 KR2.here ?_))
    go_ret
    exact ⟨rfl, KB.here⟩
  rw [szOf_ge (by omega)]
  go_wp2_with (first | (with_reducible refine load_lframe rfl _ rfl (w.heap.size) rfl _ s0 a0 n0 c0 KR0.here ?_) | (with_reducible refine load_arr rfl _ rfl (w.heap.size + 1) rfl _ D2 KR2.here ?_))
  refine wp_region_S (fun V => Below w5.heap.size w5 V) (by kernel_rfl) (Below.refl _ _).drew ?_
  refine take_val 0 (.agg #[.int .i16 s0, .slice a0 n0 c0]) rfl (by kernel_rfl) (by kernel_rfl) (by kernel_rfl) (fun _ _ _ h => h) rfl (fun V hV => ex_load_lframe _ rfl (w.heap.size) rfl _ s0 a0 n0 c0 (KR0.at hV)) (Below.refl _ _).drew ?_
  simp only [List.getElem_toArray, List.getElem_cons_zero, List.getElem_cons_succ, Act.put, List.setIfInBounds_toArray, List.set_cons_zero, List.set_cons_succ]
  refine take_val 2 (.slice a1 n1 c1) rfl (by kernel_rfl) (by kernel_rfl) (by kernel_rfl) (fun _ _ _ h => h) rfl (fun V _ => by simp [go_sem]) (Below.refl _ _).drew ?_
  simp only [List.getElem_toArray, List.getElem_cons_zero, List.getElem_cons_succ, Act.put, List.setIfInBounds_toArray, List.set_cons_zero, List.set_cons_succ]
  refine take_val 4 (.agg (dc D2)) rfl (by kernel_rfl) (by kernel_rfl) (by kernel_rfl) (fun _ _ _ h => h) rfl (fun V hV => ex_load_arr _ rfl (w.heap.size + 1) rfl _ D2 (KR2.at hV)) (Below.refl _ _).drew ?_
  simp only [List.getElem_toArray, List.getElem_cons_zero, List.getElem_cons_succ, Act.put, List.setIfInBounds_toArray, List.set_cons_zero, List.set_cons_succ]
  have KQ6 := kp_start w5; have hdKQ6 := below_drew w5
  replace KB := KB.on hdKQ6
  replace KH0 := KH0.on hdKQ6
  replace KH1 := KH1.on hdKQ6
  replace KR0 := KR0.on hdKQ6
  replace KR2 := KR2.on hdKQ6
  clear hdKQ6
  refine step_call 1 16 #[.agg #[.int .i16 s0, .slice a0 n0 c0]] (by kernel_rfl) rfl rfl (by simp [go_sem]) ?_
  refine (toFrame_kp s0 a0 n0 c0 P0 R0 _ (by omega) hs0 (KH0.here)).mono ?_
  rintro e w8 ⟨b9, rfl, hb7, KX10⟩
  replace KB := KB.on hb7
  replace KH0 := KH0.on hb7
  replace KH1 := KH1.on hb7
  replace KR0 := KR0.on hb7
  replace KR2 := KR2.on hb7
  replace KQ6 := KQ6.on hb7
  refine ⟨_, rfl, KQ6.here, ?_⟩
  simp only [List.getElem_toArray, List.getElem_cons_zero, List.getElem_cons_succ, Act.put, List.setIfInBounds_toArray, List.set_cons_zero, List.set_cons_succ]
  refine step_call 3 7 #[.slice a1 n1 c1] (by kernel_rfl) rfl rfl (by simp [go_sem]) ?_
  refine (toTune_kp a1 n1 c1 A1 P1 _ (by omega) (KH1.here)).mono ?_
  rintro e w12 ⟨b13, rfl, hb11, KX14⟩
  replace KB := KB.on hb11
  replace KH0 := KH0.on hb11
  replace KH1 := KH1.on hb11
  replace KR0 := KR0.on hb11
  replace KR2 := KR2.on hb11
  replace KQ6 := KQ6.on hb11
  replace KX10 := KX10.on hb11
  refine ⟨_, rfl, KQ6.here, ?_⟩
  simp only [List.getElem_toArray, List.getElem_cons_zero, List.getElem_cons_succ, Act.put, List.setIfInBounds_toArray, List.set_cons_zero, List.set_cons_succ]
  refine step_call 5 17 #[.agg (dc D2)] (by kernel_rfl) rfl rfl (by simp [go_sem]) ?_
  refine (toDrum_any D2 _).mono ?_
  rintro e w16 ⟨rfl, hb15⟩
  replace KB := KB.on hb15
  replace KH0 := KH0.on hb15
  replace KH1 := KH1.on hb15
  replace KR0 := KR0.on hb15
  replace KR2 := KR2.on hb15
  replace KQ6 := KQ6.on hb15
  replace KX10 := KX10.on hb15
  replace KX14 := KX14.on hb15
  refine ⟨_, rfl, KQ6.here, ?_⟩
  simp only [List.getElem_toArray, List.getElem_cons_zero, List.getElem_cons_succ, Act.put, List.setIfInBounds_toArray, List.set_cons_zero, List.set_cons_succ]
  refine step_call 6 15 #[.agg #[.int .i16 s0, .slice b9 n0 n0], .slice b13 n1 n1, .agg (dc D2)] (by kernel_rfl) rfl rfl (by simp [go_sem]) ?_
  obtain ⟨r0, hr0⟩ : ∃ r, r = cpB s0 n0 P0 R0 n1 A1 P1 D2 := ⟨_, rfl⟩
  obtain ⟨r1, hr1⟩ : ∃ r, r = tqC s0 n0 P0 R0 n1 A1 P1 D2 := ⟨_, rfl⟩
  refine (specCheckPinning_any s0 b9 n0 n0 P0 R0 b13 n1 n1 A1 P1 D2 _ hs0 (by omega) HP0.out HR0.out (KX10.here) (by omega) HA1.out HP1.out (KX14.here) HD2.out).mono ?_
  rw [← hr0, ← hr1]
  rintro e w18 ⟨rfl, hb17⟩
  have HR_0 := Lib.hid hr0; clear hr0
  have HR_1 := Lib.hid hr1; clear hr1
  replace KB := KB.on hb17
  replace KH0 := KH0.on hb17
  replace KH1 := KH1.on hb17
  replace KR0 := KR0.on hb17
  replace KR2 := KR2.on hb17
  replace KQ6 := KQ6.on hb17
  replace KX10 := KX10.on hb17
  replace KX14 := KX14.on hb17
  refine ⟨_, rfl, KQ6.here, ?_⟩
  simp only [List.getElem_toArray, List.getElem_cons_zero, List.getElem_cons_succ, Act.put, List.setIfInBounds_toArray, List.set_cons_zero, List.set_cons_succ]
  refine take_val 7 (.tuple #[.bool r0, .int .i64 r1]) rfl (by kernel_rfl) (by kernel_rfl) (by kernel_rfl) (fun _ _ _ h => h) rfl (fun V _ => by simp [go_sem]) KQ6.here ?_
  simp only [List.getElem_toArray, List.getElem_cons_zero, List.getElem_cons_succ, Act.put, List.setIfInBounds_toArray, List.set_cons_zero, List.set_cons_succ]
  refine take_val 8 (.bool r0) rfl (by kernel_rfl) (by kernel_rfl) (by kernel_rfl) (fun _ _ _ h => h) rfl (fun V _ => by simp [go_sem]) KQ6.here ?_
  simp only [List.getElem_toArray, List.getElem_cons_zero, List.getElem_cons_succ, Act.put, List.setIfInBounds_toArray, List.set_cons_zero, List.set_cons_succ]
  refine take_val 9 (.int .i64 r1) rfl (by kernel_rfl) (by kernel_rfl) (by kernel_rfl) (fun _ _ _ h => h) rfl (fun V _ => by simp [go_sem]) KQ6.here ?_
  simp only [List.getElem_toArray, List.getElem_cons_zero, List.getElem_cons_succ, Act.put, List.setIfInBounds_toArray, List.set_cons_zero, List.set_cons_succ]
  refine take_val 10 (.bool r0) rfl (by kernel_rfl) (by kernel_rfl) (by kernel_rfl) (fun _ _ _ h => h) rfl (fun V _ => by simp [go_sem]) KQ6.here ?_
  simp only [List.getElem_toArray, List.getElem_cons_zero, List.getElem_cons_succ, Act.put, List.setIfInBounds_toArray, List.set_cons_zero, List.set_cons_succ]
  refine take_val 11 (.int .i64 r1) rfl (by kernel_rfl) (by kernel_rfl) (by kernel_rfl) (fun _ _ _ h => h) rfl (fun V _ => by simp [go_sem]) KQ6.here ?_
  simp only [List.getElem_toArray, List.getElem_cons_zero, List.getElem_cons_succ, Act.put, List.setIfInBounds_toArray, List.set_cons_zero, List.set_cons_succ]
  refine wpAnyH_done (by kernel_rfl) ?_ _
  clear KQ6
  go_wp2_with (first | (with_reducible refine load_lframe rfl _ rfl (w.heap.size) rfl _ s0 a0 n0 c0 KR0.here ?_) | (with_reducible refine load_arr rfl _ rfl (w.heap.size + 1) rfl _ D2 KR2.here ?_))
  refine (toFrame_kp s0 a0 n0 c0 P0 R0 _ (by omega) hs0 (KH0.here)).mono ?_
  rintro e w20 ⟨b21, rfl, hb19, KX22⟩
  replace KB := KB.on hb19
  replace KH0 := KH0.on hb19
  replace KH1 := KH1.on hb19
  replace KR0 := KR0.on hb19
  replace KR2 := KR2.on hb19
  replace KX10 := KX10.on hb19
  replace KX14 := KX14.on hb19
  replace KB := KB.alloc (.cells #[.int .i16 s0, .slice b21 n0 n0] 27)
  replace KH0 := KH0.alloc (.cells #[.int .i16 s0, .slice b21 n0 n0] 27)
  replace KH1 := KH1.alloc (.cells #[.int .i16 s0, .slice b21 n0 n0] 27)
  replace KR0 := KR0.alloc (.cells #[.int .i16 s0, .slice b21 n0 n0] 27)
  replace KR2 := KR2.alloc (.cells #[.int .i16 s0, .slice b21 n0 n0] 27)
  replace KX10 := KX10.alloc (.cells #[.int .i16 s0, .slice b21 n0 n0] 27)
  replace KX14 := KX14.alloc (.cells #[.int .i16 s0, .slice b21 n0 n0] 27)
  replace KX22 := KX22.alloc (.cells #[.int .i16 s0, .slice b21 n0 n0] 27)
  have KR24 := kp_new1 w20 #[.int .i16 s0, .slice b21 n0 n0] 27 (g := w20.heap.size) rfl
  go_wp2_with (first | (with_reducible refine load_lframe rfl _ rfl (w.heap.size) rfl _ s0 a0 n0 c0 KR0.here ?_) | (with_reducible refine load_arr rfl _ rfl (w.heap.size + 1) rfl _ D2 KR2.here ?_) | (with_reducible refine load_iframe rfl _ rfl (w20.heap.size) rfl _ s0 b21 n0 n0 KR24.here ?_))
  generalize (w20.alloc (.cells #[.int .i16 s0, .slice b21 n0 n0] 27)) = w25 at KB KH0 KH1 KR0 KR2 KX10 KX14 KX22 KR24 ⊢
  refine (toTune_kp a1 n1 c1 A1 P1 _ (by omega) (KH1.here)).mono ?_
  rintro e w27 ⟨b28, rfl, hb26, KX29⟩
  replace KB := KB.on hb26
  replace KH0 := KH0.on hb26
  replace KH1 := KH1.on hb26
  replace KR0 := KR0.on hb26
  replace KR2 := KR2.on hb26
  replace KX10 := KX10.on hb26
  replace KX14 := KX14.on hb26
  replace KX22 := KX22.on hb26
  replace KR24 := KR24.on hb26
  go_wp2_with (first | (with_reducible refine load_lframe rfl _ rfl (w.heap.size) rfl _ s0 a0 n0 c0 KR0.here ?_) | (with_reducible refine load_arr rfl _ rfl (w.heap.size + 1) rfl _ D2 KR2.here ?_) | (with_reducible refine load_iframe rfl _ rfl (w20.heap.size) rfl _ s0 b21 n0 n0 KR24.here ?_))
  refine wp_region_S (fun V => Below w27.heap.size w27 V) (by kernel_rfl) (Below.refl _ _).drew ?_
  refine take_val 0 (.agg #[.int .i16 s0, .slice b21 n0 n0]) rfl (by kernel_rfl) (by kernel_rfl) (by kernel_rfl) (fun _ _ _ h => h) rfl (fun V hV => ex_load_iframe _ rfl (w20.heap.size) rfl _ s0 b21 n0 n0 (KR24.at hV)) (Below.refl _ _).drew ?_
  simp only [List.getElem_toArray, List.getElem_cons_zero, List.getElem_cons_succ, Act.put, List.setIfInBounds_toArray, List.set_cons_zero, List.set_cons_succ]
  refine take_val 1 (.slice b28 n1 n1) rfl (by kernel_rfl) (by kernel_rfl) (by kernel_rfl) (fun _ _ _ h => h) rfl (fun V _ => by simp [go_sem]) (Below.refl _ _).drew ?_
  simp only [List.getElem_toArray, List.getElem_cons_zero, List.getElem_cons_succ, Act.put, List.setIfInBounds_toArray, List.set_cons_zero, List.set_cons_succ]
  refine take_val 2 (.agg (dc D2)) rfl (by kernel_rfl) (by kernel_rfl) (by kernel_rfl) (fun _ _ _ h => h) rfl (fun V hV => ex_load_arr _ rfl (w.heap.size + 1) rfl _ D2 (KR2.at hV)) (Below.refl _ _).drew ?_
  simp only [List.getElem_toArray, List.getElem_cons_zero, List.getElem_cons_succ, Act.put, List.setIfInBounds_toArray, List.set_cons_zero, List.set_cons_succ]
  have KQ30 := kp_start w27; have hdKQ30 := below_drew w27
  replace KB := KB.on hdKQ30
  replace KH0 := KH0.on hdKQ30
  replace KH1 := KH1.on hdKQ30
  replace KR0 := KR0.on hdKQ30
  replace KR2 := KR2.on hdKQ30
  replace KX10 := KX10.on hdKQ30
  replace KX14 := KX14.on hdKQ30
  replace KX22 := KX22.on hdKQ30
  replace KR24 := KR24.on hdKQ30
  replace KX29 := KX29.on hdKQ30
  clear hdKQ30
  refine step_call 3 17 #[.agg (dc D2)] (by kernel_rfl) rfl rfl (by simp [go_sem]) ?_
  refine (toDrum_any D2 _).mono ?_
  rintro e w32 ⟨rfl, hb31⟩
  replace KB := KB.on hb31
  replace KH0 := KH0.on hb31
  replace KH1 := KH1.on hb31
  replace KR0 := KR0.on hb31
  replace KR2 := KR2.on hb31
  replace KX10 := KX10.on hb31
  replace KX14 := KX14.on hb31
  replace KX22 := KX22.on hb31
  replace KR24 := KR24.on hb31
  replace KX29 := KX29.on hb31
  replace KQ30 := KQ30.on hb31
  refine ⟨_, rfl, KQ30.here, ?_⟩
  simp only [List.getElem_toArray, List.getElem_cons_zero, List.getElem_cons_succ, Act.put, List.setIfInBounds_toArray, List.set_cons_zero, List.set_cons_succ]
  refine step_call 4 18 #[.agg #[.int .i16 s0, .slice b21 n0 n0], .slice b28 n1 n1, .agg (dc D2)] (by kernel_rfl) rfl rfl (by simp [go_sem]) ?_
  refine (implCheckPinning_any s0 b21 n0 n0 P0 R0 b28 n1 n1 A1 P1 D2 _ hs0 (by omega) HP0.out HR0.out (KX22.here) (by omega) HA1.out HP1.out (KX29.here) HD2.out).mono ?_
  rw [← HR_0.out, ← HR_1.out]
  rintro e w34 ⟨rfl, hb33⟩
  replace KB := KB.on hb33
  replace KH0 := KH0.on hb33
  replace KH1 := KH1.on hb33
  replace KR0 := KR0.on hb33
  replace KR2 := KR2.on hb33
  replace KX10 := KX10.on hb33
  replace KX14 := KX14.on hb33
  replace KX22 := KX22.on hb33
  replace KR24 := KR24.on hb33
  replace KX29 := KX29.on hb33
  replace KQ30 := KQ30.on hb33
  refine ⟨_, rfl, KQ30.here, ?_⟩
  simp only [List.getElem_toArray, List.getElem_cons_zero, List.getElem_cons_succ, Act.put, List.setIfInBounds_toArray, List.set_cons_zero, List.set_cons_succ]
  refine take_val 5 (.tuple #[.bool r0, .int .i64 r1]) rfl (by kernel_rfl) (by kernel_rfl) (by kernel_rfl) (fun _ _ _ h => h) rfl (fun V _ => by simp [go_sem]) KQ30.here ?_
  simp only [List.getElem_toArray, List.getElem_cons_zero, List.getElem_cons_succ, Act.put, List.setIfInBounds_toArray, List.set_cons_zero, List.set_cons_succ]
  refine take_val 6 (.bool r0) rfl (by kernel_rfl) (by kernel_rfl) (by kernel_rfl) (fun _ _ _ h => h) rfl (fun V _ => by simp [go_sem]) KQ30.here ?_
  simp only [List.getElem_toArray, List.getElem_cons_zero, List.getElem_cons_succ, Act.put, List.setIfInBounds_toArray, List.set_cons_zero, List.set_cons_succ]
  refine take_val 7 (.int .i64 r1) rfl (by kernel_rfl) (by kernel_rfl) (by kernel_rfl) (fun _ _ _ h => h) rfl (fun V _ => by simp [go_sem]) KQ30.here ?_
  simp only [List.getElem_toArray, List.getElem_cons_zero, List.getElem_cons_succ, Act.put, List.setIfInBounds_toArray, List.set_cons_zero, List.set_cons_succ]
  refine take_val 8 (.bool r0) rfl (by kernel_rfl) (by kernel_rfl) (by kernel_rfl) (fun _ _ _ h => h) rfl (fun V _ => by simp [go_sem]) KQ30.here ?_
  simp only [List.getElem_toArray, List.getElem_cons_zero, List.getElem_cons_succ, Act.put, List.setIfInBounds_toArray, List.set_cons_zero, List.set_cons_succ]
  refine take_val 9 (.int .i64 r1) rfl (by kernel_rfl) (by kernel_rfl) (by kernel_rfl) (fun _ _ _ h => h) rfl (fun V _ => by simp [go_sem]) KQ30.here ?_
  simp only [List.getElem_toArray, List.getElem_cons_zero, List.getElem_cons_succ, Act.put, List.setIfInBounds_toArray, List.set_cons_zero, List.set_cons_succ]
  refine wpAnyH_done (by kernel_rfl) ?_ _
  clear KQ30
  go_wp2_with (first | (with_reducible refine load_lframe rfl _ rfl (w.heap.size) rfl _ s0 a0 n0 c0 KR0.here ?_) | (with_reducible refine load_arr rfl _ rfl (w.heap.size + 1) rfl _ D2 KR2.here ?_) | (with_reducible refine load_iframe rfl _ rfl (w20.heap.size) rfl _ s0 b21 n0 n0 KR24.here ?_))
  refine wp_region_S (fun V => Below w34.heap.size w34 V) (by kernel_rfl) (Below.refl _ _).drew ?_
  refine take_val 0 (.agg #[.int .i16 s0, .slice b21 n0 n0]) rfl (by kernel_rfl) (by kernel_rfl) (by kernel_rfl) (fun _ _ _ h => h) rfl (fun V hV => ex_load_iframe _ rfl (w20.heap.size) rfl _ s0 b21 n0 n0 (KR24.at hV)) (Below.refl _ _).drew ?_
  simp only [List.getElem_toArray, List.getElem_cons_zero, List.getElem_cons_succ, Act.put, List.setIfInBounds_toArray, List.set_cons_zero, List.set_cons_succ]
  refine take_val 1 (.agg #[.int .i16 s0, .slice a0 n0 c0]) rfl (by kernel_rfl) (by kernel_rfl) (by kernel_rfl) (fun _ _ _ h => h) rfl (fun V hV => ex_load_lframe _ rfl (w.heap.size) rfl _ s0 a0 n0 c0 (KR0.at hV)) (Below.refl _ _).drew ?_
  simp only [List.getElem_toArray, List.getElem_cons_zero, List.getElem_cons_succ, Act.put, List.setIfInBounds_toArray, List.set_cons_zero, List.set_cons_succ]
  have KQ35 := kp_start w34; have hdKQ35 := below_drew w34
  replace KB := KB.on hdKQ35
  replace KH0 := KH0.on hdKQ35
  replace KH1 := KH1.on hdKQ35
  replace KR0 := KR0.on hdKQ35
  replace KR2 := KR2.on hdKQ35
  replace KX10 := KX10.on hdKQ35
  replace KX14 := KX14.on hdKQ35
  replace KX22 := KX22.on hdKQ35
  replace KR24 := KR24.on hdKQ35
  replace KX29 := KX29.on hdKQ35
  clear hdKQ35
  refine step_call 2 16 #[.agg #[.int .i16 s0, .slice a0 n0 c0]] (by kernel_rfl) rfl rfl (by simp [go_sem]) ?_
  refine (toFrame_kp s0 a0 n0 c0 P0 R0 _ (by omega) hs0 (KH0.here)).mono ?_
  rintro e w37 ⟨b38, rfl, hb36, KX39⟩
  replace KB := KB.on hb36
  replace KH0 := KH0.on hb36
  replace KH1 := KH1.on hb36
  replace KR0 := KR0.on hb36
  replace KR2 := KR2.on hb36
  replace KX10 := KX10.on hb36
  replace KX14 := KX14.on hb36
  replace KX22 := KX22.on hb36
  replace KR24 := KR24.on hb36
  replace KX29 := KX29.on hb36
  replace KQ35 := KQ35.on hb36
  refine ⟨_, rfl, KQ35.here, ?_⟩
  simp only [List.getElem_toArray, List.getElem_cons_zero, List.getElem_cons_succ, Act.put, List.setIfInBounds_toArray, List.set_cons_zero, List.set_cons_succ]
  refine step_call 3 9 #[.agg #[.int .i16 s0, .slice b21 n0 n0], .agg #[.int .i16 s0, .slice b38 n0 n0]] (by kernel_rfl) rfl rfl (by simp [go_sem]) ?_
  refine (eqFrame_kp s0 _ _ n0 n0 n0 P0 R0 _ (by omega) (KX22.here) (KX39.here)).mono ?_
  rintro e w41 ⟨rfl, hb40⟩
  replace KB := KB.on hb40
  replace KH0 := KH0.on hb40
  replace KH1 := KH1.on hb40
  replace KR0 := KR0.on hb40
  replace KR2 := KR2.on hb40
  replace KX10 := KX10.on hb40
  replace KX14 := KX14.on hb40
  replace KX22 := KX22.on hb40
  replace KR24 := KR24.on hb40
  replace KX29 := KX29.on hb40
  replace KQ35 := KQ35.on hb40
  replace KX39 := KX39.on hb40
  refine ⟨_, rfl, KQ35.here, ?_⟩
  simp only [List.getElem_toArray, List.getElem_cons_zero, List.getElem_cons_succ, Act.put, List.setIfInBounds_toArray, List.set_cons_zero, List.set_cons_succ]
  refine take_val 4 (.bool false) rfl (by kernel_rfl) (by kernel_rfl) (by kernel_rfl) (fun _ _ _ h => h) rfl (fun V _ => by simp [go_sem]) KQ35.here ?_
  simp only [List.getElem_toArray, List.getElem_cons_zero, List.getElem_cons_succ, Act.put, List.setIfInBounds_toArray, List.set_cons_zero, List.set_cons_succ]
  refine wpAnyH_done (by kernel_rfl) ?_ _
  clear KQ35
  go_wp2_with (first | (with_reducible refine load_lframe rfl _ rfl (w.heap.size) rfl _ s0 a0 n0 c0 KR0.here ?_) | (with_reducible refine load_arr rfl _ rfl (w.heap.size + 1) rfl _ D2 KR2.here ?_) | (with_reducible refine load_iframe rfl _ rfl (w20.heap.size) rfl _ s0 b21 n0 n0 KR24.here ?_))
  refine (toTune_kp a1 n1 c1 A1 P1 _ (by omega) (KH1.here)).mono ?_
  rintro e w43 ⟨b44, rfl, hb42, KX45⟩
  replace KB := KB.on hb42
  replace KH0 := KH0.on hb42
  replace KH1 := KH1.on hb42
  replace KR0 := KR0.on hb42
  replace KR2 := KR2.on hb42
  replace KX10 := KX10.on hb42
  replace KX14 := KX14.on hb42
  replace KX22 := KX22.on hb42
  replace KR24 := KR24.on hb42
  replace KX29 := KX29.on hb42
  replace KX39 := KX39.on hb42
  go_wp2_with (first | (with_reducible refine load_lframe rfl _ rfl (w.heap.size) rfl _ s0 a0 n0 c0 KR0.here ?_) | (with_reducible refine load_arr rfl _ rfl (w.heap.size + 1) rfl _ D2 KR2.here ?_) | (with_reducible refine load_iframe rfl _ rfl (w20.heap.size) rfl _ s0 b21 n0 n0 KR24.here ?_))
  refine (eqTune_kp _ _ n1 n1 n1 A1 P1 _ (by omega) (KX29.here) (KX45.here)).mono ?_
  rintro e w47 ⟨rfl, hb46⟩
  replace KB := KB.on hb46
  replace KH0 := KH0.on hb46
  replace KH1 := KH1.on hb46
  replace KR0 := KR0.on hb46
  replace KR2 := KR2.on hb46
  replace KX10 := KX10.on hb46
  replace KX14 := KX14.on hb46
  replace KX22 := KX22.on hb46
  replace KR24 := KR24.on hb46
  replace KX29 := KX29.on hb46
  replace KX39 := KX39.on hb46
  replace KX45 := KX45.on hb46
  go_wp2_with fail
  go_ret
  exact ⟨rfl, KB.here⟩
end Go.Proofs.Yteffaghcjpeblaa
