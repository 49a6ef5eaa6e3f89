/- The law FnExactMovesBetween: the walk, printed by lawgen.py. No conditions. -/
import Derived.Test.YtmmneedmhmppoaaKp
import Derived.Test.YtmmneedmhmppoaaMb
import Derived.Test.YtmmneedmhmppoaaMk3
import Derived.Test.YtmmneedmhmppoaaMk2
import Derived.Outline
namespace Go.Proofs.Ytmmneedmhmppoaa
open Go.RowKit
set_option linter.unusedVariables false
set_option linter.unusedSimpArgs false

set_option maxRecDepth 100000 in
set_option maxHeartbeats 4000000 in
theorem lawMovesBetween (s0 : Int) (a0 : Option Addr) (n0 c0 : Nat) (P0 R0 : Nat → Int) (D1 : Nat → Nat) (D2 : Nat → Nat) (w : World) (hn0 : n0 ≤ 9223372036854775807) (hs0 : -32768 ≤ s0 ∧ s0 ≤ 32767) (hP0 : I8 P0) (hR0 : I8 R0) (hh0 : HamIn w a0 n0 P0 R0) (hD1 : D32 D1) (hD2 : D32 D2) :
    Calls Try.prog 6 #[.agg #[.int .i16 s0, .slice a0 n0 c0], .agg (dc D1), .agg (dc D2)] w fun e w' => e = .returned (.bool true) ∧ Below w.heap.size w w' := by
  have HP0 := Lib.hid hP0; clear hP0
  have HR0 := Lib.hid hR0; clear hR0
  have HD1 := Lib.hid hD1; clear hD1
  have HD2 := Lib.hid hD2; clear hD2
  have KB := Kp.base w
  have KH0 := kp_hamIn hh0; clear hh0
  replace KB := KB.alloc (.cells #[.int .i16 s0, .slice a0 n0 c0] 34)
  replace KH0 := KH0.alloc (.cells #[.int .i16 s0, .slice a0 n0 c0] 34)
  have KR0 := kp_new1 w #[.int .i16 s0, .slice a0 n0 c0] 34 (g := w.heap.size) (by simp)
  replace KB := KB.alloc (.cells (dc D1) 36)
  replace KH0 := KH0.alloc (.cells (dc D1) 36)
  replace KR0 := KR0.alloc (.cells (dc D1) 36)
  have KR1 := kp_newd (w.alloc (.cells #[.int .i16 s0, .slice a0 n0 c0] 34)) D1 36 (g := w.heap.size + 1) (by simp)
  replace KB := KB.alloc (.cells (dc D2) 36)
  replace KH0 := KH0.alloc (.cells (dc D2) 36)
  replace KR0 := KR0.alloc (.cells (dc D2) 36)
  replace KR1 := KR1.alloc (.cells (dc D2) 36)
  have KR2 := kp_newd ((w.alloc (.cells #[.int .i16 s0, .slice a0 n0 c0] 34)).alloc (.cells (dc D1) 36)) D2 36 (g := w.heap.size + 1 + 1) (by simp)
  go_enter Try.func6, Try.ntmps6
  go_wp2_with (first | (with_reducible refine load_lframe rfl _ rfl (w.heap.size) rfl _ s0 a0 n0 c0 KR0.here ?_) | (with_reducible refine load_arr rfl _ rfl (w.heap.size + 1) rfl _ D1 KR1.here ?_) | (with_reducible refine load_arr rfl _ rfl (w.heap.size + 1 + 1) rfl _ D2 KR2.here ?_))
  generalize (((w.alloc (.cells #[.int .i16 s0, .slice a0 n0 c0] 34)).alloc (.cells (dc D1) 36)).alloc (.cells (dc D2) 36)) = w1 at KB KH0 KR0 KR1 KR2 ⊢
  refine (szFrame_kp s0 a0 n0 c0 (1048576) _ (by omega) (by omega)).mono ?_
  rintro e w3 ⟨rfl, hb2⟩
  replace KB := KB.on hb2
  replace KH0 := KH0.on hb2
  replace KR0 := KR0.on hb2
  replace KR1 := KR1.on hb2
  replace KR2 := KR2.on hb2
  by_cases hlw3 : (1048576 : Int) < n0
  · rw [szOf_lt hlw3]
    go_wp2_with (first | (with_reducible refine load_lframe rfl _ rfl (w.heap.size) rfl _ s0 a0 n0 c0 KR0.here ?_) | (with_reducible refine load_arr rfl _ rfl (w.heap.size + 1) rfl _ D1 KR1.here ?_) | (with_reducible refine load_arr rfl _ rfl (w.heap.size + 1 + 1) rfl _ D2 KR2.here ?_))
    go_ret
    exact ⟨rfl, KB.here⟩
  rw [szOf_ge (by omega)]
  go_wp2_with (first | (with_reducible refine load_lframe rfl _ rfl (w.heap.size) rfl _ s0 a0 n0 c0 KR0.here ?_) | (with_reducible refine load_arr rfl _ rfl (w.heap.size + 1) rfl _ D1 KR1.here ?_) | (with_reducible refine load_arr rfl _ rfl (w.heap.size + 1 + 1) rfl _ D2 KR2.here ?_))
  refine wp_region_S (fun V => Below w3.heap.size w3 V) (by kernel_rfl) (Below.refl _ _).drew ?_
  refine take_val 0 (.agg #[.int .i16 s0, .slice a0 n0 c0]) rfl (by kernel_rfl) (by kernel_rfl) (by kernel_rfl) (fun _ _ _ h => h) rfl (fun V hV => ex_load_lframe _ rfl (w.heap.size) rfl _ s0 a0 n0 c0 (KR0.at hV)) (Below.refl _ _).drew ?_
  simp only [List.getElem_toArray, List.getElem_cons_zero, List.getElem_cons_succ, Act.put, List.setIfInBounds_toArray, List.set_cons_zero, List.set_cons_succ]
  refine take_val 2 (.agg (dc D1)) rfl (by kernel_rfl) (by kernel_rfl) (by kernel_rfl) (fun _ _ _ h => h) rfl (fun V hV => ex_load_arr _ rfl (w.heap.size + 1) rfl _ D1 (KR1.at hV)) (Below.refl _ _).drew ?_
  simp only [List.getElem_toArray, List.getElem_cons_zero, List.getElem_cons_succ, Act.put, List.setIfInBounds_toArray, List.set_cons_zero, List.set_cons_succ]
  refine take_val 4 (.agg (dc D2)) rfl (by kernel_rfl) (by kernel_rfl) (by kernel_rfl) (fun _ _ _ h => h) rfl (fun V hV => ex_load_arr _ rfl (w.heap.size + 1 + 1) rfl _ D2 (KR2.at hV)) (Below.refl _ _).drew ?_
  simp only [List.getElem_toArray, List.getElem_cons_zero, List.getElem_cons_succ, Act.put, List.setIfInBounds_toArray, List.set_cons_zero, List.set_cons_succ]
  have KQ4 := kp_start w3; have hdKQ4 := below_drew w3
  replace KB := KB.on hdKQ4
  replace KH0 := KH0.on hdKQ4
  replace KR0 := KR0.on hdKQ4
  replace KR1 := KR1.on hdKQ4
  replace KR2 := KR2.on hdKQ4
  clear hdKQ4
  refine step_call 1 24 #[.agg #[.int .i16 s0, .slice a0 n0 c0]] (by kernel_rfl) rfl rfl (by simp [go_sem]) ?_
  refine (toFrame_kp s0 a0 n0 c0 P0 R0 _ (by omega) hs0 (KH0.here)).mono ?_
  rintro e w6 ⟨b7, rfl, hb5, KX8⟩
  replace KB := KB.on hb5
  replace KH0 := KH0.on hb5
  replace KR0 := KR0.on hb5
  replace KR1 := KR1.on hb5
  replace KR2 := KR2.on hb5
  replace KQ4 := KQ4.on hb5
  refine ⟨_, rfl, KQ4.here, ?_⟩
  simp only [List.getElem_toArray, List.getElem_cons_zero, List.getElem_cons_succ, Act.put, List.setIfInBounds_toArray, List.set_cons_zero, List.set_cons_succ]
  refine step_call 3 25 #[.agg (dc D1)] (by kernel_rfl) rfl rfl (by simp [go_sem]) ?_
  refine (toDrum_any D1 _).mono ?_
  rintro e w10 ⟨rfl, hb9⟩
  replace KB := KB.on hb9
  replace KH0 := KH0.on hb9
  replace KR0 := KR0.on hb9
  replace KR1 := KR1.on hb9
  replace KR2 := KR2.on hb9
  replace KQ4 := KQ4.on hb9
  replace KX8 := KX8.on hb9
  refine ⟨_, rfl, KQ4.here, ?_⟩
  simp only [List.getElem_toArray, List.getElem_cons_zero, List.getElem_cons_succ, Act.put, List.setIfInBounds_toArray, List.set_cons_zero, List.set_cons_succ]
  refine step_call 5 25 #[.agg (dc D2)] (by kernel_rfl) rfl rfl (by simp [go_sem]) ?_
  refine (toDrum_any D2 _).mono ?_
  rintro e w12 ⟨rfl, hb11⟩
  replace KB := KB.on hb11
  replace KH0 := KH0.on hb11
  replace KR0 := KR0.on hb11
  replace KR1 := KR1.on hb11
  replace KR2 := KR2.on hb11
  replace KQ4 := KQ4.on hb11
  replace KX8 := KX8.on hb11
  refine ⟨_, rfl, KQ4.here, ?_⟩
  simp only [List.getElem_toArray, List.getElem_cons_zero, List.getElem_cons_succ, Act.put, List.setIfInBounds_toArray, List.set_cons_zero, List.set_cons_succ]
  refine step_call 6 34 #[.agg #[.int .i16 s0, .slice b7 n0 n0], .agg (dc D1), .agg (dc D2)] (by kernel_rfl) rfl rfl (by simp [go_sem]) ?_
  obtain ⟨r0, hr0⟩ : ∃ r, r = mbV s0 n0 P0 R0 D1 D2 (lessD D1 D2) := ⟨_, rfl⟩
  obtain ⟨r1, hr1⟩ : ∃ r, r = mbV s0 n0 P0 R0 D1 D2 (lessD D2 D1) := ⟨_, rfl⟩
  obtain ⟨r2, hr2⟩ : ∃ r, r = unl (ok2 s0 n0 P0 R0 D1 D2) 1 := ⟨_, rfl⟩
  have hlr0 : r0.length ≤ 1000000 := by rw [hr0]; apply mbV_len
  have hlr1 : r1.length ≤ 1000000 := by rw [hr1]; apply mbV_len
  refine (specMovesBetween_any s0 b7 n0 n0 P0 R0 D1 D2 _ hs0 (by omega) HP0.out HR0.out (KX8.here) HD1.out HD2.out).mono ?_
  rw [← hr0, ← hr1, ← hr2]
  rintro e w14 ⟨v15, v16, rfl, hb13, ho17, ho18, hsep19⟩
  have HR_0 := Lib.hid hr0; clear hr0
  have HR_1 := Lib.hid hr1; clear hr1
  have HR_2 := Lib.hid hr2; clear hr2
  obtain ⟨b20, c21, rfl, hz22⟩ := OwnP.at ho17
  have KW23 := kp_pair hz22; clear hz22 ho17
  obtain ⟨b24, c25, rfl, hz26⟩ := OwnP.at ho18
  have KW27 := kp_pair hz26; clear hz26 ho18
  clear hsep19
  replace KB := KB.on hb13
  replace KH0 := KH0.on hb13
  replace KR0 := KR0.on hb13
  replace KR1 := KR1.on hb13
  replace KR2 := KR2.on hb13
  replace KQ4 := KQ4.on hb13
  replace KX8 := KX8.on hb13
  refine ⟨_, rfl, KQ4.here, ?_⟩
  simp only [List.getElem_toArray, List.getElem_cons_zero, List.getElem_cons_succ, Act.put, List.setIfInBounds_toArray, List.set_cons_zero, List.set_cons_succ]
  refine take_val 7 (.tuple #[.slice b20 r0.length c21, .slice b24 r1.length c25, .int .i64 r2]) rfl (by kernel_rfl) (by kernel_rfl) (by kernel_rfl) (fun _ _ _ h => h) rfl (fun V _ => by simp [go_sem]) KQ4.here ?_
  simp only [List.getElem_toArray, List.getElem_cons_zero, List.getElem_cons_succ, Act.put, List.setIfInBounds_toArray, List.set_cons_zero, List.set_cons_succ]
  refine take_val 8 (.slice b20 r0.length c21) rfl (by kernel_rfl) (by kernel_rfl) (by kernel_rfl) (fun _ _ _ h => h) rfl (fun V _ => by simp [go_sem]) KQ4.here ?_
  simp only [List.getElem_toArray, List.getElem_cons_zero, List.getElem_cons_succ, Act.put, List.setIfInBounds_toArray, List.set_cons_zero, List.set_cons_succ]
  refine take_val 9 (.slice b24 r1.length c25) rfl (by kernel_rfl) (by kernel_rfl) (by kernel_rfl) (fun _ _ _ h => h) rfl (fun V _ => by simp [go_sem]) KQ4.here ?_
  simp only [List.getElem_toArray, List.getElem_cons_zero, List.getElem_cons_succ, Act.put, List.setIfInBounds_toArray, List.set_cons_zero, List.set_cons_succ]
  refine take_val 10 (.int .i64 r2) rfl (by kernel_rfl) (by kernel_rfl) (by kernel_rfl) (fun _ _ _ h => h) rfl (fun V _ => by simp [go_sem]) KQ4.here ?_
  simp only [List.getElem_toArray, List.getElem_cons_zero, List.getElem_cons_succ, Act.put, List.setIfInBounds_toArray, List.set_cons_zero, List.set_cons_succ]
  refine take_val 11 (.slice b20 r0.length c21) rfl (by kernel_rfl) (by kernel_rfl) (by kernel_rfl) (fun _ _ _ h => h) rfl (fun V _ => by simp [go_sem]) KQ4.here ?_
  simp only [List.getElem_toArray, List.getElem_cons_zero, List.getElem_cons_succ, Act.put, List.setIfInBounds_toArray, List.set_cons_zero, List.set_cons_succ]
  refine take_val 12 (.slice b24 r1.length c25) rfl (by kernel_rfl) (by kernel_rfl) (by kernel_rfl) (fun _ _ _ h => h) rfl (fun V _ => by simp [go_sem]) KQ4.here ?_
  simp only [List.getElem_toArray, List.getElem_cons_zero, List.getElem_cons_succ, Act.put, List.setIfInBounds_toArray, List.set_cons_zero, List.set_cons_succ]
  refine take_val 13 (.int .i64 r2) rfl (by kernel_rfl) (by kernel_rfl) (by kernel_rfl) (fun _ _ _ h => h) rfl (fun V _ => by simp [go_sem]) KQ4.here ?_
  simp only [List.getElem_toArray, List.getElem_cons_zero, List.getElem_cons_succ, Act.put, List.setIfInBounds_toArray, List.set_cons_zero, List.set_cons_succ]
  refine wpAnyH_done (by kernel_rfl) ?_ _
  clear KQ4
  go_wp2_with (first | (with_reducible refine load_lframe rfl _ rfl (w.heap.size) rfl _ s0 a0 n0 c0 KR0.here ?_) | (with_reducible refine load_arr rfl _ rfl (w.heap.size + 1) rfl _ D1 KR1.here ?_) | (with_reducible refine load_arr rfl _ rfl (w.heap.size + 1 + 1) rfl _ D2 KR2.here ?_))
  replace KB := KB.fix
  replace KH0 := KH0.fix
  replace KR0 := KR0.fix
  replace KR1 := KR1.fix
  replace KR2 := KR2.fix
  replace KX8 := KX8.fix
  replace KW23 := KW23.fix
  replace KW27 := KW27.fix
  refine (toFrame_own s0 a0 n0 c0 P0 R0 _ (by omega) hs0 (KH0.here)).mono ?_
  rintro e w29 ⟨b30, rfl, hb28, KX31, xs35, KO32⟩
  have hlt33 := (KO32.here).lt; have hsz34 := hb28.size
  replace KB := KB.on hb28
  replace KH0 := KH0.on hb28
  replace KR0 := KR0.on hb28
  replace KR1 := KR1.on hb28
  replace KR2 := KR2.on hb28
  replace KX8 := KX8.on hb28
  replace KW23 := KW23.on hb28
  replace KW27 := KW27.on hb28
  replace KB := KB.alloc (.cells #[.int .i16 s0, .slice b30 n0 n0] 43)
  replace KH0 := KH0.alloc (.cells #[.int .i16 s0, .slice b30 n0 n0] 43)
  replace KR0 := KR0.alloc (.cells #[.int .i16 s0, .slice b30 n0 n0] 43)
  replace KR1 := KR1.alloc (.cells #[.int .i16 s0, .slice b30 n0 n0] 43)
  replace KR2 := KR2.alloc (.cells #[.int .i16 s0, .slice b30 n0 n0] 43)
  replace KX8 := KX8.alloc (.cells #[.int .i16 s0, .slice b30 n0 n0] 43)
  replace KW23 := KW23.alloc (.cells #[.int .i16 s0, .slice b30 n0 n0] 43)
  replace KW27 := KW27.alloc (.cells #[.int .i16 s0, .slice b30 n0 n0] 43)
  replace KX31 := KX31.alloc (.cells #[.int .i16 s0, .slice b30 n0 n0] 43)
  replace KO32 := KO32.alloc (.cells #[.int .i16 s0, .slice b30 n0 n0] 43)
  have KR37 := kp_new1 w29 #[.int .i16 s0, .slice b30 n0 n0] 43 (g := w29.heap.size) rfl
  have hsz38 : w29.heap.size < (w29.alloc (.cells #[.int .i16 s0, .slice b30 n0 n0] 43)).heap.size := by simp
  go_wp2_with (first | (with_reducible refine load_lframe rfl _ rfl (w.heap.size) rfl _ s0 a0 n0 c0 KR0.here ?_) | (with_reducible refine load_arr rfl _ rfl (w.heap.size + 1) rfl _ D1 KR1.here ?_) | (with_reducible refine load_arr rfl _ rfl (w.heap.size + 1 + 1) rfl _ D2 KR2.here ?_) | (with_reducible refine load_iframe rfl _ rfl (w29.heap.size) rfl _ s0 b30 n0 n0 KR37.here ?_))
  generalize (w29.alloc (.cells #[.int .i16 s0, .slice b30 n0 n0] 43)) = w39 at KB KH0 KR0 KR1 KR2 KX8 KW23 KW27 KX31 KO32 KR37 hsz38 ⊢
  refine wp_region_S (fun V => Below w39.heap.size w39 V) (by kernel_rfl) (Below.refl _ _).drew ?_
  refine take_val 0 (.agg #[.int .i16 s0, .slice b30 n0 n0]) rfl (by kernel_rfl) (by kernel_rfl) (by kernel_rfl) (fun _ _ _ h => h) rfl (fun V hV => ex_load_iframe _ rfl (w29.heap.size) rfl _ s0 b30 n0 n0 (KR37.at hV)) (Below.refl _ _).drew ?_
  simp only [List.getElem_toArray, List.getElem_cons_zero, List.getElem_cons_succ, Act.put, List.setIfInBounds_toArray, List.set_cons_zero, List.set_cons_succ]
  refine take_val 1 (.agg (dc D1)) rfl (by kernel_rfl) (by kernel_rfl) (by kernel_rfl) (fun _ _ _ h => h) rfl (fun V hV => ex_load_arr _ rfl (w.heap.size + 1) rfl _ D1 (KR1.at hV)) (Below.refl _ _).drew ?_
  simp only [List.getElem_toArray, List.getElem_cons_zero, List.getElem_cons_succ, Act.put, List.setIfInBounds_toArray, List.set_cons_zero, List.set_cons_succ]
  refine take_val 3 (.agg (dc D2)) rfl (by kernel_rfl) (by kernel_rfl) (by kernel_rfl) (fun _ _ _ h => h) rfl (fun V hV => ex_load_arr _ rfl (w.heap.size + 1 + 1) rfl _ D2 (KR2.at hV)) (Below.refl _ _).drew ?_
  simp only [List.getElem_toArray, List.getElem_cons_zero, List.getElem_cons_succ, Act.put, List.setIfInBounds_toArray, List.set_cons_zero, List.set_cons_succ]
  have KQ40 := kp_start w39; have hdKQ40 := below_drew w39
  have hsz41 := hdKQ40.size
  replace KB := KB.on hdKQ40
  replace KH0 := KH0.on hdKQ40
  replace KR0 := KR0.on hdKQ40
  replace KR1 := KR1.on hdKQ40
  replace KR2 := KR2.on hdKQ40
  replace KX8 := KX8.on hdKQ40
  replace KW23 := KW23.on hdKQ40
  replace KW27 := KW27.on hdKQ40
  replace KX31 := KX31.on hdKQ40
  replace KO32 := KO32.on hdKQ40
  replace KR37 := KR37.on hdKQ40
  clear hdKQ40
  refine step_call 2 25 #[.agg (dc D1)] (by kernel_rfl) rfl rfl (by simp [go_sem]) ?_
  refine (toDrum_any D1 _).mono ?_
  rintro e w43 ⟨rfl, hb42⟩
  have hsz44 := hb42.size
  replace KB := KB.on hb42
  replace KH0 := KH0.on hb42
  replace KR0 := KR0.on hb42
  replace KR1 := KR1.on hb42
  replace KR2 := KR2.on hb42
  replace KX8 := KX8.on hb42
  replace KW23 := KW23.on hb42
  replace KW27 := KW27.on hb42
  replace KX31 := KX31.on hb42
  replace KO32 := KO32.on hb42
  replace KR37 := KR37.on hb42
  replace KQ40 := KQ40.on hb42
  refine ⟨_, rfl, KQ40.here, ?_⟩
  simp only [List.getElem_toArray, List.getElem_cons_zero, List.getElem_cons_succ, Act.put, List.setIfInBounds_toArray, List.set_cons_zero, List.set_cons_succ]
  refine step_call 4 25 #[.agg (dc D2)] (by kernel_rfl) rfl rfl (by simp [go_sem]) ?_
  refine (toDrum_any D2 _).mono ?_
  rintro e w46 ⟨rfl, hb45⟩
  have hsz47 := hb45.size
  replace KB := KB.on hb45
  replace KH0 := KH0.on hb45
  replace KR0 := KR0.on hb45
  replace KR1 := KR1.on hb45
  replace KR2 := KR2.on hb45
  replace KX8 := KX8.on hb45
  replace KW23 := KW23.on hb45
  replace KW27 := KW27.on hb45
  replace KX31 := KX31.on hb45
  replace KO32 := KO32.on hb45
  replace KR37 := KR37.on hb45
  replace KQ40 := KQ40.on hb45
  refine ⟨_, rfl, KQ40.here, ?_⟩
  simp only [List.getElem_toArray, List.getElem_cons_zero, List.getElem_cons_succ, Act.put, List.setIfInBounds_toArray, List.set_cons_zero, List.set_cons_succ]
  refine step_call 5 35 #[.agg #[.int .i16 s0, .slice b30 n0 n0], .agg (dc D1), .agg (dc D2)] (by kernel_rfl) rfl rfl (by simp [go_sem]) ?_
  refine (implMovesBetween_any s0 b30 n0 n0 P0 R0 D1 D2 _ hs0 (by omega) HP0.out HR0.out (KX31.here) HD1.out HD2.out).mono ?_
  rw [← HR_0.out, ← HR_1.out, ← HR_2.out]
  rintro e w49 ⟨v50, v51, rfl, hb48, ho52, ho53, hsep54⟩
  obtain ⟨b55, c56, rfl, hz57⟩ := OwnP.at ho52
  have hlt59 := ho52.lt; have KG58 := kp_OwnP ho52; clear hz57
  clear ho52
  obtain ⟨b60, c61, rfl, hz62⟩ := OwnP.at ho53
  have hlt64 := ho53.lt; have KG63 := kp_OwnP ho53; clear hz62
  clear ho53
  have hsz65 := hb48.size
  replace KB := KB.on hb48
  replace KH0 := KH0.on hb48
  replace KR0 := KR0.on hb48
  replace KR1 := KR1.on hb48
  replace KR2 := KR2.on hb48
  replace KX8 := KX8.on hb48
  replace KW23 := KW23.on hb48
  replace KW27 := KW27.on hb48
  replace KX31 := KX31.on hb48
  replace KO32 := KO32.on hb48
  replace KR37 := KR37.on hb48
  replace KQ40 := KQ40.on hb48
  refine ⟨_, rfl, KQ40.here, ?_⟩
  simp only [List.getElem_toArray, List.getElem_cons_zero, List.getElem_cons_succ, Act.put, List.setIfInBounds_toArray, List.set_cons_zero, List.set_cons_succ]
  refine take_val 6 (.tuple #[.slice b55 r0.length c56, .slice b60 r1.length c61, .int .i64 r2]) rfl (by kernel_rfl) (by kernel_rfl) (by kernel_rfl) (fun _ _ _ h => h) rfl (fun V _ => by simp [go_sem]) KQ40.here ?_
  simp only [List.getElem_toArray, List.getElem_cons_zero, List.getElem_cons_succ, Act.put, List.setIfInBounds_toArray, List.set_cons_zero, List.set_cons_succ]
  refine take_val 7 (.slice b55 r0.length c56) rfl (by kernel_rfl) (by kernel_rfl) (by kernel_rfl) (fun _ _ _ h => h) rfl (fun V _ => by simp [go_sem]) KQ40.here ?_
  simp only [List.getElem_toArray, List.getElem_cons_zero, List.getElem_cons_succ, Act.put, List.setIfInBounds_toArray, List.set_cons_zero, List.set_cons_succ]
  refine take_val 8 (.slice b60 r1.length c61) rfl (by kernel_rfl) (by kernel_rfl) (by kernel_rfl) (fun _ _ _ h => h) rfl (fun V _ => by simp [go_sem]) KQ40.here ?_
  simp only [List.getElem_toArray, List.getElem_cons_zero, List.getElem_cons_succ, Act.put, List.setIfInBounds_toArray, List.set_cons_zero, List.set_cons_succ]
  refine take_val 9 (.int .i64 r2) rfl (by kernel_rfl) (by kernel_rfl) (by kernel_rfl) (fun _ _ _ h => h) rfl (fun V _ => by simp [go_sem]) KQ40.here ?_
  simp only [List.getElem_toArray, List.getElem_cons_zero, List.getElem_cons_succ, Act.put, List.setIfInBounds_toArray, List.set_cons_zero, List.set_cons_succ]
  refine take_val 10 (.slice b55 r0.length c56) rfl (by kernel_rfl) (by kernel_rfl) (by kernel_rfl) (fun _ _ _ h => h) rfl (fun V _ => by simp [go_sem]) KQ40.here ?_
  simp only [List.getElem_toArray, List.getElem_cons_zero, List.getElem_cons_succ, Act.put, List.setIfInBounds_toArray, List.set_cons_zero, List.set_cons_succ]
  refine take_val 11 (.slice b60 r1.length c61) rfl (by kernel_rfl) (by kernel_rfl) (by kernel_rfl) (fun _ _ _ h => h) rfl (fun V _ => by simp [go_sem]) KQ40.here ?_
  simp only [List.getElem_toArray, List.getElem_cons_zero, List.getElem_cons_succ, Act.put, List.setIfInBounds_toArray, List.set_cons_zero, List.set_cons_succ]
  refine take_val 12 (.int .i64 r2) rfl (by kernel_rfl) (by kernel_rfl) (by kernel_rfl) (fun _ _ _ h => h) rfl (fun V _ => by simp [go_sem]) KQ40.here ?_
  simp only [List.getElem_toArray, List.getElem_cons_zero, List.getElem_cons_succ, Act.put, List.setIfInBounds_toArray, List.set_cons_zero, List.set_cons_succ]
  refine wpAnyH_done (by kernel_rfl) ?_ _
  clear KQ40
  go_wp2_with (first | (with_reducible refine load_lframe rfl _ rfl (w.heap.size) rfl _ s0 a0 n0 c0 KR0.here ?_) | (with_reducible refine load_arr rfl _ rfl (w.heap.size + 1) rfl _ D1 KR1.here ?_) | (with_reducible refine load_arr rfl _ rfl (w.heap.size + 1 + 1) rfl _ D2 KR2.here ?_) | (with_reducible refine load_iframe rfl _ rfl (w29.heap.size) rfl _ s0 b30 n0 n0 KR37.here ?_))
  refine (eqInt64A2S_kp b55 b20 r0.length c56 c21 (fun i => (r0.getD i (0, 0)).1) (fun i => (r0.getD i (0, 0)).2) _ (by omega) (KG58.here).readAt (KW23.here)).mono ?_
  rintro e w67 ⟨rfl, hb66⟩
  replace KB := KB.on hb66
  replace KH0 := KH0.on hb66
  replace KR0 := KR0.on hb66
  replace KR1 := KR1.on hb66
  replace KR2 := KR2.on hb66
  replace KX8 := KX8.on hb66
  replace KW23 := KW23.on hb66
  replace KW27 := KW27.on hb66
  replace KX31 := KX31.on hb66
  replace KO32 := KO32.on hb66
  replace KR37 := KR37.on hb66
  replace KG58 := KG58.on hb66
  replace KG63 := KG63.on hb66
  go_wp2_with (first | (with_reducible refine load_lframe rfl _ rfl (w.heap.size) rfl _ s0 a0 n0 c0 KR0.here ?_) | (with_reducible refine load_arr rfl _ rfl (w.heap.size + 1) rfl _ D1 KR1.here ?_) | (with_reducible refine load_arr rfl _ rfl (w.heap.size + 1 + 1) rfl _ D2 KR2.here ?_) | (with_reducible refine load_iframe rfl _ rfl (w29.heap.size) rfl _ s0 b30 n0 n0 KR37.here ?_))
  refine (eqInt64A2S_kp b60 b24 r1.length c61 c25 (fun i => (r1.getD i (0, 0)).1) (fun i => (r1.getD i (0, 0)).2) _ (by omega) (KG63.here).readAt (KW27.here)).mono ?_
  rintro e w69 ⟨rfl, hb68⟩
  replace KB := KB.on hb68
  replace KH0 := KH0.on hb68
  replace KR0 := KR0.on hb68
  replace KR1 := KR1.on hb68
  replace KR2 := KR2.on hb68
  replace KX8 := KX8.on hb68
  replace KW23 := KW23.on hb68
  replace KW27 := KW27.on hb68
  replace KX31 := KX31.on hb68
  replace KO32 := KO32.on hb68
  replace KR37 := KR37.on hb68
  replace KG58 := KG58.on hb68
  replace KG63 := KG63.on hb68
  go_wp2_with (first | (with_reducible refine load_lframe rfl _ rfl (w.heap.size) rfl _ s0 a0 n0 c0 KR0.here ?_) | (with_reducible refine load_arr rfl _ rfl (w.heap.size + 1) rfl _ D1 KR1.here ?_) | (with_reducible refine load_arr rfl _ rfl (w.heap.size + 1 + 1) rfl _ D2 KR2.here ?_) | (with_reducible refine load_iframe rfl _ rfl (w29.heap.size) rfl _ s0 b30 n0 n0 KR37.here ?_))
  refine wp_region_S (fun V => Below w69.heap.size w69 V) (by kernel_rfl) (Below.refl _ _).drew ?_
  refine take_val 0 (.agg #[.int .i16 s0, .slice b30 n0 n0]) rfl (by kernel_rfl) (by kernel_rfl) (by kernel_rfl) (fun _ _ _ h => h) rfl (fun V hV => ex_load_iframe _ rfl (w29.heap.size) rfl _ s0 b30 n0 n0 (KR37.at hV)) (Below.refl _ _).drew ?_
  simp only [List.getElem_toArray, List.getElem_cons_zero, List.getElem_cons_succ, Act.put, List.setIfInBounds_toArray, List.set_cons_zero, List.set_cons_succ]
  refine take_val 1 (.agg #[.int .i16 s0, .slice a0 n0 c0]) rfl (by kernel_rfl) (by kernel_rfl) (by kernel_rfl) (fun _ _ _ h => h) rfl (fun V hV => ex_load_lframe _ rfl (w.heap.size) rfl _ s0 a0 n0 c0 (KR0.at hV)) (Below.refl _ _).drew ?_
  simp only [List.getElem_toArray, List.getElem_cons_zero, List.getElem_cons_succ, Act.put, List.setIfInBounds_toArray, List.set_cons_zero, List.set_cons_succ]
  have KQ70 := kp_start w69; have hdKQ70 := below_drew w69
  replace KB := KB.on hdKQ70
  replace KH0 := KH0.on hdKQ70
  replace KR0 := KR0.on hdKQ70
  replace KR1 := KR1.on hdKQ70
  replace KR2 := KR2.on hdKQ70
  replace KX8 := KX8.on hdKQ70
  replace KW23 := KW23.on hdKQ70
  replace KW27 := KW27.on hdKQ70
  replace KX31 := KX31.on hdKQ70
  replace KO32 := KO32.on hdKQ70
  replace KR37 := KR37.on hdKQ70
  replace KG58 := KG58.on hdKQ70
  replace KG63 := KG63.on hdKQ70
  clear hdKQ70
  refine step_call 2 24 #[.agg #[.int .i16 s0, .slice a0 n0 c0]] (by kernel_rfl) rfl rfl (by simp [go_sem]) ?_
  refine (toFrame_kp s0 a0 n0 c0 P0 R0 _ (by omega) hs0 (KH0.here)).mono ?_
  rintro e w72 ⟨b73, rfl, hb71, KX74⟩
  replace KB := KB.on hb71
  replace KH0 := KH0.on hb71
  replace KR0 := KR0.on hb71
  replace KR1 := KR1.on hb71
  replace KR2 := KR2.on hb71
  replace KX8 := KX8.on hb71
  replace KW23 := KW23.on hb71
  replace KW27 := KW27.on hb71
  replace KX31 := KX31.on hb71
  replace KO32 := KO32.on hb71
  replace KR37 := KR37.on hb71
  replace KG58 := KG58.on hb71
  replace KG63 := KG63.on hb71
  replace KQ70 := KQ70.on hb71
  refine ⟨_, rfl, KQ70.here, ?_⟩
  simp only [List.getElem_toArray, List.getElem_cons_zero, List.getElem_cons_succ, Act.put, List.setIfInBounds_toArray, List.set_cons_zero, List.set_cons_succ]
  refine step_call 3 28 #[.agg #[.int .i16 s0, .slice b30 n0 n0], .agg #[.int .i16 s0, .slice b73 n0 n0]] (by kernel_rfl) rfl rfl (by simp [go_sem]) ?_
  refine (eqFrame_kp s0 _ _ n0 n0 n0 P0 R0 _ (by omega) (KX31.here) (KX74.here)).mono ?_
  rintro e w76 ⟨rfl, hb75⟩
  replace KB := KB.on hb75
  replace KH0 := KH0.on hb75
  replace KR0 := KR0.on hb75
  replace KR1 := KR1.on hb75
  replace KR2 := KR2.on hb75
  replace KX8 := KX8.on hb75
  replace KW23 := KW23.on hb75
  replace KW27 := KW27.on hb75
  replace KX31 := KX31.on hb75
  replace KO32 := KO32.on hb75
  replace KR37 := KR37.on hb75
  replace KG58 := KG58.on hb75
  replace KG63 := KG63.on hb75
  replace KQ70 := KQ70.on hb75
  replace KX74 := KX74.on hb75
  refine ⟨_, rfl, KQ70.here, ?_⟩
  simp only [List.getElem_toArray, List.getElem_cons_zero, List.getElem_cons_succ, Act.put, List.setIfInBounds_toArray, List.set_cons_zero, List.set_cons_succ]
  refine take_val 4 (.bool false) rfl (by kernel_rfl) (by kernel_rfl) (by kernel_rfl) (fun _ _ _ h => h) rfl (fun V _ => by simp [go_sem]) KQ70.here ?_
  simp only [List.getElem_toArray, List.getElem_cons_zero, List.getElem_cons_succ, Act.put, List.setIfInBounds_toArray, List.set_cons_zero, List.set_cons_succ]
  refine wpAnyH_done (by kernel_rfl) ?_ _
  clear KQ70
  go_wp2_with (first | (with_reducible refine load_lframe rfl _ rfl (w.heap.size) rfl _ s0 a0 n0 c0 KR0.here ?_) | (with_reducible refine load_arr rfl _ rfl (w.heap.size + 1) rfl _ D1 KR1.here ?_) | (with_reducible refine load_arr rfl _ rfl (w.heap.size + 1 + 1) rfl _ D2 KR2.here ?_) | (with_reducible refine load_iframe rfl _ rfl (w29.heap.size) rfl _ s0 b30 n0 n0 KR37.here ?_))
  refine (markFrame_own w14.heap.size s0 b30 n0 n0 _ 1 _ (by omega) (by omega) (KO32.here)).mono ?_
  rintro e w78 ⟨rfl, hg79, _⟩
  obtain ⟨q81, hq81⟩ : ∃ q : Nat, 1 + n0 * 2 = q := ⟨_, rfl⟩
  rw [hq81]; have hq81b : q81 ≤ 110000000 := by omega
  clear hq81
  replace KB := KB.grown hg79 (fun k hk => by have := hlt33 k hk; omega)
  replace KH0 := KH0.grown hg79 (fun k hk => by have := hlt33 k hk; omega)
  replace KR0 := KR0.grown hg79 (fun k hk => by have := hlt33 k hk; omega)
  replace KR1 := KR1.grown hg79 (fun k hk => by have := hlt33 k hk; omega)
  replace KR2 := KR2.grown hg79 (fun k hk => by have := hlt33 k hk; omega)
  replace KX8 := KX8.grown hg79 (fun k hk => by have := hlt33 k hk; omega)
  replace KW23 := KW23.grown hg79 (fun k hk => by have := hlt33 k hk; omega)
  replace KW27 := KW27.grown hg79 (fun k hk => by have := hlt33 k hk; omega)
  have hr := own_grown (KG58.here) hg79 (fun k hk => by have := hlt33 k hk; omega); replace KG58 := kp_OwnP hr; clear hr
  have hr := own_grown (KG63.here) hg79 (fun k hk => by have := hlt33 k hk; omega); replace KG63 := kp_OwnP hr; clear hr
  clear KX31 KO32 KR37 KX74
  clear hg79
  go_wp2_with (first | (with_reducible refine load_lframe rfl _ rfl (w.heap.size) rfl _ s0 a0 n0 c0 KR0.here ?_) | (with_reducible refine load_arr rfl _ rfl (w.heap.size + 1) rfl _ D1 KR1.here ?_) | (with_reducible refine load_arr rfl _ rfl (w.heap.size + 1 + 1) rfl _ D2 KR2.here ?_))
  refine (eqInt64A2S_kp b55 b20 r0.length c56 c21 (fun i => (r0.getD i (0, 0)).1) (fun i => (r0.getD i (0, 0)).2) _ (by omega) (KG58.here).readAt (KW23.here)).mono ?_
  rintro e w83 ⟨rfl, hb82⟩
  replace KB := KB.on hb82
  replace KH0 := KH0.on hb82
  replace KR0 := KR0.on hb82
  replace KR1 := KR1.on hb82
  replace KR2 := KR2.on hb82
  replace KX8 := KX8.on hb82
  replace KW23 := KW23.on hb82
  replace KW27 := KW27.on hb82
  replace KG58 := KG58.on hb82
  replace KG63 := KG63.on hb82
  go_wp2_with (first | (with_reducible refine load_lframe rfl _ rfl (w.heap.size) rfl _ s0 a0 n0 c0 KR0.here ?_) | (with_reducible refine load_arr rfl _ rfl (w.heap.size + 1) rfl _ D1 KR1.here ?_) | (with_reducible refine load_arr rfl _ rfl (w.heap.size + 1 + 1) rfl _ D2 KR2.here ?_))
  refine (eqInt64A2S_kp b60 b24 r1.length c61 c25 (fun i => (r1.getD i (0, 0)).1) (fun i => (r1.getD i (0, 0)).2) _ (by omega) (KG63.here).readAt (KW27.here)).mono ?_
  rintro e w85 ⟨rfl, hb84⟩
  replace KB := KB.on hb84
  replace KH0 := KH0.on hb84
  replace KR0 := KR0.on hb84
  replace KR1 := KR1.on hb84
  replace KR2 := KR2.on hb84
  replace KX8 := KX8.on hb84
  replace KW23 := KW23.on hb84
  replace KW27 := KW27.on hb84
  replace KG58 := KG58.on hb84
  replace KG63 := KG63.on hb84
  go_wp2_with (first | (with_reducible refine load_lframe rfl _ rfl (w.heap.size) rfl _ s0 a0 n0 c0 KR0.here ?_) | (with_reducible refine load_arr rfl _ rfl (w.heap.size + 1) rfl _ D1 KR1.here ?_) | (with_reducible refine load_arr rfl _ rfl (w.heap.size + 1 + 1) rfl _ D2 KR2.here ?_))
  refine (markInt64A2S_own w46.heap.size _ r0.length _ 1 _ (by omega) (by omega) (KG58.here)).mono ?_
  rintro e w87 ⟨rfl, hg88, ho89⟩
  obtain ⟨q90, hq90⟩ : ∃ q : Nat, 1 + r0.length * 2 = q := ⟨_, rfl⟩
  rw [hq90]; have HQ91 := Lib.hid hq90; have hq90b : q90 ≤ 5000000 := by omega
  clear hq90
  replace KB := KB.grown hg88 (fun k hk => by have := hlt59 k hk; omega)
  replace KH0 := KH0.grown hg88 (fun k hk => by have := hlt59 k hk; omega)
  replace KR0 := KR0.grown hg88 (fun k hk => by have := hlt59 k hk; omega)
  replace KR1 := KR1.grown hg88 (fun k hk => by have := hlt59 k hk; omega)
  replace KR2 := KR2.grown hg88 (fun k hk => by have := hlt59 k hk; omega)
  replace KX8 := KX8.grown hg88 (fun k hk => by have := hlt59 k hk; omega)
  replace KW23 := KW23.grown hg88 (fun k hk => by have := hlt59 k hk; omega)
  replace KW27 := KW27.grown hg88 (fun k hk => by have := hlt59 k hk; omega)
  have hr := own_kept (KG63.here) hg88 (hsep54.symm); replace KG63 := kp_OwnP hr; clear hr
  have KG58m := kp_ownR ho89; clear ho89 hg88
  go_wp2_with (first | (with_reducible refine load_lframe rfl _ rfl (w.heap.size) rfl _ s0 a0 n0 c0 KR0.here ?_) | (with_reducible refine load_arr rfl _ rfl (w.heap.size + 1) rfl _ D1 KR1.here ?_) | (with_reducible refine load_arr rfl _ rfl (w.heap.size + 1 + 1) rfl _ D2 KR2.here ?_))
  refine (markInt64A2S_own w46.heap.size _ r1.length _ q90 _ (by omega) (by omega) (KG63.here)).mono ?_
  rintro e w93 ⟨rfl, hg94, ho95⟩
  obtain ⟨q96, hq96⟩ : ∃ q : Nat, q90 + r1.length * 2 = q := ⟨_, rfl⟩
  rw [hq96]; have HQ97 := Lib.hid hq96; have hq96b : q96 ≤ 10000000 := by omega
  clear hq96
  replace KB := KB.grown hg94 (fun k hk => by have := hlt64 k hk; omega)
  replace KH0 := KH0.grown hg94 (fun k hk => by have := hlt64 k hk; omega)
  replace KR0 := KR0.grown hg94 (fun k hk => by have := hlt64 k hk; omega)
  replace KR1 := KR1.grown hg94 (fun k hk => by have := hlt64 k hk; omega)
  replace KR2 := KR2.grown hg94 (fun k hk => by have := hlt64 k hk; omega)
  replace KX8 := KX8.grown hg94 (fun k hk => by have := hlt64 k hk; omega)
  replace KW23 := KW23.grown hg94 (fun k hk => by have := hlt64 k hk; omega)
  replace KW27 := KW27.grown hg94 (fun k hk => by have := hlt64 k hk; omega)
  have hr := own_kept (KG58m.here) hg94 (hsep54); replace KG58m := kp_ownR hr; clear hr
  have KG63m := kp_ownR ho95; clear ho95 hg94
  go_wp2_with (first | (with_reducible refine load_lframe rfl _ rfl (w.heap.size) rfl _ s0 a0 n0 c0 KR0.here ?_) | (with_reducible refine load_arr rfl _ rfl (w.heap.size + 1) rfl _ D1 KR1.here ?_) | (with_reducible refine load_arr rfl _ rfl (w.heap.size + 1 + 1) rfl _ D2 KR2.here ?_))
  refine (heldInt64A2S_own w46.heap.size _ r0.length 1 _ (by omega) (by omega) (KG58m.here)).mono ?_
  rintro e w99 ⟨rfl, rfl⟩
  rw [HQ91.out]
  go_wp2_with (first | (with_reducible refine load_lframe rfl _ rfl (w.heap.size) rfl _ s0 a0 n0 c0 KR0.here ?_) | (with_reducible refine load_arr rfl _ rfl (w.heap.size + 1) rfl _ D1 KR1.here ?_) | (with_reducible refine load_arr rfl _ rfl (w.heap.size + 1 + 1) rfl _ D2 KR2.here ?_))
  refine (heldInt64A2S_own w46.heap.size _ r1.length q90 _ (by omega) (by omega) (KG63m.here)).mono ?_
  rintro e w101 ⟨rfl, rfl⟩
  rw [HQ97.out]
  go_wp2_with (first | (with_reducible refine load_lframe rfl _ rfl (w.heap.size) rfl _ s0 a0 n0 c0 KR0.here ?_) | (with_reducible refine load_arr rfl _ rfl (w.heap.size + 1) rfl _ D1 KR1.here ?_) | (with_reducible refine load_arr rfl _ rfl (w.heap.size + 1 + 1) rfl _ D2 KR2.here ?_))
  refine wp_region_S (fun V => Below w93.heap.size w93 V) (by kernel_rfl) (Below.refl _ _).drew ?_
  refine take_val 0 (.agg #[.int .i16 s0, .slice a0 n0 c0]) rfl (by kernel_rfl) (by kernel_rfl) (by kernel_rfl) (fun _ _ _ h => h) rfl (fun V hV => ex_load_lframe _ rfl (w.heap.size) rfl _ s0 a0 n0 c0 (KR0.at hV)) (Below.refl _ _).drew ?_
  simp only [List.getElem_toArray, List.getElem_cons_zero, List.getElem_cons_succ, Act.put, List.setIfInBounds_toArray, List.set_cons_zero, List.set_cons_succ]
  refine take_val 2 (.agg (dc D1)) rfl (by kernel_rfl) (by kernel_rfl) (by kernel_rfl) (fun _ _ _ h => h) rfl (fun V hV => ex_load_arr _ rfl (w.heap.size + 1) rfl _ D1 (KR1.at hV)) (Below.refl _ _).drew ?_
  simp only [List.getElem_toArray, List.getElem_cons_zero, List.getElem_cons_succ, Act.put, List.setIfInBounds_toArray, List.set_cons_zero, List.set_cons_succ]
  refine take_val 4 (.agg (dc D2)) rfl (by kernel_rfl) (by kernel_rfl) (by kernel_rfl) (fun _ _ _ h => h) rfl (fun V hV => ex_load_arr _ rfl (w.heap.size + 1 + 1) rfl _ D2 (KR2.at hV)) (Below.refl _ _).drew ?_
  simp only [List.getElem_toArray, List.getElem_cons_zero, List.getElem_cons_succ, Act.put, List.setIfInBounds_toArray, List.set_cons_zero, List.set_cons_succ]
  have KQ102 := kp_start w93; have hdKQ102 := below_drew w93
  replace KB := KB.on hdKQ102
  replace KH0 := KH0.on hdKQ102
  replace KR0 := KR0.on hdKQ102
  replace KR1 := KR1.on hdKQ102
  replace KR2 := KR2.on hdKQ102
  replace KX8 := KX8.on hdKQ102
  replace KW23 := KW23.on hdKQ102
  replace KW27 := KW27.on hdKQ102
  replace KG58m := KG58m.on hdKQ102
  replace KG63m := KG63m.on hdKQ102
  clear hdKQ102
  refine step_call 1 24 #[.agg #[.int .i16 s0, .slice a0 n0 c0]] (by kernel_rfl) rfl rfl (by simp [go_sem]) ?_
  refine (toFrame_kp s0 a0 n0 c0 P0 R0 _ (by omega) hs0 (KH0.here)).mono ?_
  rintro e w104 ⟨b105, rfl, hb103, KX106⟩
  replace KB := KB.on hb103
  replace KH0 := KH0.on hb103
  replace KR0 := KR0.on hb103
  replace KR1 := KR1.on hb103
  replace KR2 := KR2.on hb103
  replace KX8 := KX8.on hb103
  replace KW23 := KW23.on hb103
  replace KW27 := KW27.on hb103
  replace KG58m := KG58m.on hb103
  replace KG63m := KG63m.on hb103
  replace KQ102 := KQ102.on hb103
  refine ⟨_, rfl, KQ102.here, ?_⟩
  simp only [List.getElem_toArray, List.getElem_cons_zero, List.getElem_cons_succ, Act.put, List.setIfInBounds_toArray, List.set_cons_zero, List.set_cons_succ]
  refine step_call 3 25 #[.agg (dc D1)] (by kernel_rfl) rfl rfl (by simp [go_sem]) ?_
  refine (toDrum_any D1 _).mono ?_
  rintro e w108 ⟨rfl, hb107⟩
  replace KB := KB.on hb107
  replace KH0 := KH0.on hb107
  replace KR0 := KR0.on hb107
  replace KR1 := KR1.on hb107
  replace KR2 := KR2.on hb107
  replace KX8 := KX8.on hb107
  replace KW23 := KW23.on hb107
  replace KW27 := KW27.on hb107
  replace KG58m := KG58m.on hb107
  replace KG63m := KG63m.on hb107
  replace KQ102 := KQ102.on hb107
  replace KX106 := KX106.on hb107
  refine ⟨_, rfl, KQ102.here, ?_⟩
  simp only [List.getElem_toArray, List.getElem_cons_zero, List.getElem_cons_succ, Act.put, List.setIfInBounds_toArray, List.set_cons_zero, List.set_cons_succ]
  refine step_call 5 25 #[.agg (dc D2)] (by kernel_rfl) rfl rfl (by simp [go_sem]) ?_
  refine (toDrum_any D2 _).mono ?_
  rintro e w110 ⟨rfl, hb109⟩
  replace KB := KB.on hb109
  replace KH0 := KH0.on hb109
  replace KR0 := KR0.on hb109
  replace KR1 := KR1.on hb109
  replace KR2 := KR2.on hb109
  replace KX8 := KX8.on hb109
  replace KW23 := KW23.on hb109
  replace KW27 := KW27.on hb109
  replace KG58m := KG58m.on hb109
  replace KG63m := KG63m.on hb109
  replace KQ102 := KQ102.on hb109
  replace KX106 := KX106.on hb109
  refine ⟨_, rfl, KQ102.here, ?_⟩
  simp only [List.getElem_toArray, List.getElem_cons_zero, List.getElem_cons_succ, Act.put, List.setIfInBounds_toArray, List.set_cons_zero, List.set_cons_succ]
  refine step_call 6 35 #[.agg #[.int .i16 s0, .slice b105 n0 n0], .agg (dc D1), .agg (dc D2)] (by kernel_rfl) rfl rfl (by simp [go_sem]) ?_
  refine (implMovesBetween_any s0 b105 n0 n0 P0 R0 D1 D2 _ hs0 (by omega) HP0.out HR0.out (KX106.here) HD1.out HD2.out).mono ?_
  rw [← HR_0.out, ← HR_1.out, ← HR_2.out]
  rintro e w112 ⟨v113, v114, rfl, hb111, ho115, ho116, hsep117⟩
  obtain ⟨b118, c119, rfl, hz120⟩ := OwnP.at ho115
  have KW121 := kp_pair hz120; clear hz120 ho115
  obtain ⟨b122, c123, rfl, hz124⟩ := OwnP.at ho116
  have KW125 := kp_pair hz124; clear hz124 ho116
  clear hsep117
  replace KB := KB.on hb111
  replace KH0 := KH0.on hb111
  replace KR0 := KR0.on hb111
  replace KR1 := KR1.on hb111
  replace KR2 := KR2.on hb111
  replace KX8 := KX8.on hb111
  replace KW23 := KW23.on hb111
  replace KW27 := KW27.on hb111
  replace KG58m := KG58m.on hb111
  replace KG63m := KG63m.on hb111
  replace KQ102 := KQ102.on hb111
  replace KX106 := KX106.on hb111
  refine ⟨_, rfl, KQ102.here, ?_⟩
  simp only [List.getElem_toArray, List.getElem_cons_zero, List.getElem_cons_succ, Act.put, List.setIfInBounds_toArray, List.set_cons_zero, List.set_cons_succ]
  refine take_val 7 (.tuple #[.slice b118 r0.length c119, .slice b122 r1.length c123, .int .i64 r2]) rfl (by kernel_rfl) (by kernel_rfl) (by kernel_rfl) (fun _ _ _ h => h) rfl (fun V _ => by simp [go_sem]) KQ102.here ?_
  simp only [List.getElem_toArray, List.getElem_cons_zero, List.getElem_cons_succ, Act.put, List.setIfInBounds_toArray, List.set_cons_zero, List.set_cons_succ]
  refine take_val 8 (.slice b118 r0.length c119) rfl (by kernel_rfl) (by kernel_rfl) (by kernel_rfl) (fun _ _ _ h => h) rfl (fun V _ => by simp [go_sem]) KQ102.here ?_
  simp only [List.getElem_toArray, List.getElem_cons_zero, List.getElem_cons_succ, Act.put, List.setIfInBounds_toArray, List.set_cons_zero, List.set_cons_succ]
  refine take_val 9 (.slice b122 r1.length c123) rfl (by kernel_rfl) (by kernel_rfl) (by kernel_rfl) (fun _ _ _ h => h) rfl (fun V _ => by simp [go_sem]) KQ102.here ?_
  simp only [List.getElem_toArray, List.getElem_cons_zero, List.getElem_cons_succ, Act.put, List.setIfInBounds_toArray, List.set_cons_zero, List.set_cons_succ]
  refine take_val 10 (.int .i64 r2) rfl (by kernel_rfl) (by kernel_rfl) (by kernel_rfl) (fun _ _ _ h => h) rfl (fun V _ => by simp [go_sem]) KQ102.here ?_
  simp only [List.getElem_toArray, List.getElem_cons_zero, List.getElem_cons_succ, Act.put, List.setIfInBounds_toArray, List.set_cons_zero, List.set_cons_succ]
  refine take_val 11 (.slice b118 r0.length c119) rfl (by kernel_rfl) (by kernel_rfl) (by kernel_rfl) (fun _ _ _ h => h) rfl (fun V _ => by simp [go_sem]) KQ102.here ?_
  simp only [List.getElem_toArray, List.getElem_cons_zero, List.getElem_cons_succ, Act.put, List.setIfInBounds_toArray, List.set_cons_zero, List.set_cons_succ]
  refine take_val 12 (.slice b122 r1.length c123) rfl (by kernel_rfl) (by kernel_rfl) (by kernel_rfl) (fun _ _ _ h => h) rfl (fun V _ => by simp [go_sem]) KQ102.here ?_
  simp only [List.getElem_toArray, List.getElem_cons_zero, List.getElem_cons_succ, Act.put, List.setIfInBounds_toArray, List.set_cons_zero, List.set_cons_succ]
  refine take_val 13 (.int .i64 r2) rfl (by kernel_rfl) (by kernel_rfl) (by kernel_rfl) (fun _ _ _ h => h) rfl (fun V _ => by simp [go_sem]) KQ102.here ?_
  simp only [List.getElem_toArray, List.getElem_cons_zero, List.getElem_cons_succ, Act.put, List.setIfInBounds_toArray, List.set_cons_zero, List.set_cons_succ]
  refine wpAnyH_done (by kernel_rfl) ?_ _
  clear KQ102
  go_wp2_with (first | (with_reducible refine load_lframe rfl _ rfl (w.heap.size) rfl _ s0 a0 n0 c0 KR0.here ?_) | (with_reducible refine load_arr rfl _ rfl (w.heap.size + 1) rfl _ D1 KR1.here ?_) | (with_reducible refine load_arr rfl _ rfl (w.heap.size + 1 + 1) rfl _ D2 KR2.here ?_))
  refine (eqInt64A2S_kp b118 b20 r0.length c119 c21 (fun i => (r0.getD i (0, 0)).1) (fun i => (r0.getD i (0, 0)).2) _ (by omega) (KW121.here) (KW23.here)).mono ?_
  rintro e w127 ⟨rfl, hb126⟩
  replace KB := KB.on hb126
  replace KH0 := KH0.on hb126
  replace KR0 := KR0.on hb126
  replace KR1 := KR1.on hb126
  replace KR2 := KR2.on hb126
  replace KX8 := KX8.on hb126
  replace KW23 := KW23.on hb126
  replace KW27 := KW27.on hb126
  replace KG58m := KG58m.on hb126
  replace KG63m := KG63m.on hb126
  replace KX106 := KX106.on hb126
  replace KW121 := KW121.on hb126
  replace KW125 := KW125.on hb126
  go_wp2_with (first | (with_reducible refine load_lframe rfl _ rfl (w.heap.size) rfl _ s0 a0 n0 c0 KR0.here ?_) | (with_reducible refine load_arr rfl _ rfl (w.heap.size + 1) rfl _ D1 KR1.here ?_) | (with_reducible refine load_arr rfl _ rfl (w.heap.size + 1 + 1) rfl _ D2 KR2.here ?_))
  refine (eqInt64A2S_kp b122 b24 r1.length c123 c25 (fun i => (r1.getD i (0, 0)).1) (fun i => (r1.getD i (0, 0)).2) _ (by omega) (KW125.here) (KW27.here)).mono ?_
  rintro e w129 ⟨rfl, hb128⟩
  replace KB := KB.on hb128
  replace KH0 := KH0.on hb128
  replace KR0 := KR0.on hb128
  replace KR1 := KR1.on hb128
  replace KR2 := KR2.on hb128
  replace KX8 := KX8.on hb128
  replace KW23 := KW23.on hb128
  replace KW27 := KW27.on hb128
  replace KG58m := KG58m.on hb128
  replace KG63m := KG63m.on hb128
  replace KX106 := KX106.on hb128
  replace KW121 := KW121.on hb128
  replace KW125 := KW125.on hb128
  go_wp2_with (first | (with_reducible refine load_lframe rfl _ rfl (w.heap.size) rfl _ s0 a0 n0 c0 KR0.here ?_) | (with_reducible refine load_arr rfl _ rfl (w.heap.size + 1) rfl _ D1 KR1.here ?_) | (with_reducible refine load_arr rfl _ rfl (w.heap.size + 1 + 1) rfl _ D2 KR2.here ?_))
  refine (heldInt64A2S_own w46.heap.size _ r0.length 1 _ (by omega) (by omega) (KG58m.here)).mono ?_
  rintro e w131 ⟨rfl, rfl⟩
  rw [HQ91.out]
  go_wp2_with (first | (with_reducible refine load_lframe rfl _ rfl (w.heap.size) rfl _ s0 a0 n0 c0 KR0.here ?_) | (with_reducible refine load_arr rfl _ rfl (w.heap.size + 1) rfl _ D1 KR1.here ?_) | (with_reducible refine load_arr rfl _ rfl (w.heap.size + 1 + 1) rfl _ D2 KR2.here ?_))
  refine (heldInt64A2S_own w46.heap.size _ r1.length q90 _ (by omega) (by omega) (KG63m.here)).mono ?_
  rintro e w133 ⟨rfl, rfl⟩
  rw [HQ97.out]
  go_wp2_with fail
  go_ret
  exact ⟨rfl, KB.here⟩
end Go.Proofs.Ytmmneedmhmppoaa
