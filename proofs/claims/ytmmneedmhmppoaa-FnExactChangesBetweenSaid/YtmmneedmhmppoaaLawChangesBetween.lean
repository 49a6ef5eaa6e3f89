/- The law FnExactChangesBetween: the walk, printed by lawgen.py. No conditions. -/
import Derived.Test.YtmmneedmhmppoaaKp
import Derived.Test.YtmmneedmhmppoaaCb
import Derived.Test.YtmmneedmhmppoaaMk1
import Derived.Test.YtmmneedmhmppoaaMk2
import Derived.Outline
namespace Go.Proofs.Ytmmneedmhmppoaa
open Go.RowKit
set_option linter.unusedVariables false
set_option linter.unusedSimpArgs false

set_option maxRecDepth 100000 in
set_option maxHeartbeats 4000000 in
theorem lawChangesBetween (s0 : Int) (a0 : Option Addr) (n0 c0 : Nat) (P0 R0 : Nat → Int) (D1 : Nat → Nat) (D2 : Nat → Nat) (w : World) (hn0 : n0 ≤ 9223372036854775807) (hs0 : -32768 ≤ s0 ∧ s0 ≤ 32767) (hP0 : I8 P0) (hR0 : I8 R0) (hh0 : HamIn w a0 n0 P0 R0) (hD1 : D32 D1) (hD2 : D32 D2) :
    Calls Try.prog 9 #[.agg #[.int .i16 s0, .slice a0 n0 c0], .agg (dc D1), .agg (dc D2)] w fun e w' => e = .returned (.bool true) ∧ Below w.heap.size w w' := by
  have HP0 := Lib.hid hP0; clear hP0
  have HR0 := Lib.hid hR0; clear hR0
  have HD1 := Lib.hid hD1; clear hD1
  have HD2 := Lib.hid hD2; clear hD2
  have KB := Kp.base w
  have KH0 := kp_hamIn hh0; clear hh0
  replace KB := KB.alloc (.cells #[.int .i16 s0, .slice a0 n0 c0] 34)
  replace KH0 := KH0.alloc (.cells #[.int .i16 s0, .slice a0 n0 c0] 34)
  have KR0 := kp_new1 w #[.int .i16 s0, .slice a0 n0 c0] 34 (g := w.heap.size) (by simp)
  replace KB := KB.alloc (.cells (dc D1) 36)
  replace KH0 := KH0.alloc (.cells (dc D1) 36)
  replace KR0 := KR0.alloc (.cells (dc D1) 36)
  have KR1 := kp_newd (w.alloc (.cells #[.int .i16 s0, .slice a0 n0 c0] 34)) D1 36 (g := w.heap.size + 1) (by simp)
  replace KB := KB.alloc (.cells (dc D2) 36)
  replace KH0 := KH0.alloc (.cells (dc D2) 36)
  replace KR0 := KR0.alloc (.cells (dc D2) 36)
  replace KR1 := KR1.alloc (.cells (dc D2) 36)
  have KR2 := kp_newd ((w.alloc (.cells #[.int .i16 s0, .slice a0 n0 c0] 34)).alloc (.cells (dc D1) 36)) D2 36 (g := w.heap.size + 1 + 1) (by simp)
  go_enter Try.func9, Try.ntmps9
  go_wp2_with (first | (with_reducible refine load_lframe rfl _ rfl (w.heap.size) rfl _ s0 a0 n0 c0 KR0.here ?_) | (with_reducible refine load_arr rfl _ rfl (w.heap.size + 1) rfl _ D1 KR1.here ?_) | (with_reducible refine load_arr rfl _ rfl (w.heap.size + 1 + 1) rfl _ D2 KR2.here ?_))
  generalize (((w.alloc (.cells #[.int .i16 s0, .slice a0 n0 c0] 34)).alloc (.cells (dc D1) 36)).alloc (.cells (dc D2) 36)) = w1 at KB KH0 KR0 KR1 KR2 ⊢
  refine (szFrame_kp s0 a0 n0 c0 (1048576) _ (by omega) (by omega)).mono ?_
  rintro e w3 ⟨rfl, hb2⟩
  replace KB := KB.on hb2
  replace KH0 := KH0.on hb2
  replace KR0 := KR0.on hb2
  replace KR1 := KR1.on hb2
  replace KR2 := KR2.on hb2
  by_cases hlw3 : (1048576 : Int) < n0
  · rw [szOf_lt hlw3]
    go_wp2_with (first | (with_reducible refine load_lframe rfl _ rfl (w.heap.size) rfl _ s0 a0 n0 c0 KR0.here ?_) | (with_reducible refine load_arr rfl _ rfl (w.heap.size + 1) rfl _ D1 KR1.here ?_) | (with_reducible refine load_arr rfl _ rfl (w.heap.size + 1 + 1) rfl _ D2 KR2.here ?_))
    go_ret
    exact ⟨rfl, KB.here⟩
  rw [szOf_ge (by omega)]
  go_wp2_with (first | (with_reducible refine load_lframe rfl _ rfl (w.heap.size) rfl _ s0 a0 n0 c0 KR0.here ?_) | (with_reducible refine load_arr rfl _ rfl (w.heap.size + 1) rfl _ D1 KR1.here ?_) | (with_reducible refine load_arr rfl _ rfl (w.heap.size + 1 + 1) rfl _ D2 KR2.here ?_))
  refine wp_region_S (fun V => Below w3.heap.size w3 V) (by kernel_rfl) (Below.refl _ _).drew ?_
  refine take_val 0 (.agg #[.int .i16 s0, .slice a0 n0 c0]) rfl (by kernel_rfl) (by kernel_rfl) (by kernel_rfl) (fun _ _ _ h => h) rfl (fun V hV => ex_load_lframe _ rfl (w.heap.size) rfl _ s0 a0 n0 c0 (KR0.at hV)) (Below.refl _ _).drew ?_
  simp only [List.getElem_toArray, List.getElem_cons_zero, List.getElem_cons_succ, Act.put, List.setIfInBounds_toArray, List.set_cons_zero, List.set_cons_succ]
  refine take_val 2 (.agg (dc D1)) rfl (by kernel_rfl) (by kernel_rfl) (by kernel_rfl) (fun _ _ _ h => h) rfl (fun V hV => ex_load_arr _ rfl (w.heap.size + 1) rfl _ D1 (KR1.at hV)) (Below.refl _ _).drew ?_
  simp only [List.getElem_toArray, List.getElem_cons_zero, List.getElem_cons_succ, Act.put, List.setIfInBounds_toArray, List.set_cons_zero, List.set_cons_succ]
  refine take_val 4 (.agg (dc D2)) rfl (by kernel_rfl) (by kernel_rfl) (by kernel_rfl) (fun _ _ _ h => h) rfl (fun V hV => ex_load_arr _ rfl (w.heap.size + 1 + 1) rfl _ D2 (KR2.at hV)) (Below.refl _ _).drew ?_
  simp only [List.getElem_toArray, List.getElem_cons_zero, List.getElem_cons_succ, Act.put, List.setIfInBounds_toArray, List.set_cons_zero, List.set_cons_succ]
  have KQ4 := kp_start w3; have hdKQ4 := below_drew w3
  replace KB := KB.on hdKQ4
  replace KH0 := KH0.on hdKQ4
  replace KR0 := KR0.on hdKQ4
  replace KR1 := KR1.on hdKQ4
  replace KR2 := KR2.on hdKQ4
  clear hdKQ4
  refine step_call 1 24 #[.agg #[.int .i16 s0, .slice a0 n0 c0]] (by kernel_rfl) rfl rfl (by simp [go_sem]) ?_
  refine (toFrame_kp s0 a0 n0 c0 P0 R0 _ (by omega) hs0 (KH0.here)).mono ?_
  rintro e w6 ⟨b7, rfl, hb5, KX8⟩
  replace KB := KB.on hb5
  replace KH0 := KH0.on hb5
  replace KR0 := KR0.on hb5
  replace KR1 := KR1.on hb5
  replace KR2 := KR2.on hb5
  replace KQ4 := KQ4.on hb5
  refine ⟨_, rfl, KQ4.here, ?_⟩
  simp only [List.getElem_toArray, List.getElem_cons_zero, List.getElem_cons_succ, Act.put, List.setIfInBounds_toArray, List.set_cons_zero, List.set_cons_succ]
  refine step_call 3 25 #[.agg (dc D1)] (by kernel_rfl) rfl rfl (by simp [go_sem]) ?_
  refine (toDrum_any D1 _).mono ?_
  rintro e w10 ⟨rfl, hb9⟩
  replace KB := KB.on hb9
  replace KH0 := KH0.on hb9
  replace KR0 := KR0.on hb9
  replace KR1 := KR1.on hb9
  replace KR2 := KR2.on hb9
  replace KQ4 := KQ4.on hb9
  replace KX8 := KX8.on hb9
  refine ⟨_, rfl, KQ4.here, ?_⟩
  simp only [List.getElem_toArray, List.getElem_cons_zero, List.getElem_cons_succ, Act.put, List.setIfInBounds_toArray, List.set_cons_zero, List.set_cons_succ]
  refine step_call 5 25 #[.agg (dc D2)] (by kernel_rfl) rfl rfl (by simp [go_sem]) ?_
  refine (toDrum_any D2 _).mono ?_
  rintro e w12 ⟨rfl, hb11⟩
  replace KB := KB.on hb11
  replace KH0 := KH0.on hb11
  replace KR0 := KR0.on hb11
  replace KR1 := KR1.on hb11
  replace KR2 := KR2.on hb11
  replace KQ4 := KQ4.on hb11
  replace KX8 := KX8.on hb11
  refine ⟨_, rfl, KQ4.here, ?_⟩
  simp only [List.getElem_toArray, List.getElem_cons_zero, List.getElem_cons_succ, Act.put, List.setIfInBounds_toArray, List.set_cons_zero, List.set_cons_succ]
  refine step_call 6 50 #[.agg #[.int .i16 s0, .slice b7 n0 n0], .agg (dc D1), .agg (dc D2)] (by kernel_rfl) rfl rfl (by simp [go_sem]) ?_
  obtain ⟨r0, hr0⟩ : ∃ r, r = cbV s0 n0 P0 R0 D1 D2 := ⟨_, rfl⟩
  obtain ⟨r1, hr1⟩ : ∃ r, r = unl (ok2 s0 n0 P0 R0 D1 D2) 1 := ⟨_, rfl⟩
  have hlr0 : r0.length ≤ 1000000 := by rw [hr0]; apply cbV_len
  refine (specChangesBetween_any s0 b7 n0 n0 P0 R0 D1 D2 _ hs0 (by omega) HP0.out HR0.out (KX8.here) HD1.out HD2.out).mono ?_
  rw [← hr0, ← hr1]
  rintro e w14 ⟨v15, rfl, hb13, ho16⟩
  have HR_0 := Lib.hid hr0; clear hr0
  have HR_1 := Lib.hid hr1; clear hr1
  obtain ⟨b17, c18, rfl, hz19⟩ := OwnC.at ho16
  have KW20 := kp_chg hz19; clear hz19 ho16
  replace KB := KB.on hb13
  replace KH0 := KH0.on hb13
  replace KR0 := KR0.on hb13
  replace KR1 := KR1.on hb13
  replace KR2 := KR2.on hb13
  replace KQ4 := KQ4.on hb13
  replace KX8 := KX8.on hb13
  refine ⟨_, rfl, KQ4.here, ?_⟩
  simp only [List.getElem_toArray, List.getElem_cons_zero, List.getElem_cons_succ, Act.put, List.setIfInBounds_toArray, List.set_cons_zero, List.set_cons_succ]
  refine take_val 7 (.tuple #[.slice b17 r0.length c18, .int .i64 r1]) rfl (by kernel_rfl) (by kernel_rfl) (by kernel_rfl) (fun _ _ _ h => h) rfl (fun V _ => by simp [go_sem]) KQ4.here ?_
  simp only [List.getElem_toArray, List.getElem_cons_zero, List.getElem_cons_succ, Act.put, List.setIfInBounds_toArray, List.set_cons_zero, List.set_cons_succ]
  refine take_val 8 (.slice b17 r0.length c18) rfl (by kernel_rfl) (by kernel_rfl) (by kernel_rfl) (fun _ _ _ h => h) rfl (fun V _ => by simp [go_sem]) KQ4.here ?_
  simp only [List.getElem_toArray, List.getElem_cons_zero, List.getElem_cons_succ, Act.put, List.setIfInBounds_toArray, List.set_cons_zero, List.set_cons_succ]
  refine take_val 9 (.int .i64 r1) rfl (by kernel_rfl) (by kernel_rfl) (by kernel_rfl) (fun _ _ _ h => h) rfl (fun V _ => by simp [go_sem]) KQ4.here ?_
  simp only [List.getElem_toArray, List.getElem_cons_zero, List.getElem_cons_succ, Act.put, List.setIfInBounds_toArray, List.set_cons_zero, List.set_cons_succ]
  refine take_val 10 (.slice b17 r0.length c18) rfl (by kernel_rfl) (by kernel_rfl) (by kernel_rfl) (fun _ _ _ h => h) rfl (fun V _ => by simp [go_sem]) KQ4.here ?_
  simp only [List.getElem_toArray, List.getElem_cons_zero, List.getElem_cons_succ, Act.put, List.setIfInBounds_toArray, List.set_cons_zero, List.set_cons_succ]
  refine take_val 11 (.int .i64 r1) rfl (by kernel_rfl) (by kernel_rfl) (by kernel_rfl) (fun _ _ _ h => h) rfl (fun V _ => by simp [go_sem]) KQ4.here ?_
  simp only [List.getElem_toArray, List.getElem_cons_zero, List.getElem_cons_succ, Act.put, List.setIfInBounds_toArray, List.set_cons_zero, List.set_cons_succ]
  refine wpAnyH_done (by kernel_rfl) ?_ _
  clear KQ4
  go_wp2_with (first | (with_reducible refine load_lframe rfl _ rfl (w.heap.size) rfl _ s0 a0 n0 c0 KR0.here ?_) | (with_reducible refine load_arr rfl _ rfl (w.heap.size + 1) rfl _ D1 KR1.here ?_) | (with_reducible refine load_arr rfl _ rfl (w.heap.size + 1 + 1) rfl _ D2 KR2.here ?_))
  replace KB := KB.fix
  replace KH0 := KH0.fix
  replace KR0 := KR0.fix
  replace KR1 := KR1.fix
  replace KR2 := KR2.fix
  replace KX8 := KX8.fix
  replace KW20 := KW20.fix
  refine (toFrame_own s0 a0 n0 c0 P0 R0 _ (by omega) hs0 (KH0.here)).mono ?_
  rintro e w22 ⟨b23, rfl, hb21, KX24, xs28, KO25⟩
  have hlt26 := (KO25.here).lt; have hsz27 := hb21.size
  replace KB := KB.on hb21
  replace KH0 := KH0.on hb21
  replace KR0 := KR0.on hb21
  replace KR1 := KR1.on hb21
  replace KR2 := KR2.on hb21
  replace KX8 := KX8.on hb21
  replace KW20 := KW20.on hb21
  replace KB := KB.alloc (.cells #[.int .i16 s0, .slice b23 n0 n0] 43)
  replace KH0 := KH0.alloc (.cells #[.int .i16 s0, .slice b23 n0 n0] 43)
  replace KR0 := KR0.alloc (.cells #[.int .i16 s0, .slice b23 n0 n0] 43)
  replace KR1 := KR1.alloc (.cells #[.int .i16 s0, .slice b23 n0 n0] 43)
  replace KR2 := KR2.alloc (.cells #[.int .i16 s0, .slice b23 n0 n0] 43)
  replace KX8 := KX8.alloc (.cells #[.int .i16 s0, .slice b23 n0 n0] 43)
  replace KW20 := KW20.alloc (.cells #[.int .i16 s0, .slice b23 n0 n0] 43)
  replace KX24 := KX24.alloc (.cells #[.int .i16 s0, .slice b23 n0 n0] 43)
  replace KO25 := KO25.alloc (.cells #[.int .i16 s0, .slice b23 n0 n0] 43)
  have KR30 := kp_new1 w22 #[.int .i16 s0, .slice b23 n0 n0] 43 (g := w22.heap.size) rfl
  have hsz31 : w22.heap.size < (w22.alloc (.cells #[.int .i16 s0, .slice b23 n0 n0] 43)).heap.size := by simp
  go_wp2_with (first | (with_reducible refine load_lframe rfl _ rfl (w.heap.size) rfl _ s0 a0 n0 c0 KR0.here ?_) | (with_reducible refine load_arr rfl _ rfl (w.heap.size + 1) rfl _ D1 KR1.here ?_) | (with_reducible refine load_arr rfl _ rfl (w.heap.size + 1 + 1) rfl _ D2 KR2.here ?_) | (with_reducible refine load_iframe rfl _ rfl (w22.heap.size) rfl _ s0 b23 n0 n0 KR30.here ?_))
  generalize (w22.alloc (.cells #[.int .i16 s0, .slice b23 n0 n0] 43)) = w32 at KB KH0 KR0 KR1 KR2 KX8 KW20 KX24 KO25 KR30 hsz31 ⊢
  refine wp_region_S (fun V => Below w32.heap.size w32 V) (by kernel_rfl) (Below.refl _ _).drew ?_
  refine take_val 0 (.agg #[.int .i16 s0, .slice b23 n0 n0]) rfl (by kernel_rfl) (by kernel_rfl) (by kernel_rfl) (fun _ _ _ h => h) rfl (fun V hV => ex_load_iframe _ rfl (w22.heap.size) rfl _ s0 b23 n0 n0 (KR30.at hV)) (Below.refl _ _).drew ?_
  simp only [List.getElem_toArray, List.getElem_cons_zero, List.getElem_cons_succ, Act.put, List.setIfInBounds_toArray, List.set_cons_zero, List.set_cons_succ]
  refine take_val 1 (.agg (dc D1)) rfl (by kernel_rfl) (by kernel_rfl) (by kernel_rfl) (fun _ _ _ h => h) rfl (fun V hV => ex_load_arr _ rfl (w.heap.size + 1) rfl _ D1 (KR1.at hV)) (Below.refl _ _).drew ?_
  simp only [List.getElem_toArray, List.getElem_cons_zero, List.getElem_cons_succ, Act.put, List.setIfInBounds_toArray, List.set_cons_zero, List.set_cons_succ]
  refine take_val 3 (.agg (dc D2)) rfl (by kernel_rfl) (by kernel_rfl) (by kernel_rfl) (fun _ _ _ h => h) rfl (fun V hV => ex_load_arr _ rfl (w.heap.size + 1 + 1) rfl _ D2 (KR2.at hV)) (Below.refl _ _).drew ?_
  simp only [List.getElem_toArray, List.getElem_cons_zero, List.getElem_cons_succ, Act.put, List.setIfInBounds_toArray, List.set_cons_zero, List.set_cons_succ]
  have KQ33 := kp_start w32; have hdKQ33 := below_drew w32
  have hsz34 := hdKQ33.size
  replace KB := KB.on hdKQ33
  replace KH0 := KH0.on hdKQ33
  replace KR0 := KR0.on hdKQ33
  replace KR1 := KR1.on hdKQ33
  replace KR2 := KR2.on hdKQ33
  replace KX8 := KX8.on hdKQ33
  replace KW20 := KW20.on hdKQ33
  replace KX24 := KX24.on hdKQ33
  replace KO25 := KO25.on hdKQ33
  replace KR30 := KR30.on hdKQ33
  clear hdKQ33
  refine step_call 2 25 #[.agg (dc D1)] (by kernel_rfl) rfl rfl (by simp [go_sem]) ?_
  refine (toDrum_any D1 _).mono ?_
  rintro e w36 ⟨rfl, hb35⟩
  have hsz37 := hb35.size
  replace KB := KB.on hb35
  replace KH0 := KH0.on hb35
  replace KR0 := KR0.on hb35
  replace KR1 := KR1.on hb35
  replace KR2 := KR2.on hb35
  replace KX8 := KX8.on hb35
  replace KW20 := KW20.on hb35
  replace KX24 := KX24.on hb35
  replace KO25 := KO25.on hb35
  replace KR30 := KR30.on hb35
  replace KQ33 := KQ33.on hb35
  refine ⟨_, rfl, KQ33.here, ?_⟩
  simp only [List.getElem_toArray, List.getElem_cons_zero, List.getElem_cons_succ, Act.put, List.setIfInBounds_toArray, List.set_cons_zero, List.set_cons_succ]
  refine step_call 4 25 #[.agg (dc D2)] (by kernel_rfl) rfl rfl (by simp [go_sem]) ?_
  refine (toDrum_any D2 _).mono ?_
  rintro e w39 ⟨rfl, hb38⟩
  have hsz40 := hb38.size
  replace KB := KB.on hb38
  replace KH0 := KH0.on hb38
  replace KR0 := KR0.on hb38
  replace KR1 := KR1.on hb38
  replace KR2 := KR2.on hb38
  replace KX8 := KX8.on hb38
  replace KW20 := KW20.on hb38
  replace KX24 := KX24.on hb38
  replace KO25 := KO25.on hb38
  replace KR30 := KR30.on hb38
  replace KQ33 := KQ33.on hb38
  refine ⟨_, rfl, KQ33.here, ?_⟩
  simp only [List.getElem_toArray, List.getElem_cons_zero, List.getElem_cons_succ, Act.put, List.setIfInBounds_toArray, List.set_cons_zero, List.set_cons_succ]
  refine step_call 5 51 #[.agg #[.int .i16 s0, .slice b23 n0 n0], .agg (dc D1), .agg (dc D2)] (by kernel_rfl) rfl rfl (by simp [go_sem]) ?_
  refine (implChangesBetween_any s0 b23 n0 n0 P0 R0 D1 D2 _ hs0 (by omega) HP0.out HR0.out (KX24.here) HD1.out HD2.out).mono ?_
  rw [← HR_0.out, ← HR_1.out]
  rintro e w42 ⟨v43, rfl, hb41, ho44⟩
  obtain ⟨b45, c46, rfl, hz47⟩ := OwnC.at ho44
  have hlt49 := ho44.lt; have KG48 := kp_OwnC ho44; clear hz47
  clear ho44
  have hsz50 := hb41.size
  replace KB := KB.on hb41
  replace KH0 := KH0.on hb41
  replace KR0 := KR0.on hb41
  replace KR1 := KR1.on hb41
  replace KR2 := KR2.on hb41
  replace KX8 := KX8.on hb41
  replace KW20 := KW20.on hb41
  replace KX24 := KX24.on hb41
  replace KO25 := KO25.on hb41
  replace KR30 := KR30.on hb41
  replace KQ33 := KQ33.on hb41
  refine ⟨_, rfl, KQ33.here, ?_⟩
  simp only [List.getElem_toArray, List.getElem_cons_zero, List.getElem_cons_succ, Act.put, List.setIfInBounds_toArray, List.set_cons_zero, List.set_cons_succ]
  refine take_val 6 (.tuple #[.slice b45 r0.length c46, .int .i64 r1]) rfl (by kernel_rfl) (by kernel_rfl) (by kernel_rfl) (fun _ _ _ h => h) rfl (fun V _ => by simp [go_sem]) KQ33.here ?_
  simp only [List.getElem_toArray, List.getElem_cons_zero, List.getElem_cons_succ, Act.put, List.setIfInBounds_toArray, List.set_cons_zero, List.set_cons_succ]
  refine take_val 7 (.slice b45 r0.length c46) rfl (by kernel_rfl) (by kernel_rfl) (by kernel_rfl) (fun _ _ _ h => h) rfl (fun V _ => by simp [go_sem]) KQ33.here ?_
  simp only [List.getElem_toArray, List.getElem_cons_zero, List.getElem_cons_succ, Act.put, List.setIfInBounds_toArray, List.set_cons_zero, List.set_cons_succ]
  refine take_val 8 (.int .i64 r1) rfl (by kernel_rfl) (by kernel_rfl) (by kernel_rfl) (fun _ _ _ h => h) rfl (fun V _ => by simp [go_sem]) KQ33.here ?_
  simp only [List.getElem_toArray, List.getElem_cons_zero, List.getElem_cons_succ, Act.put, List.setIfInBounds_toArray, List.set_cons_zero, List.set_cons_succ]
  refine take_val 9 (.slice b45 r0.length c46) rfl (by kernel_rfl) (by kernel_rfl) (by kernel_rfl) (fun _ _ _ h => h) rfl (fun V _ => by simp [go_sem]) KQ33.here ?_
  simp only [List.getElem_toArray, List.getElem_cons_zero, List.getElem_cons_succ, Act.put, List.setIfInBounds_toArray, List.set_cons_zero, List.set_cons_succ]
  refine take_val 10 (.int .i64 r1) rfl (by kernel_rfl) (by kernel_rfl) (by kernel_rfl) (fun _ _ _ h => h) rfl (fun V _ => by simp [go_sem]) KQ33.here ?_
  simp only [List.getElem_toArray, List.getElem_cons_zero, List.getElem_cons_succ, Act.put, List.setIfInBounds_toArray, List.set_cons_zero, List.set_cons_succ]
  refine wpAnyH_done (by kernel_rfl) ?_ _
  clear KQ33
  go_wp2_with (first | (with_reducible refine load_lframe rfl _ rfl (w.heap.size) rfl _ s0 a0 n0 c0 KR0.here ?_) | (with_reducible refine load_arr rfl _ rfl (w.heap.size + 1) rfl _ D1 KR1.here ?_) | (with_reducible refine load_arr rfl _ rfl (w.heap.size + 1 + 1) rfl _ D2 KR2.here ?_) | (with_reducible refine load_iframe rfl _ rfl (w22.heap.size) rfl _ s0 b23 n0 n0 KR30.here ?_))
  refine (eqChangeS_kp b45 b17 r0.length c46 c18 (fun i => (r0.getD i dC).1) (fun i => (r0.getD i dC).2.1) (fun i => (r0.getD i dC).2.2) _ (by omega) (KG48.here).readAt (KW20.here)).mono ?_
  rintro e w52 ⟨rfl, hb51⟩
  replace KB := KB.on hb51
  replace KH0 := KH0.on hb51
  replace KR0 := KR0.on hb51
  replace KR1 := KR1.on hb51
  replace KR2 := KR2.on hb51
  replace KX8 := KX8.on hb51
  replace KW20 := KW20.on hb51
  replace KX24 := KX24.on hb51
  replace KO25 := KO25.on hb51
  replace KR30 := KR30.on hb51
  replace KG48 := KG48.on hb51
  go_wp2_with (first | (with_reducible refine load_lframe rfl _ rfl (w.heap.size) rfl _ s0 a0 n0 c0 KR0.here ?_) | (with_reducible refine load_arr rfl _ rfl (w.heap.size + 1) rfl _ D1 KR1.here ?_) | (with_reducible refine load_arr rfl _ rfl (w.heap.size + 1 + 1) rfl _ D2 KR2.here ?_) | (with_reducible refine load_iframe rfl _ rfl (w22.heap.size) rfl _ s0 b23 n0 n0 KR30.here ?_))
  refine wp_region_S (fun V => Below w52.heap.size w52 V) (by kernel_rfl) (Below.refl _ _).drew ?_
  refine take_val 0 (.agg #[.int .i16 s0, .slice b23 n0 n0]) rfl (by kernel_rfl) (by kernel_rfl) (by kernel_rfl) (fun _ _ _ h => h) rfl (fun V hV => ex_load_iframe _ rfl (w22.heap.size) rfl _ s0 b23 n0 n0 (KR30.at hV)) (Below.refl _ _).drew ?_
  simp only [List.getElem_toArray, List.getElem_cons_zero, List.getElem_cons_succ, Act.put, List.setIfInBounds_toArray, List.set_cons_zero, List.set_cons_succ]
  refine take_val 1 (.agg #[.int .i16 s0, .slice a0 n0 c0]) rfl (by kernel_rfl) (by kernel_rfl) (by kernel_rfl) (fun _ _ _ h => h) rfl (fun V hV => ex_load_lframe _ rfl (w.heap.size) rfl _ s0 a0 n0 c0 (KR0.at hV)) (Below.refl _ _).drew ?_
  simp only [List.getElem_toArray, List.getElem_cons_zero, List.getElem_cons_succ, Act.put, List.setIfInBounds_toArray, List.set_cons_zero, List.set_cons_succ]
  have KQ53 := kp_start w52; have hdKQ53 := below_drew w52
  replace KB := KB.on hdKQ53
  replace KH0 := KH0.on hdKQ53
  replace KR0 := KR0.on hdKQ53
  replace KR1 := KR1.on hdKQ53
  replace KR2 := KR2.on hdKQ53
  replace KX8 := KX8.on hdKQ53
  replace KW20 := KW20.on hdKQ53
  replace KX24 := KX24.on hdKQ53
  replace KO25 := KO25.on hdKQ53
  replace KR30 := KR30.on hdKQ53
  replace KG48 := KG48.on hdKQ53
  clear hdKQ53
  refine step_call 2 24 #[.agg #[.int .i16 s0, .slice a0 n0 c0]] (by kernel_rfl) rfl rfl (by simp [go_sem]) ?_
  refine (toFrame_kp s0 a0 n0 c0 P0 R0 _ (by omega) hs0 (KH0.here)).mono ?_
  rintro e w55 ⟨b56, rfl, hb54, KX57⟩
  replace KB := KB.on hb54
  replace KH0 := KH0.on hb54
  replace KR0 := KR0.on hb54
  replace KR1 := KR1.on hb54
  replace KR2 := KR2.on hb54
  replace KX8 := KX8.on hb54
  replace KW20 := KW20.on hb54
  replace KX24 := KX24.on hb54
  replace KO25 := KO25.on hb54
  replace KR30 := KR30.on hb54
  replace KG48 := KG48.on hb54
  replace KQ53 := KQ53.on hb54
  refine ⟨_, rfl, KQ53.here, ?_⟩
  simp only [List.getElem_toArray, List.getElem_cons_zero, List.getElem_cons_succ, Act.put, List.setIfInBounds_toArray, List.set_cons_zero, List.set_cons_succ]
  refine step_call 3 28 #[.agg #[.int .i16 s0, .slice b23 n0 n0], .agg #[.int .i16 s0, .slice b56 n0 n0]] (by kernel_rfl) rfl rfl (by simp [go_sem]) ?_
  refine (eqFrame_kp s0 _ _ n0 n0 n0 P0 R0 _ (by omega) (KX24.here) (KX57.here)).mono ?_
  rintro e w59 ⟨rfl, hb58⟩
  replace KB := KB.on hb58
  replace KH0 := KH0.on hb58
  replace KR0 := KR0.on hb58
  replace KR1 := KR1.on hb58
  replace KR2 := KR2.on hb58
  replace KX8 := KX8.on hb58
  replace KW20 := KW20.on hb58
  replace KX24 := KX24.on hb58
  replace KO25 := KO25.on hb58
  replace KR30 := KR30.on hb58
  replace KG48 := KG48.on hb58
  replace KQ53 := KQ53.on hb58
  replace KX57 := KX57.on hb58
  refine ⟨_, rfl, KQ53.here, ?_⟩
  simp only [List.getElem_toArray, List.getElem_cons_zero, List.getElem_cons_succ, Act.put, List.setIfInBounds_toArray, List.set_cons_zero, List.set_cons_succ]
  refine take_val 4 (.bool false) rfl (by kernel_rfl) (by kernel_rfl) (by kernel_rfl) (fun _ _ _ h => h) rfl (fun V _ => by simp [go_sem]) KQ53.here ?_
  simp only [List.getElem_toArray, List.getElem_cons_zero, List.getElem_cons_succ, Act.put, List.setIfInBounds_toArray, List.set_cons_zero, List.set_cons_succ]
  refine wpAnyH_done (by kernel_rfl) ?_ _
  clear KQ53
  go_wp2_with (first | (with_reducible refine load_lframe rfl _ rfl (w.heap.size) rfl _ s0 a0 n0 c0 KR0.here ?_) | (with_reducible refine load_arr rfl _ rfl (w.heap.size + 1) rfl _ D1 KR1.here ?_) | (with_reducible refine load_arr rfl _ rfl (w.heap.size + 1 + 1) rfl _ D2 KR2.here ?_) | (with_reducible refine load_iframe rfl _ rfl (w22.heap.size) rfl _ s0 b23 n0 n0 KR30.here ?_))
  refine (markFrame_own w14.heap.size s0 b23 n0 n0 _ 1 _ (by omega) (by omega) (KO25.here)).mono ?_
  rintro e w61 ⟨rfl, hg62, _⟩
  obtain ⟨q64, hq64⟩ : ∃ q : Nat, 1 + n0 * 2 = q := ⟨_, rfl⟩
  rw [hq64]; have hq64b : q64 ≤ 110000000 := by omega
  clear hq64
  replace KB := KB.grown hg62 (fun k hk => by have := hlt26 k hk; omega)
  replace KH0 := KH0.grown hg62 (fun k hk => by have := hlt26 k hk; omega)
  replace KR0 := KR0.grown hg62 (fun k hk => by have := hlt26 k hk; omega)
  replace KR1 := KR1.grown hg62 (fun k hk => by have := hlt26 k hk; omega)
  replace KR2 := KR2.grown hg62 (fun k hk => by have := hlt26 k hk; omega)
  replace KX8 := KX8.grown hg62 (fun k hk => by have := hlt26 k hk; omega)
  replace KW20 := KW20.grown hg62 (fun k hk => by have := hlt26 k hk; omega)
  have hr := own_grown (KG48.here) hg62 (fun k hk => by have := hlt26 k hk; omega); replace KG48 := kp_OwnC hr; clear hr
  clear KX24 KO25 KR30 KX57
  clear hg62
  go_wp2_with (first | (with_reducible refine load_lframe rfl _ rfl (w.heap.size) rfl _ s0 a0 n0 c0 KR0.here ?_) | (with_reducible refine load_arr rfl _ rfl (w.heap.size + 1) rfl _ D1 KR1.here ?_) | (with_reducible refine load_arr rfl _ rfl (w.heap.size + 1 + 1) rfl _ D2 KR2.here ?_))
  refine (eqChangeS_kp b45 b17 r0.length c46 c18 (fun i => (r0.getD i dC).1) (fun i => (r0.getD i dC).2.1) (fun i => (r0.getD i dC).2.2) _ (by omega) (KG48.here).readAt (KW20.here)).mono ?_
  rintro e w66 ⟨rfl, hb65⟩
  replace KB := KB.on hb65
  replace KH0 := KH0.on hb65
  replace KR0 := KR0.on hb65
  replace KR1 := KR1.on hb65
  replace KR2 := KR2.on hb65
  replace KX8 := KX8.on hb65
  replace KW20 := KW20.on hb65
  replace KG48 := KG48.on hb65
  go_wp2_with (first | (with_reducible refine load_lframe rfl _ rfl (w.heap.size) rfl _ s0 a0 n0 c0 KR0.here ?_) | (with_reducible refine load_arr rfl _ rfl (w.heap.size + 1) rfl _ D1 KR1.here ?_) | (with_reducible refine load_arr rfl _ rfl (w.heap.size + 1 + 1) rfl _ D2 KR2.here ?_))
  refine (markChangeS_own w39.heap.size _ r0.length _ 1 _ (by omega) (by omega) (KG48.here)).mono ?_
  rintro e w68 ⟨rfl, hg69, ho70⟩
  obtain ⟨q71, hq71⟩ : ∃ q : Nat, 1 + r0.length * 3 = q := ⟨_, rfl⟩
  rw [hq71]; have HQ72 := Lib.hid hq71; have hq71b : q71 ≤ 5000000 := by omega
  clear hq71
  replace KB := KB.grown hg69 (fun k hk => by have := hlt49 k hk; omega)
  replace KH0 := KH0.grown hg69 (fun k hk => by have := hlt49 k hk; omega)
  replace KR0 := KR0.grown hg69 (fun k hk => by have := hlt49 k hk; omega)
  replace KR1 := KR1.grown hg69 (fun k hk => by have := hlt49 k hk; omega)
  replace KR2 := KR2.grown hg69 (fun k hk => by have := hlt49 k hk; omega)
  replace KX8 := KX8.grown hg69 (fun k hk => by have := hlt49 k hk; omega)
  replace KW20 := KW20.grown hg69 (fun k hk => by have := hlt49 k hk; omega)
  have KG48m := kp_ownR ho70; clear ho70 hg69
  go_wp2_with (first | (with_reducible refine load_lframe rfl _ rfl (w.heap.size) rfl _ s0 a0 n0 c0 KR0.here ?_) | (with_reducible refine load_arr rfl _ rfl (w.heap.size + 1) rfl _ D1 KR1.here ?_) | (with_reducible refine load_arr rfl _ rfl (w.heap.size + 1 + 1) rfl _ D2 KR2.here ?_))
  refine (heldChangeS_own w39.heap.size _ r0.length 1 _ (by omega) (by omega) (KG48m.here)).mono ?_
  rintro e w74 ⟨rfl, rfl⟩
  rw [HQ72.out]
  go_wp2_with (first | (with_reducible refine load_lframe rfl _ rfl (w.heap.size) rfl _ s0 a0 n0 c0 KR0.here ?_) | (with_reducible refine load_arr rfl _ rfl (w.heap.size + 1) rfl _ D1 KR1.here ?_) | (with_reducible refine load_arr rfl _ rfl (w.heap.size + 1 + 1) rfl _ D2 KR2.here ?_))
  refine wp_region_S (fun V => Below w68.heap.size w68 V) (by kernel_rfl) (Below.refl _ _).drew ?_
  refine take_val 0 (.agg #[.int .i16 s0, .slice a0 n0 c0]) rfl (by kernel_rfl) (by kernel_rfl) (by kernel_rfl) (fun _ _ _ h => h) rfl (fun V hV => ex_load_lframe _ rfl (w.heap.size) rfl _ s0 a0 n0 c0 (KR0.at hV)) (Below.refl _ _).drew ?_
  simp only [List.getElem_toArray, List.getElem_cons_zero, List.getElem_cons_succ, Act.put, List.setIfInBounds_toArray, List.set_cons_zero, List.set_cons_succ]
  refine take_val 2 (.agg (dc D1)) rfl (by kernel_rfl) (by kernel_rfl) (by kernel_rfl) (fun _ _ _ h => h) rfl (fun V hV => ex_load_arr _ rfl (w.heap.size + 1) rfl _ D1 (KR1.at hV)) (Below.refl _ _).drew ?_
  simp only [List.getElem_toArray, List.getElem_cons_zero, List.getElem_cons_succ, Act.put, List.setIfInBounds_toArray, List.set_cons_zero, List.set_cons_succ]
  refine take_val 4 (.agg (dc D2)) rfl (by kernel_rfl) (by kernel_rfl) (by kernel_rfl) (fun _ _ _ h => h) rfl (fun V hV => ex_load_arr _ rfl (w.heap.size + 1 + 1) rfl _ D2 (KR2.at hV)) (Below.refl _ _).drew ?_
  simp only [List.getElem_toArray, List.getElem_cons_zero, List.getElem_cons_succ, Act.put, List.setIfInBounds_toArray, List.set_cons_zero, List.set_cons_succ]
  have KQ75 := kp_start w68; have hdKQ75 := below_drew w68
  replace KB := KB.on hdKQ75
  replace KH0 := KH0.on hdKQ75
  replace KR0 := KR0.on hdKQ75
  replace KR1 := KR1.on hdKQ75
  replace KR2 := KR2.on hdKQ75
  replace KX8 := KX8.on hdKQ75
  replace KW20 := KW20.on hdKQ75
  replace KG48m := KG48m.on hdKQ75
  clear hdKQ75
  refine step_call 1 24 #[.agg #[.int .i16 s0, .slice a0 n0 c0]] (by kernel_rfl) rfl rfl (by simp [go_sem]) ?_
  refine (toFrame_kp s0 a0 n0 c0 P0 R0 _ (by omega) hs0 (KH0.here)).mono ?_
  rintro e w77 ⟨b78, rfl, hb76, KX79⟩
  replace KB := KB.on hb76
  replace KH0 := KH0.on hb76
  replace KR0 := KR0.on hb76
  replace KR1 := KR1.on hb76
  replace KR2 := KR2.on hb76
  replace KX8 := KX8.on hb76
  replace KW20 := KW20.on hb76
  replace KG48m := KG48m.on hb76
  replace KQ75 := KQ75.on hb76
  refine ⟨_, rfl, KQ75.here, ?_⟩
  simp only [List.getElem_toArray, List.getElem_cons_zero, List.getElem_cons_succ, Act.put, List.setIfInBounds_toArray, List.set_cons_zero, List.set_cons_succ]
  refine step_call 3 25 #[.agg (dc D1)] (by kernel_rfl) rfl rfl (by simp [go_sem]) ?_
  refine (toDrum_any D1 _).mono ?_
  rintro e w81 ⟨rfl, hb80⟩
  replace KB := KB.on hb80
  replace KH0 := KH0.on hb80
  replace KR0 := KR0.on hb80
  replace KR1 := KR1.on hb80
  replace KR2 := KR2.on hb80
  replace KX8 := KX8.on hb80
  replace KW20 := KW20.on hb80
  replace KG48m := KG48m.on hb80
  replace KQ75 := KQ75.on hb80
  replace KX79 := KX79.on hb80
  refine ⟨_, rfl, KQ75.here, ?_⟩
  simp only [List.getElem_toArray, List.getElem_cons_zero, List.getElem_cons_succ, Act.put, List.setIfInBounds_toArray, List.set_cons_zero, List.set_cons_succ]
  refine step_call 5 25 #[.agg (dc D2)] (by kernel_rfl) rfl rfl (by simp [go_sem]) ?_
  refine (toDrum_any D2 _).mono ?_
  rintro e w83 ⟨rfl, hb82⟩
  replace KB := KB.on hb82
  replace KH0 := KH0.on hb82
  replace KR0 := KR0.on hb82
  replace KR1 := KR1.on hb82
  replace KR2 := KR2.on hb82
  replace KX8 := KX8.on hb82
  replace KW20 := KW20.on hb82
  replace KG48m := KG48m.on hb82
  replace KQ75 := KQ75.on hb82
  replace KX79 := KX79.on hb82
  refine ⟨_, rfl, KQ75.here, ?_⟩
  simp only [List.getElem_toArray, List.getElem_cons_zero, List.getElem_cons_succ, Act.put, List.setIfInBounds_toArray, List.set_cons_zero, List.set_cons_succ]
  refine step_call 6 51 #[.agg #[.int .i16 s0, .slice b78 n0 n0], .agg (dc D1), .agg (dc D2)] (by kernel_rfl) rfl rfl (by simp [go_sem]) ?_
  refine (implChangesBetween_any s0 b78 n0 n0 P0 R0 D1 D2 _ hs0 (by omega) HP0.out HR0.out (KX79.here) HD1.out HD2.out).mono ?_
  rw [← HR_0.out, ← HR_1.out]
  rintro e w85 ⟨v86, rfl, hb84, ho87⟩
  obtain ⟨b88, c89, rfl, hz90⟩ := OwnC.at ho87
  have KW91 := kp_chg hz90; clear hz90 ho87
  replace KB := KB.on hb84
  replace KH0 := KH0.on hb84
  replace KR0 := KR0.on hb84
  replace KR1 := KR1.on hb84
  replace KR2 := KR2.on hb84
  replace KX8 := KX8.on hb84
  replace KW20 := KW20.on hb84
  replace KG48m := KG48m.on hb84
  replace KQ75 := KQ75.on hb84
  replace KX79 := KX79.on hb84
  refine ⟨_, rfl, KQ75.here, ?_⟩
  simp only [List.getElem_toArray, List.getElem_cons_zero, List.getElem_cons_succ, Act.put, List.setIfInBounds_toArray, List.set_cons_zero, List.set_cons_succ]
  refine take_val 7 (.tuple #[.slice b88 r0.length c89, .int .i64 r1]) rfl (by kernel_rfl) (by kernel_rfl) (by kernel_rfl) (fun _ _ _ h => h) rfl (fun V _ => by simp [go_sem]) KQ75.here ?_
  simp only [List.getElem_toArray, List.getElem_cons_zero, List.getElem_cons_succ, Act.put, List.setIfInBounds_toArray, List.set_cons_zero, List.set_cons_succ]
  refine take_val 8 (.slice b88 r0.length c89) rfl (by kernel_rfl) (by kernel_rfl) (by kernel_rfl) (fun _ _ _ h => h) rfl (fun V _ => by simp [go_sem]) KQ75.here ?_
  simp only [List.getElem_toArray, List.getElem_cons_zero, List.getElem_cons_succ, Act.put, List.setIfInBounds_toArray, List.set_cons_zero, List.set_cons_succ]
  refine take_val 9 (.int .i64 r1) rfl (by kernel_rfl) (by kernel_rfl) (by kernel_rfl) (fun _ _ _ h => h) rfl (fun V _ => by simp [go_sem]) KQ75.here ?_
  simp only [List.getElem_toArray, List.getElem_cons_zero, List.getElem_cons_succ, Act.put, List.setIfInBounds_toArray, List.set_cons_zero, List.set_cons_succ]
  refine take_val 10 (.slice b88 r0.length c89) rfl (by kernel_rfl) (by kernel_rfl) (by kernel_rfl) (fun _ _ _ h => h) rfl (fun V _ => by simp [go_sem]) KQ75.here ?_
  simp only [List.getElem_toArray, List.getElem_cons_zero, List.getElem_cons_succ, Act.put, List.setIfInBounds_toArray, List.set_cons_zero, List.set_cons_succ]
  refine take_val 11 (.int .i64 r1) rfl (by kernel_rfl) (by kernel_rfl) (by kernel_rfl) (fun _ _ _ h => h) rfl (fun V _ => by simp [go_sem]) KQ75.here ?_
  simp only [List.getElem_toArray, List.getElem_cons_zero, List.getElem_cons_succ, Act.put, List.setIfInBounds_toArray, List.set_cons_zero, List.set_cons_succ]
  refine wpAnyH_done (by kernel_rfl) ?_ _
  clear KQ75
  go_wp2_with (first | (with_reducible refine load_lframe rfl _ rfl (w.heap.size) rfl _ s0 a0 n0 c0 KR0.here ?_) | (with_reducible refine load_arr rfl _ rfl (w.heap.size + 1) rfl _ D1 KR1.here ?_) | (with_reducible refine load_arr rfl _ rfl (w.heap.size + 1 + 1) rfl _ D2 KR2.here ?_))
  refine (eqChangeS_kp b88 b17 r0.length c89 c18 (fun i => (r0.getD i dC).1) (fun i => (r0.getD i dC).2.1) (fun i => (r0.getD i dC).2.2) _ (by omega) (KW91.here) (KW20.here)).mono ?_
  rintro e w93 ⟨rfl, hb92⟩
  replace KB := KB.on hb92
  replace KH0 := KH0.on hb92
  replace KR0 := KR0.on hb92
  replace KR1 := KR1.on hb92
  replace KR2 := KR2.on hb92
  replace KX8 := KX8.on hb92
  replace KW20 := KW20.on hb92
  replace KG48m := KG48m.on hb92
  replace KX79 := KX79.on hb92
  replace KW91 := KW91.on hb92
  go_wp2_with (first | (with_reducible refine load_lframe rfl _ rfl (w.heap.size) rfl _ s0 a0 n0 c0 KR0.here ?_) | (with_reducible refine load_arr rfl _ rfl (w.heap.size + 1) rfl _ D1 KR1.here ?_) | (with_reducible refine load_arr rfl _ rfl (w.heap.size + 1 + 1) rfl _ D2 KR2.here ?_))
  refine (heldChangeS_own w39.heap.size _ r0.length 1 _ (by omega) (by omega) (KG48m.here)).mono ?_
  rintro e w95 ⟨rfl, rfl⟩
  rw [HQ72.out]
  go_wp2_with fail
  go_ret
  exact ⟨rfl, KB.here⟩
end Go.Proofs.Ytmmneedmhmppoaa
