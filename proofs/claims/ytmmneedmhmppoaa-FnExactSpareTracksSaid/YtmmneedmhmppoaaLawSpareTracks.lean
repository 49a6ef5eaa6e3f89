/- The law FnExactSpareTracks: the walk, printed by lawgen.py. No conditions. -/
import Derived.Test.YtmmneedmhmppoaaKp
import Derived.Test.YtmmneedmhmppoaaSpt
import Derived.Test.YtmmneedmhmppoaaInt
import Derived.Test.YtmmneedmhmppoaaMk1
import Derived.Test.YtmmneedmhmppoaaMk2
import Derived.Test.YtmmneedmhmppoaaMk3
import Derived.Outline
namespace Go.Proofs.Ytmmneedmhmppoaa
open Go.RowKit
set_option linter.unusedVariables false
set_option linter.unusedSimpArgs false

set_option maxRecDepth 100000 in
set_option maxHeartbeats 4000000 in
theorem lawSpareTracks (s0 : Int) (a0 : Option Addr) (n0 c0 : Nat) (P0 R0 : Nat → Int) (D1 : Nat → Nat) (w : World) (hn0 : n0 ≤ 9223372036854775807) (hs0 : -32768 ≤ s0 ∧ s0 ≤ 32767) (hP0 : I8 P0) (hR0 : I8 R0) (hh0 : HamIn w a0 n0 P0 R0) (hD1 : D32 D1) :
    Calls Try.prog 4 #[.agg #[.int .i16 s0, .slice a0 n0 c0], .agg (dc D1)] w fun e w' => e = .returned (.bool true) ∧ Below w.heap.size w w' := by
  have HP0 := Lib.hid hP0; clear hP0
  have HR0 := Lib.hid hR0; clear hR0
  have HD1 := Lib.hid hD1; clear hD1
  have KB := Kp.base w
  have KH0 := kp_hamIn hh0; clear hh0
  replace KB := KB.alloc (.cells #[.int .i16 s0, .slice a0 n0 c0] 34)
  replace KH0 := KH0.alloc (.cells #[.int .i16 s0, .slice a0 n0 c0] 34)
  have KR0 := kp_new1 w #[.int .i16 s0, .slice a0 n0 c0] 34 (g := w.heap.size) (by simp)
  replace KB := KB.alloc (.cells (dc D1) 36)
  replace KH0 := KH0.alloc (.cells (dc D1) 36)
  replace KR0 := KR0.alloc (.cells (dc D1) 36)
  have KR1 := kp_newd (w.alloc (.cells #[.int .i16 s0, .slice a0 n0 c0] 34)) D1 36 (g := w.heap.size + 1) (by simp)
  go_enter Try.func4, Try.ntmps4
  go_wp2_with (first | (with_reducible refine load_lframe rfl _ rfl (w.heap.size) rfl _ s0 a0 n0 c0 KR0.here ?_) | (with_reducible refine load_arr rfl _ rfl (w.heap.size + 1) rfl _ D1 KR1.here ?_))
  generalize ((w.alloc (.cells #[.int .i16 s0, .slice a0 n0 c0] 34)).alloc (.cells (dc D1) 36)) = w1 at KB KH0 KR0 KR1 ⊢
  refine (szFrame_kp s0 a0 n0 c0 (1048576) _ (by omega) (by omega)).mono ?_
  rintro e w3 ⟨rfl, hb2⟩
  replace KB := KB.on hb2
  replace KH0 := KH0.on hb2
  replace KR0 := KR0.on hb2
  replace KR1 := KR1.on hb2
  by_cases hlw3 : (1048576 : Int) < n0
  · rw [szOf_lt hlw3]
    go_wp2_with (first | (with_reducible refine load_lframe rfl _ rfl (w.heap.size) rfl _ s0 a0 n0 c0 KR0.here ?_) | (with_reducible refine load_arr rfl _ rfl (w.heap.size + 1) rfl _ D1 KR1.here ?_))
    go_ret
    exact ⟨rfl, KB.here⟩
  rw [szOf_ge (by omega)]
  go_wp2_with (first | (with_reducible refine load_lframe rfl _ rfl (w.heap.size) rfl _ s0 a0 n0 c0 KR0.here ?_) | (with_reducible refine load_arr rfl _ rfl (w.heap.size + 1) rfl _ D1 KR1.here ?_))
  refine wp_region_S (fun V => Below w3.heap.size w3 V) (by kernel_rfl) (Below.refl _ _).drew ?_
  refine take_val 0 (.agg #[.int .i16 s0, .slice a0 n0 c0]) rfl (by kernel_rfl) (by kernel_rfl) (by kernel_rfl) (fun _ _ _ h => h) rfl (fun V hV => ex_load_lframe _ rfl (w.heap.size) rfl _ s0 a0 n0 c0 (KR0.at hV)) (Below.refl _ _).drew ?_
  simp only [List.getElem_toArray, List.getElem_cons_zero, List.getElem_cons_succ, Act.put, List.setIfInBounds_toArray, List.set_cons_zero, List.set_cons_succ]
  refine take_val 2 (.agg (dc D1)) rfl (by kernel_rfl) (by kernel_rfl) (by kernel_rfl) (fun _ _ _ h => h) rfl (fun V hV => ex_load_arr _ rfl (w.heap.size + 1) rfl _ D1 (KR1.at hV)) (Below.refl _ _).drew ?_
  simp only [List.getElem_toArray, List.getElem_cons_zero, List.getElem_cons_succ, Act.put, List.setIfInBounds_toArray, List.set_cons_zero, List.set_cons_succ]
  have KQ4 := kp_start w3; have hdKQ4 := below_drew w3
  replace KB := KB.on hdKQ4
  replace KH0 := KH0.on hdKQ4
  replace KR0 := KR0.on hdKQ4
  replace KR1 := KR1.on hdKQ4
  clear hdKQ4
  refine step_call 1 24 #[.agg #[.int .i16 s0, .slice a0 n0 c0]] (by kernel_rfl) rfl rfl (by simp [go_sem]) ?_
  refine (toFrame_kp s0 a0 n0 c0 P0 R0 _ (by omega) hs0 (KH0.here)).mono ?_
  rintro e w6 ⟨b7, rfl, hb5, KX8⟩
  replace KB := KB.on hb5
  replace KH0 := KH0.on hb5
  replace KR0 := KR0.on hb5
  replace KR1 := KR1.on hb5
  replace KQ4 := KQ4.on hb5
  refine ⟨_, rfl, KQ4.here, ?_⟩
  simp only [List.getElem_toArray, List.getElem_cons_zero, List.getElem_cons_succ, Act.put, List.setIfInBounds_toArray, List.set_cons_zero, List.set_cons_succ]
  refine step_call 3 25 #[.agg (dc D1)] (by kernel_rfl) rfl rfl (by simp [go_sem]) ?_
  refine (toDrum_any D1 _).mono ?_
  rintro e w10 ⟨rfl, hb9⟩
  replace KB := KB.on hb9
  replace KH0 := KH0.on hb9
  replace KR0 := KR0.on hb9
  replace KR1 := KR1.on hb9
  replace KQ4 := KQ4.on hb9
  replace KX8 := KX8.on hb9
  refine ⟨_, rfl, KQ4.here, ?_⟩
  simp only [List.getElem_toArray, List.getElem_cons_zero, List.getElem_cons_succ, Act.put, List.setIfInBounds_toArray, List.set_cons_zero, List.set_cons_succ]
  refine step_call 4 23 #[.agg #[.int .i16 s0, .slice b7 n0 n0], .agg (dc D1)] (by kernel_rfl) rfl rfl (by simp [go_sem]) ?_
  obtain ⟨r0, hr0⟩ : ∃ r, r = stV' s0 n0 P0 R0 D1 := ⟨_, rfl⟩
  obtain ⟨r1, hr1⟩ : ∃ r, r = unl (okAll s0 n0 P0 R0 1 (fun _ => D1)) 1 := ⟨_, rfl⟩
  have hlr0 : r0.length ≤ 1000000 := by rw [hr0]; apply stV'_len
  refine (specSpareTracks_any s0 b7 n0 n0 P0 R0 D1 _ hs0 (by omega) HP0.out HR0.out (KX8.here) HD1.out).mono ?_
  rw [← hr0, ← hr1]
  rintro e w12 ⟨v13, rfl, hb11, ho14⟩
  have HR_0 := Lib.hid hr0; clear hr0
  have HR_1 := Lib.hid hr1; clear hr1
  obtain ⟨b15, c16, rfl, hz17⟩ := OwnI.at ho14
  have KW18 := kp_int hz17; clear hz17 ho14
  replace KB := KB.on hb11
  replace KH0 := KH0.on hb11
  replace KR0 := KR0.on hb11
  replace KR1 := KR1.on hb11
  replace KQ4 := KQ4.on hb11
  replace KX8 := KX8.on hb11
  refine ⟨_, rfl, KQ4.here, ?_⟩
  simp only [List.getElem_toArray, List.getElem_cons_zero, List.getElem_cons_succ, Act.put, List.setIfInBounds_toArray, List.set_cons_zero, List.set_cons_succ]
  refine take_val 5 (.tuple #[.slice b15 r0.length c16, .int .i64 r1]) rfl (by kernel_rfl) (by kernel_rfl) (by kernel_rfl) (fun _ _ _ h => h) rfl (fun V _ => by simp [go_sem]) KQ4.here ?_
  simp only [List.getElem_toArray, List.getElem_cons_zero, List.getElem_cons_succ, Act.put, List.setIfInBounds_toArray, List.set_cons_zero, List.set_cons_succ]
  refine take_val 6 (.slice b15 r0.length c16) rfl (by kernel_rfl) (by kernel_rfl) (by kernel_rfl) (fun _ _ _ h => h) rfl (fun V _ => by simp [go_sem]) KQ4.here ?_
  simp only [List.getElem_toArray, List.getElem_cons_zero, List.getElem_cons_succ, Act.put, List.setIfInBounds_toArray, List.set_cons_zero, List.set_cons_succ]
  refine take_val 7 (.int .i64 r1) rfl (by kernel_rfl) (by kernel_rfl) (by kernel_rfl) (fun _ _ _ h => h) rfl (fun V _ => by simp [go_sem]) KQ4.here ?_
  simp only [List.getElem_toArray, List.getElem_cons_zero, List.getElem_cons_succ, Act.put, List.setIfInBounds_toArray, List.set_cons_zero, List.set_cons_succ]
  refine take_val 8 (.slice b15 r0.length c16) rfl (by kernel_rfl) (by kernel_rfl) (by kernel_rfl) (fun _ _ _ h => h) rfl (fun V _ => by simp [go_sem]) KQ4.here ?_
  simp only [List.getElem_toArray, List.getElem_cons_zero, List.getElem_cons_succ, Act.put, List.setIfInBounds_toArray, List.set_cons_zero, List.set_cons_succ]
  refine take_val 9 (.int .i64 r1) rfl (by kernel_rfl) (by kernel_rfl) (by kernel_rfl) (fun _ _ _ h => h) rfl (fun V _ => by simp [go_sem]) KQ4.here ?_
  simp only [List.getElem_toArray, List.getElem_cons_zero, List.getElem_cons_succ, Act.put, List.setIfInBounds_toArray, List.set_cons_zero, List.set_cons_succ]
  refine wpAnyH_done (by kernel_rfl) ?_ _
  clear KQ4
  go_wp2_with (first | (with_reducible refine load_lframe rfl _ rfl (w.heap.size) rfl _ s0 a0 n0 c0 KR0.here ?_) | (with_reducible refine load_arr rfl _ rfl (w.heap.size + 1) rfl _ D1 KR1.here ?_))
  replace KB := KB.fix
  replace KH0 := KH0.fix
  replace KR0 := KR0.fix
  replace KR1 := KR1.fix
  replace KX8 := KX8.fix
  replace KW18 := KW18.fix
  refine (toFrame_own s0 a0 n0 c0 P0 R0 _ (by omega) hs0 (KH0.here)).mono ?_
  rintro e w20 ⟨b21, rfl, hb19, KX22, xs26, KO23⟩
  have hlt24 := (KO23.here).lt; have hsz25 := hb19.size
  replace KB := KB.on hb19
  replace KH0 := KH0.on hb19
  replace KR0 := KR0.on hb19
  replace KR1 := KR1.on hb19
  replace KX8 := KX8.on hb19
  replace KW18 := KW18.on hb19
  replace KB := KB.alloc (.cells #[.int .i16 s0, .slice b21 n0 n0] 43)
  replace KH0 := KH0.alloc (.cells #[.int .i16 s0, .slice b21 n0 n0] 43)
  replace KR0 := KR0.alloc (.cells #[.int .i16 s0, .slice b21 n0 n0] 43)
  replace KR1 := KR1.alloc (.cells #[.int .i16 s0, .slice b21 n0 n0] 43)
  replace KX8 := KX8.alloc (.cells #[.int .i16 s0, .slice b21 n0 n0] 43)
  replace KW18 := KW18.alloc (.cells #[.int .i16 s0, .slice b21 n0 n0] 43)
  replace KX22 := KX22.alloc (.cells #[.int .i16 s0, .slice b21 n0 n0] 43)
  replace KO23 := KO23.alloc (.cells #[.int .i16 s0, .slice b21 n0 n0] 43)
  have KR28 := kp_new1 w20 #[.int .i16 s0, .slice b21 n0 n0] 43 (g := w20.heap.size) rfl
  have hsz29 : w20.heap.size < (w20.alloc (.cells #[.int .i16 s0, .slice b21 n0 n0] 43)).heap.size := by simp
  go_wp2_with (first | (with_reducible refine load_lframe rfl _ rfl (w.heap.size) rfl _ s0 a0 n0 c0 KR0.here ?_) | (with_reducible refine load_arr rfl _ rfl (w.heap.size + 1) rfl _ D1 KR1.here ?_) | (with_reducible refine load_iframe rfl _ rfl (w20.heap.size) rfl _ s0 b21 n0 n0 KR28.here ?_))
  generalize (w20.alloc (.cells #[.int .i16 s0, .slice b21 n0 n0] 43)) = w30 at KB KH0 KR0 KR1 KX8 KW18 KX22 KO23 KR28 hsz29 ⊢
  refine wp_region_S (fun V => Below w30.heap.size w30 V) (by kernel_rfl) (Below.refl _ _).drew ?_
  refine take_val 0 (.agg #[.int .i16 s0, .slice b21 n0 n0]) rfl (by kernel_rfl) (by kernel_rfl) (by kernel_rfl) (fun _ _ _ h => h) rfl (fun V hV => ex_load_iframe _ rfl (w20.heap.size) rfl _ s0 b21 n0 n0 (KR28.at hV)) (Below.refl _ _).drew ?_
  simp only [List.getElem_toArray, List.getElem_cons_zero, List.getElem_cons_succ, Act.put, List.setIfInBounds_toArray, List.set_cons_zero, List.set_cons_succ]
  refine take_val 1 (.agg (dc D1)) rfl (by kernel_rfl) (by kernel_rfl) (by kernel_rfl) (fun _ _ _ h => h) rfl (fun V hV => ex_load_arr _ rfl (w.heap.size + 1) rfl _ D1 (KR1.at hV)) (Below.refl _ _).drew ?_
  simp only [List.getElem_toArray, List.getElem_cons_zero, List.getElem_cons_succ, Act.put, List.setIfInBounds_toArray, List.set_cons_zero, List.set_cons_succ]
  have KQ31 := kp_start w30; have hdKQ31 := below_drew w30
  have hsz32 := hdKQ31.size
  replace KB := KB.on hdKQ31
  replace KH0 := KH0.on hdKQ31
  replace KR0 := KR0.on hdKQ31
  replace KR1 := KR1.on hdKQ31
  replace KX8 := KX8.on hdKQ31
  replace KW18 := KW18.on hdKQ31
  replace KX22 := KX22.on hdKQ31
  replace KO23 := KO23.on hdKQ31
  replace KR28 := KR28.on hdKQ31
  clear hdKQ31
  refine step_call 2 25 #[.agg (dc D1)] (by kernel_rfl) rfl rfl (by simp [go_sem]) ?_
  refine (toDrum_any D1 _).mono ?_
  rintro e w34 ⟨rfl, hb33⟩
  have hsz35 := hb33.size
  replace KB := KB.on hb33
  replace KH0 := KH0.on hb33
  replace KR0 := KR0.on hb33
  replace KR1 := KR1.on hb33
  replace KX8 := KX8.on hb33
  replace KW18 := KW18.on hb33
  replace KX22 := KX22.on hb33
  replace KO23 := KO23.on hb33
  replace KR28 := KR28.on hb33
  replace KQ31 := KQ31.on hb33
  refine ⟨_, rfl, KQ31.here, ?_⟩
  simp only [List.getElem_toArray, List.getElem_cons_zero, List.getElem_cons_succ, Act.put, List.setIfInBounds_toArray, List.set_cons_zero, List.set_cons_succ]
  refine step_call 3 26 #[.agg #[.int .i16 s0, .slice b21 n0 n0], .agg (dc D1)] (by kernel_rfl) rfl rfl (by simp [go_sem]) ?_
  refine (implSpareTracks_any s0 b21 n0 n0 P0 R0 D1 _ hs0 (by omega) HP0.out HR0.out (KX22.here) HD1.out).mono ?_
  rw [← HR_0.out, ← HR_1.out]
  rintro e w37 ⟨v38, rfl, hb36, ho39⟩
  obtain ⟨b40, c41, rfl, hz42⟩ := OwnI.at ho39
  have hlt44 := ho39.lt; have KG43 := kp_OwnI ho39; clear hz42
  clear ho39
  have hsz45 := hb36.size
  replace KB := KB.on hb36
  replace KH0 := KH0.on hb36
  replace KR0 := KR0.on hb36
  replace KR1 := KR1.on hb36
  replace KX8 := KX8.on hb36
  replace KW18 := KW18.on hb36
  replace KX22 := KX22.on hb36
  replace KO23 := KO23.on hb36
  replace KR28 := KR28.on hb36
  replace KQ31 := KQ31.on hb36
  refine ⟨_, rfl, KQ31.here, ?_⟩
  simp only [List.getElem_toArray, List.getElem_cons_zero, List.getElem_cons_succ, Act.put, List.setIfInBounds_toArray, List.set_cons_zero, List.set_cons_succ]
  refine take_val 4 (.tuple #[.slice b40 r0.length c41, .int .i64 r1]) rfl (by kernel_rfl) (by kernel_rfl) (by kernel_rfl) (fun _ _ _ h => h) rfl (fun V _ => by simp [go_sem]) KQ31.here ?_
  simp only [List.getElem_toArray, List.getElem_cons_zero, List.getElem_cons_succ, Act.put, List.setIfInBounds_toArray, List.set_cons_zero, List.set_cons_succ]
  refine take_val 5 (.slice b40 r0.length c41) rfl (by kernel_rfl) (by kernel_rfl) (by kernel_rfl) (fun _ _ _ h => h) rfl (fun V _ => by simp [go_sem]) KQ31.here ?_
  simp only [List.getElem_toArray, List.getElem_cons_zero, List.getElem_cons_succ, Act.put, List.setIfInBounds_toArray, List.set_cons_zero, List.set_cons_succ]
  refine take_val 6 (.int .i64 r1) rfl (by kernel_rfl) (by kernel_rfl) (by kernel_rfl) (fun _ _ _ h => h) rfl (fun V _ => by simp [go_sem]) KQ31.here ?_
  simp only [List.getElem_toArray, List.getElem_cons_zero, List.getElem_cons_succ, Act.put, List.setIfInBounds_toArray, List.set_cons_zero, List.set_cons_succ]
  refine take_val 7 (.slice b40 r0.length c41) rfl (by kernel_rfl) (by kernel_rfl) (by kernel_rfl) (fun _ _ _ h => h) rfl (fun V _ => by simp [go_sem]) KQ31.here ?_
  simp only [List.getElem_toArray, List.getElem_cons_zero, List.getElem_cons_succ, Act.put, List.setIfInBounds_toArray, List.set_cons_zero, List.set_cons_succ]
  refine take_val 8 (.int .i64 r1) rfl (by kernel_rfl) (by kernel_rfl) (by kernel_rfl) (fun _ _ _ h => h) rfl (fun V _ => by simp [go_sem]) KQ31.here ?_
  simp only [List.getElem_toArray, List.getElem_cons_zero, List.getElem_cons_succ, Act.put, List.setIfInBounds_toArray, List.set_cons_zero, List.set_cons_succ]
  refine wpAnyH_done (by kernel_rfl) ?_ _
  clear KQ31
  go_wp2_with (first | (with_reducible refine load_lframe rfl _ rfl (w.heap.size) rfl _ s0 a0 n0 c0 KR0.here ?_) | (with_reducible refine load_arr rfl _ rfl (w.heap.size + 1) rfl _ D1 KR1.here ?_) | (with_reducible refine load_iframe rfl _ rfl (w20.heap.size) rfl _ s0 b21 n0 n0 KR28.here ?_))
  refine (eqInt64S_kp b40 b15 r0.length c41 c16 (fun i => r0.getD i 0) _ (by omega) (KG43.here).readAt (KW18.here)).mono ?_
  rintro e w47 ⟨rfl, hb46⟩
  replace KB := KB.on hb46
  replace KH0 := KH0.on hb46
  replace KR0 := KR0.on hb46
  replace KR1 := KR1.on hb46
  replace KX8 := KX8.on hb46
  replace KW18 := KW18.on hb46
  replace KX22 := KX22.on hb46
  replace KO23 := KO23.on hb46
  replace KR28 := KR28.on hb46
  replace KG43 := KG43.on hb46
  go_wp2_with (first | (with_reducible refine load_lframe rfl _ rfl (w.heap.size) rfl _ s0 a0 n0 c0 KR0.here ?_) | (with_reducible refine load_arr rfl _ rfl (w.heap.size + 1) rfl _ D1 KR1.here ?_) | (with_reducible refine load_iframe rfl _ rfl (w20.heap.size) rfl _ s0 b21 n0 n0 KR28.here ?_))
  refine wp_region_S (fun V => Below w47.heap.size w47 V) (by kernel_rfl) (Below.refl _ _).drew ?_
  refine take_val 0 (.agg #[.int .i16 s0, .slice b21 n0 n0]) rfl (by kernel_rfl) (by kernel_rfl) (by kernel_rfl) (fun _ _ _ h => h) rfl (fun V hV => ex_load_iframe _ rfl (w20.heap.size) rfl _ s0 b21 n0 n0 (KR28.at hV)) (Below.refl _ _).drew ?_
  simp only [List.getElem_toArray, List.getElem_cons_zero, List.getElem_cons_succ, Act.put, List.setIfInBounds_toArray, List.set_cons_zero, List.set_cons_succ]
  refine take_val 1 (.agg #[.int .i16 s0, .slice a0 n0 c0]) rfl (by kernel_rfl) (by kernel_rfl) (by kernel_rfl) (fun _ _ _ h => h) rfl (fun V hV => ex_load_lframe _ rfl (w.heap.size) rfl _ s0 a0 n0 c0 (KR0.at hV)) (Below.refl _ _).drew ?_
  simp only [List.getElem_toArray, List.getElem_cons_zero, List.getElem_cons_succ, Act.put, List.setIfInBounds_toArray, List.set_cons_zero, List.set_cons_succ]
  have KQ48 := kp_start w47; have hdKQ48 := below_drew w47
  replace KB := KB.on hdKQ48
  replace KH0 := KH0.on hdKQ48
  replace KR0 := KR0.on hdKQ48
  replace KR1 := KR1.on hdKQ48
  replace KX8 := KX8.on hdKQ48
  replace KW18 := KW18.on hdKQ48
  replace KX22 := KX22.on hdKQ48
  replace KO23 := KO23.on hdKQ48
  replace KR28 := KR28.on hdKQ48
  replace KG43 := KG43.on hdKQ48
  clear hdKQ48
  refine step_call 2 24 #[.agg #[.int .i16 s0, .slice a0 n0 c0]] (by kernel_rfl) rfl rfl (by simp [go_sem]) ?_
  refine (toFrame_kp s0 a0 n0 c0 P0 R0 _ (by omega) hs0 (KH0.here)).mono ?_
  rintro e w50 ⟨b51, rfl, hb49, KX52⟩
  replace KB := KB.on hb49
  replace KH0 := KH0.on hb49
  replace KR0 := KR0.on hb49
  replace KR1 := KR1.on hb49
  replace KX8 := KX8.on hb49
  replace KW18 := KW18.on hb49
  replace KX22 := KX22.on hb49
  replace KO23 := KO23.on hb49
  replace KR28 := KR28.on hb49
  replace KG43 := KG43.on hb49
  replace KQ48 := KQ48.on hb49
  refine ⟨_, rfl, KQ48.here, ?_⟩
  simp only [List.getElem_toArray, List.getElem_cons_zero, List.getElem_cons_succ, Act.put, List.setIfInBounds_toArray, List.set_cons_zero, List.set_cons_succ]
  refine step_call 3 28 #[.agg #[.int .i16 s0, .slice b21 n0 n0], .agg #[.int .i16 s0, .slice b51 n0 n0]] (by kernel_rfl) rfl rfl (by simp [go_sem]) ?_
  refine (eqFrame_kp s0 _ _ n0 n0 n0 P0 R0 _ (by omega) (KX22.here) (KX52.here)).mono ?_
  rintro e w54 ⟨rfl, hb53⟩
  replace KB := KB.on hb53
  replace KH0 := KH0.on hb53
  replace KR0 := KR0.on hb53
  replace KR1 := KR1.on hb53
  replace KX8 := KX8.on hb53
  replace KW18 := KW18.on hb53
  replace KX22 := KX22.on hb53
  replace KO23 := KO23.on hb53
  replace KR28 := KR28.on hb53
  replace KG43 := KG43.on hb53
  replace KQ48 := KQ48.on hb53
  replace KX52 := KX52.on hb53
  refine ⟨_, rfl, KQ48.here, ?_⟩
  simp only [List.getElem_toArray, List.getElem_cons_zero, List.getElem_cons_succ, Act.put, List.setIfInBounds_toArray, List.set_cons_zero, List.set_cons_succ]
  refine take_val 4 (.bool false) rfl (by kernel_rfl) (by kernel_rfl) (by kernel_rfl) (fun _ _ _ h => h) rfl (fun V _ => by simp [go_sem]) KQ48.here ?_
  simp only [List.getElem_toArray, List.getElem_cons_zero, List.getElem_cons_succ, Act.put, List.setIfInBounds_toArray, List.set_cons_zero, List.set_cons_succ]
  refine wpAnyH_done (by kernel_rfl) ?_ _
  clear KQ48
  go_wp2_with (first | (with_reducible refine load_lframe rfl _ rfl (w.heap.size) rfl _ s0 a0 n0 c0 KR0.here ?_) | (with_reducible refine load_arr rfl _ rfl (w.heap.size + 1) rfl _ D1 KR1.here ?_) | (with_reducible refine load_iframe rfl _ rfl (w20.heap.size) rfl _ s0 b21 n0 n0 KR28.here ?_))
  refine (markFrame_own w12.heap.size s0 b21 n0 n0 _ 1 _ (by omega) (by omega) (KO23.here)).mono ?_
  rintro e w56 ⟨rfl, hg57, _⟩
  obtain ⟨q59, hq59⟩ : ∃ q : Nat, 1 + n0 * 2 = q := ⟨_, rfl⟩
  rw [hq59]; have hq59b : q59 ≤ 110000000 := by omega
  clear hq59
  replace KB := KB.grown hg57 (fun k hk => by have := hlt24 k hk; omega)
  replace KH0 := KH0.grown hg57 (fun k hk => by have := hlt24 k hk; omega)
  replace KR0 := KR0.grown hg57 (fun k hk => by have := hlt24 k hk; omega)
  replace KR1 := KR1.grown hg57 (fun k hk => by have := hlt24 k hk; omega)
  replace KX8 := KX8.grown hg57 (fun k hk => by have := hlt24 k hk; omega)
  replace KW18 := KW18.grown hg57 (fun k hk => by have := hlt24 k hk; omega)
  have hr := own_grown (KG43.here) hg57 (fun k hk => by have := hlt24 k hk; omega); replace KG43 := kp_OwnI hr; clear hr
  clear KX22 KO23 KR28 KX52
  clear hg57
  go_wp2_with (first | (with_reducible refine load_lframe rfl _ rfl (w.heap.size) rfl _ s0 a0 n0 c0 KR0.here ?_) | (with_reducible refine load_arr rfl _ rfl (w.heap.size + 1) rfl _ D1 KR1.here ?_))
  refine (eqInt64S_kp b40 b15 r0.length c41 c16 (fun i => r0.getD i 0) _ (by omega) (KG43.here).readAt (KW18.here)).mono ?_
  rintro e w61 ⟨rfl, hb60⟩
  replace KB := KB.on hb60
  replace KH0 := KH0.on hb60
  replace KR0 := KR0.on hb60
  replace KR1 := KR1.on hb60
  replace KX8 := KX8.on hb60
  replace KW18 := KW18.on hb60
  replace KG43 := KG43.on hb60
  go_wp2_with (first | (with_reducible refine load_lframe rfl _ rfl (w.heap.size) rfl _ s0 a0 n0 c0 KR0.here ?_) | (with_reducible refine load_arr rfl _ rfl (w.heap.size + 1) rfl _ D1 KR1.here ?_))
  refine (markInt64S_own w34.heap.size _ r0.length _ 1 _ (by omega) (by omega) (KG43.here)).mono ?_
  rintro e w63 ⟨rfl, hg64, ho65⟩
  obtain ⟨q66, hq66⟩ : ∃ q : Nat, 1 + r0.length * 1 = q := ⟨_, rfl⟩
  rw [hq66]; have HQ67 := Lib.hid hq66; have hq66b : q66 ≤ 5000000 := by omega
  clear hq66
  replace KB := KB.grown hg64 (fun k hk => by have := hlt44 k hk; omega)
  replace KH0 := KH0.grown hg64 (fun k hk => by have := hlt44 k hk; omega)
  replace KR0 := KR0.grown hg64 (fun k hk => by have := hlt44 k hk; omega)
  replace KR1 := KR1.grown hg64 (fun k hk => by have := hlt44 k hk; omega)
  replace KX8 := KX8.grown hg64 (fun k hk => by have := hlt44 k hk; omega)
  replace KW18 := KW18.grown hg64 (fun k hk => by have := hlt44 k hk; omega)
  have KG43m := kp_ownR ho65; clear ho65 hg64
  go_wp2_with (first | (with_reducible refine load_lframe rfl _ rfl (w.heap.size) rfl _ s0 a0 n0 c0 KR0.here ?_) | (with_reducible refine load_arr rfl _ rfl (w.heap.size + 1) rfl _ D1 KR1.here ?_))
  refine (heldInt64S_own w34.heap.size _ r0.length 1 _ (by omega) (by omega) (KG43m.here)).mono ?_
  rintro e w69 ⟨rfl, rfl⟩
  rw [HQ67.out]
  go_wp2_with (first | (with_reducible refine load_lframe rfl _ rfl (w.heap.size) rfl _ s0 a0 n0 c0 KR0.here ?_) | (with_reducible refine load_arr rfl _ rfl (w.heap.size + 1) rfl _ D1 KR1.here ?_))
  refine wp_region_S (fun V => Below w63.heap.size w63 V) (by kernel_rfl) (Below.refl _ _).drew ?_
  refine take_val 0 (.agg #[.int .i16 s0, .slice a0 n0 c0]) rfl (by kernel_rfl) (by kernel_rfl) (by kernel_rfl) (fun _ _ _ h => h) rfl (fun V hV => ex_load_lframe _ rfl (w.heap.size) rfl _ s0 a0 n0 c0 (KR0.at hV)) (Below.refl _ _).drew ?_
  simp only [List.getElem_toArray, List.getElem_cons_zero, List.getElem_cons_succ, Act.put, List.setIfInBounds_toArray, List.set_cons_zero, List.set_cons_succ]
  refine take_val 2 (.agg (dc D1)) rfl (by kernel_rfl) (by kernel_rfl) (by kernel_rfl) (fun _ _ _ h => h) rfl (fun V hV => ex_load_arr _ rfl (w.heap.size + 1) rfl _ D1 (KR1.at hV)) (Below.refl _ _).drew ?_
  simp only [List.getElem_toArray, List.getElem_cons_zero, List.getElem_cons_succ, Act.put, List.setIfInBounds_toArray, List.set_cons_zero, List.set_cons_succ]
  have KQ70 := kp_start w63; have hdKQ70 := below_drew w63
  replace KB := KB.on hdKQ70
  replace KH0 := KH0.on hdKQ70
  replace KR0 := KR0.on hdKQ70
  replace KR1 := KR1.on hdKQ70
  replace KX8 := KX8.on hdKQ70
  replace KW18 := KW18.on hdKQ70
  replace KG43m := KG43m.on hdKQ70
  clear hdKQ70
  refine step_call 1 24 #[.agg #[.int .i16 s0, .slice a0 n0 c0]] (by kernel_rfl) rfl rfl (by simp [go_sem]) ?_
  refine (toFrame_kp s0 a0 n0 c0 P0 R0 _ (by omega) hs0 (KH0.here)).mono ?_
  rintro e w72 ⟨b73, rfl, hb71, KX74⟩
  replace KB := KB.on hb71
  replace KH0 := KH0.on hb71
  replace KR0 := KR0.on hb71
  replace KR1 := KR1.on hb71
  replace KX8 := KX8.on hb71
  replace KW18 := KW18.on hb71
  replace KG43m := KG43m.on hb71
  replace KQ70 := KQ70.on hb71
  refine ⟨_, rfl, KQ70.here, ?_⟩
  simp only [List.getElem_toArray, List.getElem_cons_zero, List.getElem_cons_succ, Act.put, List.setIfInBounds_toArray, List.set_cons_zero, List.set_cons_succ]
  refine step_call 3 25 #[.agg (dc D1)] (by kernel_rfl) rfl rfl (by simp [go_sem]) ?_
  refine (toDrum_any D1 _).mono ?_
  rintro e w76 ⟨rfl, hb75⟩
  replace KB := KB.on hb75
  replace KH0 := KH0.on hb75
  replace KR0 := KR0.on hb75
  replace KR1 := KR1.on hb75
  replace KX8 := KX8.on hb75
  replace KW18 := KW18.on hb75
  replace KG43m := KG43m.on hb75
  replace KQ70 := KQ70.on hb75
  replace KX74 := KX74.on hb75
  refine ⟨_, rfl, KQ70.here, ?_⟩
  simp only [List.getElem_toArray, List.getElem_cons_zero, List.getElem_cons_succ, Act.put, List.setIfInBounds_toArray, List.set_cons_zero, List.set_cons_succ]
  refine step_call 4 26 #[.agg #[.int .i16 s0, .slice b73 n0 n0], .agg (dc D1)] (by kernel_rfl) rfl rfl (by simp [go_sem]) ?_
  refine (implSpareTracks_any s0 b73 n0 n0 P0 R0 D1 _ hs0 (by omega) HP0.out HR0.out (KX74.here) HD1.out).mono ?_
  rw [← HR_0.out, ← HR_1.out]
  rintro e w78 ⟨v79, rfl, hb77, ho80⟩
  obtain ⟨b81, c82, rfl, hz83⟩ := OwnI.at ho80
  have KW84 := kp_int hz83; clear hz83 ho80
  replace KB := KB.on hb77
  replace KH0 := KH0.on hb77
  replace KR0 := KR0.on hb77
  replace KR1 := KR1.on hb77
  replace KX8 := KX8.on hb77
  replace KW18 := KW18.on hb77
  replace KG43m := KG43m.on hb77
  replace KQ70 := KQ70.on hb77
  replace KX74 := KX74.on hb77
  refine ⟨_, rfl, KQ70.here, ?_⟩
  simp only [List.getElem_toArray, List.getElem_cons_zero, List.getElem_cons_succ, Act.put, List.setIfInBounds_toArray, List.set_cons_zero, List.set_cons_succ]
  refine take_val 5 (.tuple #[.slice b81 r0.length c82, .int .i64 r1]) rfl (by kernel_rfl) (by kernel_rfl) (by kernel_rfl) (fun _ _ _ h => h) rfl (fun V _ => by simp [go_sem]) KQ70.here ?_
  simp only [List.getElem_toArray, List.getElem_cons_zero, List.getElem_cons_succ, Act.put, List.setIfInBounds_toArray, List.set_cons_zero, List.set_cons_succ]
  refine take_val 6 (.slice b81 r0.length c82) rfl (by kernel_rfl) (by kernel_rfl) (by kernel_rfl) (fun _ _ _ h => h) rfl (fun V _ => by simp [go_sem]) KQ70.here ?_
  simp only [List.getElem_toArray, List.getElem_cons_zero, List.getElem_cons_succ, Act.put, List.setIfInBounds_toArray, List.set_cons_zero, List.set_cons_succ]
  refine take_val 7 (.int .i64 r1) rfl (by kernel_rfl) (by kernel_rfl) (by kernel_rfl) (fun _ _ _ h => h) rfl (fun V _ => by simp [go_sem]) KQ70.here ?_
  simp only [List.getElem_toArray, List.getElem_cons_zero, List.getElem_cons_succ, Act.put, List.setIfInBounds_toArray, List.set_cons_zero, List.set_cons_succ]
  refine take_val 8 (.slice b81 r0.length c82) rfl (by kernel_rfl) (by kernel_rfl) (by kernel_rfl) (fun _ _ _ h => h) rfl (fun V _ => by simp [go_sem]) KQ70.here ?_
  simp only [List.getElem_toArray, List.getElem_cons_zero, List.getElem_cons_succ, Act.put, List.setIfInBounds_toArray, List.set_cons_zero, List.set_cons_succ]
  refine take_val 9 (.int .i64 r1) rfl (by kernel_rfl) (by kernel_rfl) (by kernel_rfl) (fun _ _ _ h => h) rfl (fun V _ => by simp [go_sem]) KQ70.here ?_
  simp only [List.getElem_toArray, List.getElem_cons_zero, List.getElem_cons_succ, Act.put, List.setIfInBounds_toArray, List.set_cons_zero, List.set_cons_succ]
  refine wpAnyH_done (by kernel_rfl) ?_ _
  clear KQ70
  go_wp2_with (first | (with_reducible refine load_lframe rfl _ rfl (w.heap.size) rfl _ s0 a0 n0 c0 KR0.here ?_) | (with_reducible refine load_arr rfl _ rfl (w.heap.size + 1) rfl _ D1 KR1.here ?_))
  refine (eqInt64S_kp b81 b15 r0.length c82 c16 (fun i => r0.getD i 0) _ (by omega) (KW84.here) (KW18.here)).mono ?_
  rintro e w86 ⟨rfl, hb85⟩
  replace KB := KB.on hb85
  replace KH0 := KH0.on hb85
  replace KR0 := KR0.on hb85
  replace KR1 := KR1.on hb85
  replace KX8 := KX8.on hb85
  replace KW18 := KW18.on hb85
  replace KG43m := KG43m.on hb85
  replace KX74 := KX74.on hb85
  replace KW84 := KW84.on hb85
  go_wp2_with (first | (with_reducible refine load_lframe rfl _ rfl (w.heap.size) rfl _ s0 a0 n0 c0 KR0.here ?_) | (with_reducible refine load_arr rfl _ rfl (w.heap.size + 1) rfl _ D1 KR1.here ?_))
  refine (heldInt64S_own w34.heap.size _ r0.length 1 _ (by omega) (by omega) (KG43m.here)).mono ?_
  rintro e w88 ⟨rfl, rfl⟩
  rw [HQ67.out]
  go_wp2_with fail
  go_ret
  exact ⟨rfl, KB.here⟩
end Go.Proofs.Ytmmneedmhmppoaa
