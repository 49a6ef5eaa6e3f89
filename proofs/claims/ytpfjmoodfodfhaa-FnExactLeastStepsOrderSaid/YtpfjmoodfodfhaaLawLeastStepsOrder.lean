/- The law FnExactLeastStepsOrder: the walk, printed by lawgen.py. No conditions. -/
import Derived.Test.YtpfjmoodfodfhaaKp
import Derived.Test.YtpfjmoodfodfhaaLq
import Derived.Test.YtpfjmoodfodfhaaHeld2
import Derived.Test.YtpfjmoodfodfhaaMk1
import Derived.Test.YtpfjmoodfodfhaaMk2
import Derived.Test.YtpfjmoodfodfhaaMk3
import Derived.Test.YtpfjmoodfodfhaaInt
import Derived.Outline
namespace Go.Proofs.Ytpfjmoodfodfhaa
open Go.RowKit
set_option linter.unusedVariables false
set_option linter.unusedSimpArgs false

set_option maxRecDepth 100000 in
set_option maxHeartbeats 4000000 in
theorem lawLeastStepsOrder (s0 : Int) (a0 : Option Addr) (n0 c0 : Nat) (P0 R0 : Nat → Int) (a1 : Option Addr) (n1 c1 : Nat) (F1 T1 O1 : Nat → Int) (w : World) (hn0 : n0 ≤ 9223372036854775807) (hs0 : -32768 ≤ s0 ∧ s0 ≤ 32767) (hP0 : I8 P0) (hR0 : I8 R0) (hh0 : HamIn w a0 n0 P0 R0) (hn1 : n1 ≤ 9223372036854775807) (hF1 : I16 F1) (hT1 : I16 T1) (hO1 : I8 O1) (hh1 : SecIn w a1 n1 F1 T1) :
    Calls Try.prog 5 #[.agg #[.int .i16 s0, .slice a0 n0 c0], .agg (pc a1 n1 c1 O1)] w fun e w' => e = .returned (.bool true) ∧ Below w.heap.size w w' := by
  have HP0 := Lib.hid hP0; clear hP0
  have HR0 := Lib.hid hR0; clear hR0
  have HF1 := Lib.hid hF1; clear hF1
  have HT1 := Lib.hid hT1; clear hT1
  have HO1 := Lib.hid hO1; clear hO1
  have KB := Kp.base w
  have KH0 := kp_hamIn hh0; clear hh0
  have KH1 := kp_secIn hh1; clear hh1
  replace KB := KB.alloc (.cells #[.int .i16 s0, .slice a0 n0 c0] 40)
  replace KH0 := KH0.alloc (.cells #[.int .i16 s0, .slice a0 n0 c0] 40)
  replace KH1 := KH1.alloc (.cells #[.int .i16 s0, .slice a0 n0 c0] 40)
  have KR0 := kp_new1 w #[.int .i16 s0, .slice a0 n0 c0] 40 (g := w.heap.size) (by simp)
  replace KB := KB.alloc (.cells (pc a1 n1 c1 O1) 59)
  replace KH0 := KH0.alloc (.cells (pc a1 n1 c1 O1) 59)
  replace KH1 := KH1.alloc (.cells (pc a1 n1 c1 O1) 59)
  replace KR0 := KR0.alloc (.cells (pc a1 n1 c1 O1) 59)
  have KR1 := kp_new1 (w.alloc (.cells #[.int .i16 s0, .slice a0 n0 c0] 40)) (pc a1 n1 c1 O1) 59 (g := w.heap.size + 1) (by simp)
  go_enter Try.func5, Try.ntmps5
  go_wp2_with (first | (with_reducible refine load_lframe rfl _ rfl (w.heap.size) rfl _ s0 a0 n0 c0 KR0.here ?_) | (with_reducible refine load_lprog rfl _ rfl (w.heap.size + 1) rfl _ a1 n1 c1 O1 KR1.here ?_))
  generalize ((w.alloc (.cells #[.int .i16 s0, .slice a0 n0 c0] 40)).alloc (.cells (pc a1 n1 c1 O1) 59)) = w1 at KB KH0 KH1 KR0 KR1 ⊢
  refine (szFrame_kp s0 a0 n0 c0 (1048576) _ (by omega) (by omega)).mono ?_
  rintro e w3 ⟨rfl, hb2⟩
  replace KB := KB.on hb2
  replace KH0 := KH0.on hb2
  replace KH1 := KH1.on hb2
  replace KR0 := KR0.on hb2
  replace KR1 := KR1.on hb2
  by_cases hlw3 : (1048576 : Int) < n0
  · rw [szOf_lt hlw3]
    go_wp2_with (first | (with_reducible refine load_lframe rfl _ rfl (w.heap.size) rfl _ s0 a0 n0 c0 KR0.here ?_) | (with_reducible refine load_lprog rfl _ rfl (w.heap.size + 1) rfl _ a1 n1 c1 O1 KR1.here ?_))
    go_ret
    exact ⟨rfl, KB.here⟩
  rw [szOf_ge (by omega)]
  go_wp2_with (first | (with_reducible refine load_lframe rfl _ rfl (w.heap.size) rfl _ s0 a0 n0 c0 KR0.here ?_) | (with_reducible refine load_lprog rfl _ rfl (w.heap.size + 1) rfl _ a1 n1 c1 O1 KR1.here ?_))
  refine (szProgramme_kp a1 n1 c1 O1 (1048576 - (n0 : Int)) _ (by omega) (by omega)).mono ?_
  rintro e w5 ⟨rfl, hb4⟩
  replace KB := KB.on hb4
  replace KH0 := KH0.on hb4
  replace KH1 := KH1.on hb4
  replace KR0 := KR0.on hb4
  replace KR1 := KR1.on hb4
  by_cases hlw5 : (1048576 - (n0 : Int) : Int) < n1
  · rw [szOf_lt hlw5]
    go_wp2_with (first | (with_reducible refine load_lframe rfl _ rfl (w.heap.size) rfl _ s0 a0 n0 c0 KR0.here ?_) | (with_reducible refine load_lprog rfl _ rfl (w.heap.size + 1) rfl _ a1 n1 c1 O1 KR1.here ?_))
    go_ret
    exact ⟨rfl, KB.here⟩
  rw [szOf_ge (by omega)]
  go_wp2_with (first | (with_reducible refine load_lframe rfl _ rfl (w.heap.size) rfl _ s0 a0 n0 c0 KR0.here ?_) | (with_reducible refine load_lprog rfl _ rfl (w.heap.size + 1) rfl _ a1 n1 c1 O1 KR1.here ?_))
  refine wp_region_S (fun V => Below w5.heap.size w5 V) (by kernel_rfl) (Below.refl _ _).drew ?_
  refine take_val 0 (.agg #[.int .i16 s0, .slice a0 n0 c0]) rfl (by kernel_rfl) (by kernel_rfl) (by kernel_rfl) (fun _ _ _ h => h) rfl (fun V hV => ex_load_lframe _ rfl (w.heap.size) rfl _ s0 a0 n0 c0 (KR0.at hV)) (Below.refl _ _).drew ?_
  simp only [List.getElem_toArray, List.getElem_cons_zero, List.getElem_cons_succ, Act.put, List.setIfInBounds_toArray, List.set_cons_zero, List.set_cons_succ]
  refine take_val 2 (.agg (pc a1 n1 c1 O1)) rfl (by kernel_rfl) (by kernel_rfl) (by kernel_rfl) (fun _ _ _ h => h) rfl (fun V hV => ex_load_lprog _ rfl (w.heap.size + 1) rfl _ a1 n1 c1 O1 (KR1.at hV)) (Below.refl _ _).drew ?_
  simp only [List.getElem_toArray, List.getElem_cons_zero, List.getElem_cons_succ, Act.put, List.setIfInBounds_toArray, List.set_cons_zero, List.set_cons_succ]
  have KQ6 := kp_start w5; have hdKQ6 := below_drew w5
  replace KB := KB.on hdKQ6
  replace KH0 := KH0.on hdKQ6
  replace KH1 := KH1.on hdKQ6
  replace KR0 := KR0.on hdKQ6
  replace KR1 := KR1.on hdKQ6
  clear hdKQ6
  refine step_call 1 21 #[.agg #[.int .i16 s0, .slice a0 n0 c0]] (by kernel_rfl) rfl rfl (by simp [go_sem]) ?_
  refine (toFrame_kp s0 a0 n0 c0 P0 R0 _ (by omega) hs0 (KH0.here)).mono ?_
  rintro e w8 ⟨b9, rfl, hb7, KX10⟩
  replace KB := KB.on hb7
  replace KH0 := KH0.on hb7
  replace KH1 := KH1.on hb7
  replace KR0 := KR0.on hb7
  replace KR1 := KR1.on hb7
  replace KQ6 := KQ6.on hb7
  refine ⟨_, rfl, KQ6.here, ?_⟩
  simp only [List.getElem_toArray, List.getElem_cons_zero, List.getElem_cons_succ, Act.put, List.setIfInBounds_toArray, List.set_cons_zero, List.set_cons_succ]
  refine step_call 3 31 #[.agg (pc a1 n1 c1 O1)] (by kernel_rfl) rfl rfl (by simp [go_sem]) ?_
  refine (toProgramme_kp a1 n1 c1 F1 T1 O1 _ (by omega) (KH1.here)).mono ?_
  rintro e w12 ⟨b13, rfl, hb11, KX14⟩
  replace KB := KB.on hb11
  replace KH0 := KH0.on hb11
  replace KH1 := KH1.on hb11
  replace KR0 := KR0.on hb11
  replace KR1 := KR1.on hb11
  replace KQ6 := KQ6.on hb11
  replace KX10 := KX10.on hb11
  refine ⟨_, rfl, KQ6.here, ?_⟩
  simp only [List.getElem_toArray, List.getElem_cons_zero, List.getElem_cons_succ, Act.put, List.setIfInBounds_toArray, List.set_cons_zero, List.set_cons_succ]
  refine step_call 4 30 #[.agg #[.int .i16 s0, .slice b9 n0 n0], .agg (pc b13 n1 n1 O1)] (by kernel_rfl) rfl rfl (by simp [go_sem]) ?_
  obtain ⟨r0, hr0⟩ : ∃ r, r = loV s0 n0 P0 R0 n1 F1 T1 O1 := ⟨_, rfl⟩
  obtain ⟨r1, hr1⟩ : ∃ r, r = loX s0 n0 P0 R0 n1 F1 T1 O1 := ⟨_, rfl⟩
  obtain ⟨r2, hr2⟩ : ∃ r, r = loCode s0 n0 P0 R0 n1 F1 T1 O1 := ⟨_, rfl⟩
  have hlr0 : r0.length ≤ 1000000 := by rw [hr0]; apply loV_len
  refine (specLeastStepsOrder_any s0 b9 n0 n0 P0 R0 b13 n1 n1 F1 T1 O1 _ hs0 (by omega) HP0.out HR0.out (KX10.here) (by omega) HF1.out HT1.out HO1.out (KX14.here)).mono ?_
  rw [← hr0, ← hr1, ← hr2]
  rintro e w16 ⟨v17, rfl, hb15, ho18⟩
  have HR_0 := Lib.hid hr0; clear hr0
  have HR_1 := Lib.hid hr1; clear hr1
  have HR_2 := Lib.hid hr2; clear hr2
  obtain ⟨b19, c20, rfl, hz21⟩ := OwnI.at ho18
  have KW22 := kp_int hz21; clear hz21 ho18
  replace KB := KB.on hb15
  replace KH0 := KH0.on hb15
  replace KH1 := KH1.on hb15
  replace KR0 := KR0.on hb15
  replace KR1 := KR1.on hb15
  replace KQ6 := KQ6.on hb15
  replace KX10 := KX10.on hb15
  replace KX14 := KX14.on hb15
  refine ⟨_, rfl, KQ6.here, ?_⟩
  simp only [List.getElem_toArray, List.getElem_cons_zero, List.getElem_cons_succ, Act.put, List.setIfInBounds_toArray, List.set_cons_zero, List.set_cons_succ]
  refine take_val 5 (.tuple #[.slice b19 r0.length c20, .int .i64 r1, .int .i64 r2]) rfl (by kernel_rfl) (by kernel_rfl) (by kernel_rfl) (fun _ _ _ h => h) rfl (fun V _ => by simp [go_sem]) KQ6.here ?_
  simp only [List.getElem_toArray, List.getElem_cons_zero, List.getElem_cons_succ, Act.put, List.setIfInBounds_toArray, List.set_cons_zero, List.set_cons_succ]
  refine take_val 6 (.slice b19 r0.length c20) rfl (by kernel_rfl) (by kernel_rfl) (by kernel_rfl) (fun _ _ _ h => h) rfl (fun V _ => by simp [go_sem]) KQ6.here ?_
  simp only [List.getElem_toArray, List.getElem_cons_zero, List.getElem_cons_succ, Act.put, List.setIfInBounds_toArray, List.set_cons_zero, List.set_cons_succ]
  refine take_val 7 (.int .i64 r1) rfl (by kernel_rfl) (by kernel_rfl) (by kernel_rfl) (fun _ _ _ h => h) rfl (fun V _ => by simp [go_sem]) KQ6.here ?_
  simp only [List.getElem_toArray, List.getElem_cons_zero, List.getElem_cons_succ, Act.put, List.setIfInBounds_toArray, List.set_cons_zero, List.set_cons_succ]
  refine take_val 8 (.int .i64 r2) rfl (by kernel_rfl) (by kernel_rfl) (by kernel_rfl) (fun _ _ _ h => h) rfl (fun V _ => by simp [go_sem]) KQ6.here ?_
  simp only [List.getElem_toArray, List.getElem_cons_zero, List.getElem_cons_succ, Act.put, List.setIfInBounds_toArray, List.set_cons_zero, List.set_cons_succ]
  refine take_val 9 (.slice b19 r0.length c20) rfl (by kernel_rfl) (by kernel_rfl) (by kernel_rfl) (fun _ _ _ h => h) rfl (fun V _ => by simp [go_sem]) KQ6.here ?_
  simp only [List.getElem_toArray, List.getElem_cons_zero, List.getElem_cons_succ, Act.put, List.setIfInBounds_toArray, List.set_cons_zero, List.set_cons_succ]
  refine take_val 10 (.int .i64 r1) rfl (by kernel_rfl) (by kernel_rfl) (by kernel_rfl) (fun _ _ _ h => h) rfl (fun V _ => by simp [go_sem]) KQ6.here ?_
  simp only [List.getElem_toArray, List.getElem_cons_zero, List.getElem_cons_succ, Act.put, List.setIfInBounds_toArray, List.set_cons_zero, List.set_cons_succ]
  refine take_val 11 (.int .i64 r2) rfl (by kernel_rfl) (by kernel_rfl) (by kernel_rfl) (fun _ _ _ h => h) rfl (fun V _ => by simp [go_sem]) KQ6.here ?_
  simp only [List.getElem_toArray, List.getElem_cons_zero, List.getElem_cons_succ, Act.put, List.setIfInBounds_toArray, List.set_cons_zero, List.set_cons_succ]
  refine wpAnyH_done (by kernel_rfl) ?_ _
  clear KQ6
  go_wp2_with (first | (with_reducible refine load_lframe rfl _ rfl (w.heap.size) rfl _ s0 a0 n0 c0 KR0.here ?_) | (with_reducible refine load_lprog rfl _ rfl (w.heap.size + 1) rfl _ a1 n1 c1 O1 KR1.here ?_))
  replace KB := KB.fix
  replace KH0 := KH0.fix
  replace KH1 := KH1.fix
  replace KR0 := KR0.fix
  replace KR1 := KR1.fix
  replace KX10 := KX10.fix
  replace KX14 := KX14.fix
  replace KW22 := KW22.fix
  refine (toFrame_own s0 a0 n0 c0 P0 R0 _ (by omega) hs0 (KH0.here)).mono ?_
  rintro e w24 ⟨b25, rfl, hb23, KX26, xs30, KO27⟩
  have hlt28 := (KO27.here).lt; have hsz29 := hb23.size
  replace KB := KB.on hb23
  replace KH0 := KH0.on hb23
  replace KH1 := KH1.on hb23
  replace KR0 := KR0.on hb23
  replace KR1 := KR1.on hb23
  replace KX10 := KX10.on hb23
  replace KX14 := KX14.on hb23
  replace KW22 := KW22.on hb23
  replace KB := KB.alloc (.cells #[.int .i16 s0, .slice b25 n0 n0] 27)
  replace KH0 := KH0.alloc (.cells #[.int .i16 s0, .slice b25 n0 n0] 27)
  replace KH1 := KH1.alloc (.cells #[.int .i16 s0, .slice b25 n0 n0] 27)
  replace KR0 := KR0.alloc (.cells #[.int .i16 s0, .slice b25 n0 n0] 27)
  replace KR1 := KR1.alloc (.cells #[.int .i16 s0, .slice b25 n0 n0] 27)
  replace KX10 := KX10.alloc (.cells #[.int .i16 s0, .slice b25 n0 n0] 27)
  replace KX14 := KX14.alloc (.cells #[.int .i16 s0, .slice b25 n0 n0] 27)
  replace KW22 := KW22.alloc (.cells #[.int .i16 s0, .slice b25 n0 n0] 27)
  replace KX26 := KX26.alloc (.cells #[.int .i16 s0, .slice b25 n0 n0] 27)
  replace KO27 := KO27.alloc (.cells #[.int .i16 s0, .slice b25 n0 n0] 27)
  have KR32 := kp_new1 w24 #[.int .i16 s0, .slice b25 n0 n0] 27 (g := w24.heap.size) rfl
  have hsz33 : w24.heap.size < (w24.alloc (.cells #[.int .i16 s0, .slice b25 n0 n0] 27)).heap.size := by simp
  go_wp2_with (first | (with_reducible refine load_lframe rfl _ rfl (w.heap.size) rfl _ s0 a0 n0 c0 KR0.here ?_) | (with_reducible refine load_lprog rfl _ rfl (w.heap.size + 1) rfl _ a1 n1 c1 O1 KR1.here ?_) | (with_reducible refine load_iframe rfl _ rfl (w24.heap.size) rfl _ s0 b25 n0 n0 KR32.here ?_))
  generalize (w24.alloc (.cells #[.int .i16 s0, .slice b25 n0 n0] 27)) = w34 at KB KH0 KH1 KR0 KR1 KX10 KX14 KW22 KX26 KO27 KR32 hsz33 ⊢
  refine (toProgramme_own a1 n1 c1 F1 T1 O1 _ (by omega) (KH1.here)).mono ?_
  rintro e w36 ⟨b37, rfl, hb35, KX38, xs42, KO39⟩
  have hlt40 := (KO39.here).lt; have hsz41 := hb35.size
  replace KB := KB.on hb35
  replace KH0 := KH0.on hb35
  replace KH1 := KH1.on hb35
  replace KR0 := KR0.on hb35
  replace KR1 := KR1.on hb35
  replace KX10 := KX10.on hb35
  replace KX14 := KX14.on hb35
  replace KW22 := KW22.on hb35
  replace KX26 := KX26.on hb35
  replace KO27 := KO27.on hb35
  replace KR32 := KR32.on hb35
  go_wp2_with (first | (with_reducible refine copy_prog rfl rfl rfl _ _ rfl b37 n1 n1 O1 rfl rfl ?_; intro w45 hn46 hn46s hn46g; have hn46z := Nat.le_of_eq hn46s.symm; clear hn46s; replace KB := KB.on hn46; replace KH0 := KH0.on hn46; replace KH1 := KH1.on hn46; replace KR0 := KR0.on hn46; replace KR1 := KR1.on hn46; replace KX10 := KX10.on hn46; replace KX14 := KX14.on hn46; replace KW22 := KW22.on hn46; replace KX26 := KX26.on hn46; replace KO27 := KO27.on hn46; replace KR32 := KR32.on hn46; replace KX38 := KX38.on hn46; replace KO39 := KO39.on hn46; have KR44 := kp_row hn46g; clear hn46 hn46g) | (with_reducible refine load_lframe rfl _ rfl (w.heap.size) rfl _ s0 a0 n0 c0 KR0.here ?_) | (with_reducible refine load_lprog rfl _ rfl (w.heap.size + 1) rfl _ a1 n1 c1 O1 KR1.here ?_) | (with_reducible refine load_iframe rfl _ rfl (w24.heap.size) rfl _ s0 b25 n0 n0 KR32.here ?_) | (with_reducible refine load_iprog rfl _ rfl (w36.heap.size) rfl _ b37 n1 n1 O1 KR44.here ?_))
  refine (implLeastStepsOrder_any s0 b25 n0 n0 P0 R0 b37 n1 n1 F1 T1 O1 _ hs0 (by omega) HP0.out HR0.out (KX26.here) (by omega) HF1.out HT1.out HO1.out (KX38.here)).mono ?_
  rw [← HR_0.out, ← HR_1.out, ← HR_2.out]
  rintro e w48 ⟨v49, rfl, hb47, ho50⟩
  obtain ⟨b51, c52, rfl, hz53⟩ := OwnI.at ho50
  have hlt55 := ho50.lt; have KG54 := kp_OwnI ho50; clear hz53
  clear ho50
  have hsz56 := hb47.size
  have hsz57 := hb47.size
  replace KB := KB.on hb47
  replace KH0 := KH0.on hb47
  replace KH1 := KH1.on hb47
  replace KR0 := KR0.on hb47
  replace KR1 := KR1.on hb47
  replace KX10 := KX10.on hb47
  replace KX14 := KX14.on hb47
  replace KW22 := KW22.on hb47
  replace KX26 := KX26.on hb47
  replace KO27 := KO27.on hb47
  replace KR32 := KR32.on hb47
  replace KX38 := KX38.on hb47
  replace KO39 := KO39.on hb47
  replace KR44 := KR44.on hb47
  go_wp2_with (first | (with_reducible refine load_lframe rfl _ rfl (w.heap.size) rfl _ s0 a0 n0 c0 KR0.here ?_) | (with_reducible refine load_lprog rfl _ rfl (w.heap.size + 1) rfl _ a1 n1 c1 O1 KR1.here ?_) | (with_reducible refine load_iframe rfl _ rfl (w24.heap.size) rfl _ s0 b25 n0 n0 KR32.here ?_) | (with_reducible refine load_iprog rfl _ rfl (w36.heap.size) rfl _ b37 n1 n1 O1 KR44.here ?_))
  refine (eqInt64S_kp b51 b19 r0.length c52 c20 (fun i => r0.getD i 0) _ (by omega) (KG54.here).readAt (KW22.here)).mono ?_
  rintro e w59 ⟨rfl, hb58⟩
  replace KB := KB.on hb58
  replace KH0 := KH0.on hb58
  replace KH1 := KH1.on hb58
  replace KR0 := KR0.on hb58
  replace KR1 := KR1.on hb58
  replace KX10 := KX10.on hb58
  replace KX14 := KX14.on hb58
  replace KW22 := KW22.on hb58
  replace KX26 := KX26.on hb58
  replace KO27 := KO27.on hb58
  replace KR32 := KR32.on hb58
  replace KX38 := KX38.on hb58
  replace KO39 := KO39.on hb58
  replace KR44 := KR44.on hb58
  replace KG54 := KG54.on hb58
  go_wp2_with (first | (with_reducible refine load_lframe rfl _ rfl (w.heap.size) rfl _ s0 a0 n0 c0 KR0.here ?_) | (with_reducible refine load_lprog rfl _ rfl (w.heap.size + 1) rfl _ a1 n1 c1 O1 KR1.here ?_) | (with_reducible refine load_iframe rfl _ rfl (w24.heap.size) rfl _ s0 b25 n0 n0 KR32.here ?_) | (with_reducible refine load_iprog rfl _ rfl (w36.heap.size) rfl _ b37 n1 n1 O1 KR44.here ?_))
  refine wp_region_S (fun V => Below w59.heap.size w59 V) (by kernel_rfl) (Below.refl _ _).drew ?_
  refine take_val 0 (.agg #[.int .i16 s0, .slice b25 n0 n0]) rfl (by kernel_rfl) (by kernel_rfl) (by kernel_rfl) (fun _ _ _ h => h) rfl (fun V hV => ex_load_iframe _ rfl (w24.heap.size) rfl _ s0 b25 n0 n0 (KR32.at hV)) (Below.refl _ _).drew ?_
  simp only [List.getElem_toArray, List.getElem_cons_zero, List.getElem_cons_succ, Act.put, List.setIfInBounds_toArray, List.set_cons_zero, List.set_cons_succ]
  refine take_val 1 (.agg #[.int .i16 s0, .slice a0 n0 c0]) rfl (by kernel_rfl) (by kernel_rfl) (by kernel_rfl) (fun _ _ _ h => h) rfl (fun V hV => ex_load_lframe _ rfl (w.heap.size) rfl _ s0 a0 n0 c0 (KR0.at hV)) (Below.refl _ _).drew ?_
  simp only [List.getElem_toArray, List.getElem_cons_zero, List.getElem_cons_succ, Act.put, List.setIfInBounds_toArray, List.set_cons_zero, List.set_cons_succ]
  have KQ60 := kp_start w59; have hdKQ60 := below_drew w59
  replace KB := KB.on hdKQ60
  replace KH0 := KH0.on hdKQ60
  replace KH1 := KH1.on hdKQ60
  replace KR0 := KR0.on hdKQ60
  replace KR1 := KR1.on hdKQ60
  replace KX10 := KX10.on hdKQ60
  replace KX14 := KX14.on hdKQ60
  replace KW22 := KW22.on hdKQ60
  replace KX26 := KX26.on hdKQ60
  replace KO27 := KO27.on hdKQ60
  replace KR32 := KR32.on hdKQ60
  replace KX38 := KX38.on hdKQ60
  replace KO39 := KO39.on hdKQ60
  replace KR44 := KR44.on hdKQ60
  replace KG54 := KG54.on hdKQ60
  clear hdKQ60
  refine step_call 2 21 #[.agg #[.int .i16 s0, .slice a0 n0 c0]] (by kernel_rfl) rfl rfl (by simp [go_sem]) ?_
  refine (toFrame_kp s0 a0 n0 c0 P0 R0 _ (by omega) hs0 (KH0.here)).mono ?_
  rintro e w62 ⟨b63, rfl, hb61, KX64⟩
  replace KB := KB.on hb61
  replace KH0 := KH0.on hb61
  replace KH1 := KH1.on hb61
  replace KR0 := KR0.on hb61
  replace KR1 := KR1.on hb61
  replace KX10 := KX10.on hb61
  replace KX14 := KX14.on hb61
  replace KW22 := KW22.on hb61
  replace KX26 := KX26.on hb61
  replace KO27 := KO27.on hb61
  replace KR32 := KR32.on hb61
  replace KX38 := KX38.on hb61
  replace KO39 := KO39.on hb61
  replace KR44 := KR44.on hb61
  replace KG54 := KG54.on hb61
  replace KQ60 := KQ60.on hb61
  refine ⟨_, rfl, KQ60.here, ?_⟩
  simp only [List.getElem_toArray, List.getElem_cons_zero, List.getElem_cons_succ, Act.put, List.setIfInBounds_toArray, List.set_cons_zero, List.set_cons_succ]
  refine step_call 3 13 #[.agg #[.int .i16 s0, .slice b25 n0 n0], .agg #[.int .i16 s0, .slice b63 n0 n0]] (by kernel_rfl) rfl rfl (by simp [go_sem]) ?_
  refine (eqFrame_kp s0 _ _ n0 n0 n0 P0 R0 _ (by omega) (KX26.here) (KX64.here)).mono ?_
  rintro e w66 ⟨rfl, hb65⟩
  replace KB := KB.on hb65
  replace KH0 := KH0.on hb65
  replace KH1 := KH1.on hb65
  replace KR0 := KR0.on hb65
  replace KR1 := KR1.on hb65
  replace KX10 := KX10.on hb65
  replace KX14 := KX14.on hb65
  replace KW22 := KW22.on hb65
  replace KX26 := KX26.on hb65
  replace KO27 := KO27.on hb65
  replace KR32 := KR32.on hb65
  replace KX38 := KX38.on hb65
  replace KO39 := KO39.on hb65
  replace KR44 := KR44.on hb65
  replace KG54 := KG54.on hb65
  replace KQ60 := KQ60.on hb65
  replace KX64 := KX64.on hb65
  refine ⟨_, rfl, KQ60.here, ?_⟩
  simp only [List.getElem_toArray, List.getElem_cons_zero, List.getElem_cons_succ, Act.put, List.setIfInBounds_toArray, List.set_cons_zero, List.set_cons_succ]
  refine take_val 4 (.bool false) rfl (by kernel_rfl) (by kernel_rfl) (by kernel_rfl) (fun _ _ _ h => h) rfl (fun V _ => by simp [go_sem]) KQ60.here ?_
  simp only [List.getElem_toArray, List.getElem_cons_zero, List.getElem_cons_succ, Act.put, List.setIfInBounds_toArray, List.set_cons_zero, List.set_cons_succ]
  refine wpAnyH_done (by kernel_rfl) ?_ _
  clear KQ60
  go_wp2_with (first | (with_reducible refine load_lframe rfl _ rfl (w.heap.size) rfl _ s0 a0 n0 c0 KR0.here ?_) | (with_reducible refine load_lprog rfl _ rfl (w.heap.size + 1) rfl _ a1 n1 c1 O1 KR1.here ?_) | (with_reducible refine load_iframe rfl _ rfl (w24.heap.size) rfl _ s0 b25 n0 n0 KR32.here ?_) | (with_reducible refine load_iprog rfl _ rfl (w36.heap.size) rfl _ b37 n1 n1 O1 KR44.here ?_))
  refine wp_region_S (fun V => Below w66.heap.size w66 V) (by kernel_rfl) (Below.refl _ _).drew ?_
  refine take_val 0 (.agg (pc b37 n1 n1 O1)) rfl (by kernel_rfl) (by kernel_rfl) (by kernel_rfl) (fun _ _ _ h => h) rfl (fun V hV => ex_load_iprog _ rfl (w36.heap.size) rfl _ b37 n1 n1 O1 (KR44.at hV)) (Below.refl _ _).drew ?_
  simp only [List.getElem_toArray, List.getElem_cons_zero, List.getElem_cons_succ, Act.put, List.setIfInBounds_toArray, List.set_cons_zero, List.set_cons_succ]
  refine take_val 1 (.agg (pc a1 n1 c1 O1)) rfl (by kernel_rfl) (by kernel_rfl) (by kernel_rfl) (fun _ _ _ h => h) rfl (fun V hV => ex_load_lprog _ rfl (w.heap.size + 1) rfl _ a1 n1 c1 O1 (KR1.at hV)) (Below.refl _ _).drew ?_
  simp only [List.getElem_toArray, List.getElem_cons_zero, List.getElem_cons_succ, Act.put, List.setIfInBounds_toArray, List.set_cons_zero, List.set_cons_succ]
  have KQ67 := kp_start w66; have hdKQ67 := below_drew w66
  replace KB := KB.on hdKQ67
  replace KH0 := KH0.on hdKQ67
  replace KH1 := KH1.on hdKQ67
  replace KR0 := KR0.on hdKQ67
  replace KR1 := KR1.on hdKQ67
  replace KX10 := KX10.on hdKQ67
  replace KX14 := KX14.on hdKQ67
  replace KW22 := KW22.on hdKQ67
  replace KX26 := KX26.on hdKQ67
  replace KO27 := KO27.on hdKQ67
  replace KR32 := KR32.on hdKQ67
  replace KX38 := KX38.on hdKQ67
  replace KO39 := KO39.on hdKQ67
  replace KR44 := KR44.on hdKQ67
  replace KG54 := KG54.on hdKQ67
  replace KX64 := KX64.on hdKQ67
  clear hdKQ67
  refine step_call 2 31 #[.agg (pc a1 n1 c1 O1)] (by kernel_rfl) rfl rfl (by simp [go_sem]) ?_
  refine (toProgramme_kp a1 n1 c1 F1 T1 O1 _ (by omega) (KH1.here)).mono ?_
  rintro e w69 ⟨b70, rfl, hb68, KX71⟩
  replace KB := KB.on hb68
  replace KH0 := KH0.on hb68
  replace KH1 := KH1.on hb68
  replace KR0 := KR0.on hb68
  replace KR1 := KR1.on hb68
  replace KX10 := KX10.on hb68
  replace KX14 := KX14.on hb68
  replace KW22 := KW22.on hb68
  replace KX26 := KX26.on hb68
  replace KO27 := KO27.on hb68
  replace KR32 := KR32.on hb68
  replace KX38 := KX38.on hb68
  replace KO39 := KO39.on hb68
  replace KR44 := KR44.on hb68
  replace KG54 := KG54.on hb68
  replace KX64 := KX64.on hb68
  replace KQ67 := KQ67.on hb68
  refine ⟨_, rfl, KQ67.here, ?_⟩
  simp only [List.getElem_toArray, List.getElem_cons_zero, List.getElem_cons_succ, Act.put, List.setIfInBounds_toArray, List.set_cons_zero, List.set_cons_succ]
  refine step_call 3 33 #[.agg (pc b37 n1 n1 O1), .agg (pc b70 n1 n1 O1)] (by kernel_rfl) rfl rfl (by simp [go_sem]) ?_
  refine (eqProgramme_kp _ _ n1 n1 n1 F1 T1 O1 _ (by omega) (KX38.here) (KX71.here)).mono ?_
  rintro e w73 ⟨rfl, hb72⟩
  replace KB := KB.on hb72
  replace KH0 := KH0.on hb72
  replace KH1 := KH1.on hb72
  replace KR0 := KR0.on hb72
  replace KR1 := KR1.on hb72
  replace KX10 := KX10.on hb72
  replace KX14 := KX14.on hb72
  replace KW22 := KW22.on hb72
  replace KX26 := KX26.on hb72
  replace KO27 := KO27.on hb72
  replace KR32 := KR32.on hb72
  replace KX38 := KX38.on hb72
  replace KO39 := KO39.on hb72
  replace KR44 := KR44.on hb72
  replace KG54 := KG54.on hb72
  replace KX64 := KX64.on hb72
  replace KQ67 := KQ67.on hb72
  replace KX71 := KX71.on hb72
  refine ⟨_, rfl, KQ67.here, ?_⟩
  simp only [List.getElem_toArray, List.getElem_cons_zero, List.getElem_cons_succ, Act.put, List.setIfInBounds_toArray, List.set_cons_zero, List.set_cons_succ]
  refine take_val 4 (.bool false) rfl (by kernel_rfl) (by kernel_rfl) (by kernel_rfl) (fun _ _ _ h => h) rfl (fun V _ => by simp [go_sem]) KQ67.here ?_
  simp only [List.getElem_toArray, List.getElem_cons_zero, List.getElem_cons_succ, Act.put, List.setIfInBounds_toArray, List.set_cons_zero, List.set_cons_succ]
  refine wpAnyH_done (by kernel_rfl) ?_ _
  clear KQ67
  go_wp2_with (first | (with_reducible refine load_lframe rfl _ rfl (w.heap.size) rfl _ s0 a0 n0 c0 KR0.here ?_) | (with_reducible refine load_lprog rfl _ rfl (w.heap.size + 1) rfl _ a1 n1 c1 O1 KR1.here ?_) | (with_reducible refine load_iframe rfl _ rfl (w24.heap.size) rfl _ s0 b25 n0 n0 KR32.here ?_) | (with_reducible refine load_iprog rfl _ rfl (w36.heap.size) rfl _ b37 n1 n1 O1 KR44.here ?_))
  refine (markFrame_own w16.heap.size s0 b25 n0 n0 _ 1 _ (by omega) (by omega) (KO27.here)).mono ?_
  rintro e w75 ⟨rfl, hg76, _⟩
  obtain ⟨q78, hq78⟩ : ∃ q : Nat, 1 + n0 * 2 = q := ⟨_, rfl⟩
  rw [hq78]; have hq78b : q78 ≤ 110000000 := by omega
  clear hq78
  replace KB := KB.grown hg76 (fun k hk => by have := hlt28 k hk; omega)
  replace KH0 := KH0.grown hg76 (fun k hk => by have := hlt28 k hk; omega)
  replace KH1 := KH1.grown hg76 (fun k hk => by have := hlt28 k hk; omega)
  replace KR0 := KR0.grown hg76 (fun k hk => by have := hlt28 k hk; omega)
  replace KR1 := KR1.grown hg76 (fun k hk => by have := hlt28 k hk; omega)
  replace KX10 := KX10.grown hg76 (fun k hk => by have := hlt28 k hk; omega)
  replace KX14 := KX14.grown hg76 (fun k hk => by have := hlt28 k hk; omega)
  replace KW22 := KW22.grown hg76 (fun k hk => by have := hlt28 k hk; omega)
  have hr := own_grown (KO39.here) hg76 (fun k hk => by have := hlt28 k hk; omega); replace KO39 := kp_ownR hr; clear hr
  have hr := row_grown (KR44.here) hg76 (fun k hk => by have := hlt28 k hk; omega); replace KR44 := kp_row hr; clear hr
  have hr := own_grown (KG54.here) hg76 (fun k hk => by have := hlt28 k hk; omega); replace KG54 := kp_OwnI hr; clear hr
  clear KX26 KO27 KR32 KX38 KX64 KX71
  clear hg76
  go_wp2_with (first | (with_reducible refine load_lframe rfl _ rfl (w.heap.size) rfl _ s0 a0 n0 c0 KR0.here ?_) | (with_reducible refine load_lprog rfl _ rfl (w.heap.size + 1) rfl _ a1 n1 c1 O1 KR1.here ?_) | (with_reducible refine load_iprog rfl _ rfl (w36.heap.size) rfl _ b37 n1 n1 O1 KR44.here ?_))
  refine (markProgramme_own w34.heap.size b37 n1 n1 O1 _ q78 _ (by omega) (by omega) (KO39.here)).mono ?_
  rintro e w80 ⟨rfl, hg81, _⟩
  obtain ⟨q83, hq83⟩ : ∃ q : Nat, q78 + n1 * 2 = q := ⟨_, rfl⟩
  rw [hq83]; have hq83b : q83 ≤ 220000000 := by omega
  clear hq83
  replace KB := KB.grown hg81 (fun k hk => by have := hlt40 k hk; omega)
  replace KH0 := KH0.grown hg81 (fun k hk => by have := hlt40 k hk; omega)
  replace KH1 := KH1.grown hg81 (fun k hk => by have := hlt40 k hk; omega)
  replace KR0 := KR0.grown hg81 (fun k hk => by have := hlt40 k hk; omega)
  replace KR1 := KR1.grown hg81 (fun k hk => by have := hlt40 k hk; omega)
  replace KX10 := KX10.grown hg81 (fun k hk => by have := hlt40 k hk; omega)
  replace KX14 := KX14.grown hg81 (fun k hk => by have := hlt40 k hk; omega)
  replace KW22 := KW22.grown hg81 (fun k hk => by have := hlt40 k hk; omega)
  have hr := own_grown (KG54.here) hg81 (fun k hk => by have := hlt40 k hk; omega); replace KG54 := kp_OwnI hr; clear hr
  clear KO39 KR44
  clear hg81
  go_wp2_with (first | (with_reducible refine load_lframe rfl _ rfl (w.heap.size) rfl _ s0 a0 n0 c0 KR0.here ?_) | (with_reducible refine load_lprog rfl _ rfl (w.heap.size + 1) rfl _ a1 n1 c1 O1 KR1.here ?_))
  refine (eqInt64S_kp b51 b19 r0.length c52 c20 (fun i => r0.getD i 0) _ (by omega) (KG54.here).readAt (KW22.here)).mono ?_
  rintro e w85 ⟨rfl, hb84⟩
  replace KB := KB.on hb84
  replace KH0 := KH0.on hb84
  replace KH1 := KH1.on hb84
  replace KR0 := KR0.on hb84
  replace KR1 := KR1.on hb84
  replace KX10 := KX10.on hb84
  replace KX14 := KX14.on hb84
  replace KW22 := KW22.on hb84
  replace KG54 := KG54.on hb84
  go_wp2_with (first | (with_reducible refine load_lframe rfl _ rfl (w.heap.size) rfl _ s0 a0 n0 c0 KR0.here ?_) | (with_reducible refine load_lprog rfl _ rfl (w.heap.size + 1) rfl _ a1 n1 c1 O1 KR1.here ?_))
  refine (markInt64S_own w45.heap.size _ r0.length _ 1 _ (by omega) (by omega) (KG54.here)).mono ?_
  rintro e w87 ⟨rfl, hg88, ho89⟩
  obtain ⟨q90, hq90⟩ : ∃ q : Nat, 1 + r0.length * 1 = q := ⟨_, rfl⟩
  rw [hq90]; have HQ91 := Lib.hid hq90; have hq90b : q90 ≤ 5000000 := by omega
  clear hq90
  replace KB := KB.grown hg88 (fun k hk => by have := hlt55 k hk; omega)
  replace KH0 := KH0.grown hg88 (fun k hk => by have := hlt55 k hk; omega)
  replace KH1 := KH1.grown hg88 (fun k hk => by have := hlt55 k hk; omega)
  replace KR0 := KR0.grown hg88 (fun k hk => by have := hlt55 k hk; omega)
  replace KR1 := KR1.grown hg88 (fun k hk => by have := hlt55 k hk; omega)
  replace KX10 := KX10.grown hg88 (fun k hk => by have := hlt55 k hk; omega)
  replace KX14 := KX14.grown hg88 (fun k hk => by have := hlt55 k hk; omega)
  replace KW22 := KW22.grown hg88 (fun k hk => by have := hlt55 k hk; omega)
  have KG54m := kp_ownR ho89; clear ho89 hg88
  go_wp2_with (first | (with_reducible refine load_lframe rfl _ rfl (w.heap.size) rfl _ s0 a0 n0 c0 KR0.here ?_) | (with_reducible refine load_lprog rfl _ rfl (w.heap.size + 1) rfl _ a1 n1 c1 O1 KR1.here ?_))
  refine (heldInt64S_own w45.heap.size _ r0.length 1 _ (by omega) (by omega) (KG54m.here)).mono ?_
  rintro e w93 ⟨rfl, rfl⟩
  rw [HQ91.out]
  go_wp2_with (first | (with_reducible refine load_lframe rfl _ rfl (w.heap.size) rfl _ s0 a0 n0 c0 KR0.here ?_) | (with_reducible refine load_lprog rfl _ rfl (w.heap.size + 1) rfl _ a1 n1 c1 O1 KR1.here ?_))
  refine wp_region_S (fun V => Below w87.heap.size w87 V) (by kernel_rfl) (Below.refl _ _).drew ?_
  refine take_val 0 (.agg #[.int .i16 s0, .slice a0 n0 c0]) rfl (by kernel_rfl) (by kernel_rfl) (by kernel_rfl) (fun _ _ _ h => h) rfl (fun V hV => ex_load_lframe _ rfl (w.heap.size) rfl _ s0 a0 n0 c0 (KR0.at hV)) (Below.refl _ _).drew ?_
  simp only [List.getElem_toArray, List.getElem_cons_zero, List.getElem_cons_succ, Act.put, List.setIfInBounds_toArray, List.set_cons_zero, List.set_cons_succ]
  refine take_val 2 (.agg (pc a1 n1 c1 O1)) rfl (by kernel_rfl) (by kernel_rfl) (by kernel_rfl) (fun _ _ _ h => h) rfl (fun V hV => ex_load_lprog _ rfl (w.heap.size + 1) rfl _ a1 n1 c1 O1 (KR1.at hV)) (Below.refl _ _).drew ?_
  simp only [List.getElem_toArray, List.getElem_cons_zero, List.getElem_cons_succ, Act.put, List.setIfInBounds_toArray, List.set_cons_zero, List.set_cons_succ]
  have KQ94 := kp_start w87; have hdKQ94 := below_drew w87
  replace KB := KB.on hdKQ94
  replace KH0 := KH0.on hdKQ94
  replace KH1 := KH1.on hdKQ94
  replace KR0 := KR0.on hdKQ94
  replace KR1 := KR1.on hdKQ94
  replace KX10 := KX10.on hdKQ94
  replace KX14 := KX14.on hdKQ94
  replace KW22 := KW22.on hdKQ94
  replace KG54m := KG54m.on hdKQ94
  clear hdKQ94
  refine step_call 1 21 #[.agg #[.int .i16 s0, .slice a0 n0 c0]] (by kernel_rfl) rfl rfl (by simp [go_sem]) ?_
  refine (toFrame_kp s0 a0 n0 c0 P0 R0 _ (by omega) hs0 (KH0.here)).mono ?_
  rintro e w96 ⟨b97, rfl, hb95, KX98⟩
  replace KB := KB.on hb95
  replace KH0 := KH0.on hb95
  replace KH1 := KH1.on hb95
  replace KR0 := KR0.on hb95
  replace KR1 := KR1.on hb95
  replace KX10 := KX10.on hb95
  replace KX14 := KX14.on hb95
  replace KW22 := KW22.on hb95
  replace KG54m := KG54m.on hb95
  replace KQ94 := KQ94.on hb95
  refine ⟨_, rfl, KQ94.here, ?_⟩
  simp only [List.getElem_toArray, List.getElem_cons_zero, List.getElem_cons_succ, Act.put, List.setIfInBounds_toArray, List.set_cons_zero, List.set_cons_succ]
  refine step_call 3 31 #[.agg (pc a1 n1 c1 O1)] (by kernel_rfl) rfl rfl (by simp [go_sem]) ?_
  refine (toProgramme_kp a1 n1 c1 F1 T1 O1 _ (by omega) (KH1.here)).mono ?_
  rintro e w100 ⟨b101, rfl, hb99, KX102⟩
  replace KB := KB.on hb99
  replace KH0 := KH0.on hb99
  replace KH1 := KH1.on hb99
  replace KR0 := KR0.on hb99
  replace KR1 := KR1.on hb99
  replace KX10 := KX10.on hb99
  replace KX14 := KX14.on hb99
  replace KW22 := KW22.on hb99
  replace KG54m := KG54m.on hb99
  replace KQ94 := KQ94.on hb99
  replace KX98 := KX98.on hb99
  refine ⟨_, rfl, KQ94.here, ?_⟩
  simp only [List.getElem_toArray, List.getElem_cons_zero, List.getElem_cons_succ, Act.put, List.setIfInBounds_toArray, List.set_cons_zero, List.set_cons_succ]
  refine step_call 4 32 #[.agg #[.int .i16 s0, .slice b97 n0 n0], .agg (pc b101 n1 n1 O1)] (by kernel_rfl) rfl rfl (by simp [go_sem]) ?_
  refine (implLeastStepsOrder_any s0 b97 n0 n0 P0 R0 b101 n1 n1 F1 T1 O1 _ hs0 (by omega) HP0.out HR0.out (KX98.here) (by omega) HF1.out HT1.out HO1.out (KX102.here)).mono ?_
  rw [← HR_0.out, ← HR_1.out, ← HR_2.out]
  rintro e w104 ⟨v105, rfl, hb103, ho106⟩
  obtain ⟨b107, c108, rfl, hz109⟩ := OwnI.at ho106
  have KW110 := kp_int hz109; clear hz109 ho106
  replace KB := KB.on hb103
  replace KH0 := KH0.on hb103
  replace KH1 := KH1.on hb103
  replace KR0 := KR0.on hb103
  replace KR1 := KR1.on hb103
  replace KX10 := KX10.on hb103
  replace KX14 := KX14.on hb103
  replace KW22 := KW22.on hb103
  replace KG54m := KG54m.on hb103
  replace KQ94 := KQ94.on hb103
  replace KX98 := KX98.on hb103
  replace KX102 := KX102.on hb103
  refine ⟨_, rfl, KQ94.here, ?_⟩
  simp only [List.getElem_toArray, List.getElem_cons_zero, List.getElem_cons_succ, Act.put, List.setIfInBounds_toArray, List.set_cons_zero, List.set_cons_succ]
  refine take_val 5 (.tuple #[.slice b107 r0.length c108, .int .i64 r1, .int .i64 r2]) rfl (by kernel_rfl) (by kernel_rfl) (by kernel_rfl) (fun _ _ _ h => h) rfl (fun V _ => by simp [go_sem]) KQ94.here ?_
  simp only [List.getElem_toArray, List.getElem_cons_zero, List.getElem_cons_succ, Act.put, List.setIfInBounds_toArray, List.set_cons_zero, List.set_cons_succ]
  refine take_val 6 (.slice b107 r0.length c108) rfl (by kernel_rfl) (by kernel_rfl) (by kernel_rfl) (fun _ _ _ h => h) rfl (fun V _ => by simp [go_sem]) KQ94.here ?_
  simp only [List.getElem_toArray, List.getElem_cons_zero, List.getElem_cons_succ, Act.put, List.setIfInBounds_toArray, List.set_cons_zero, List.set_cons_succ]
  refine take_val 7 (.int .i64 r1) rfl (by kernel_rfl) (by kernel_rfl) (by kernel_rfl) (fun _ _ _ h => h) rfl (fun V _ => by simp [go_sem]) KQ94.here ?_
  simp only [List.getElem_toArray, List.getElem_cons_zero, List.getElem_cons_succ, Act.put, List.setIfInBounds_toArray, List.set_cons_zero, List.set_cons_succ]
  refine take_val 8 (.int .i64 r2) rfl (by kernel_rfl) (by kernel_rfl) (by kernel_rfl) (fun _ _ _ h => h) rfl (fun V _ => by simp [go_sem]) KQ94.here ?_
  simp only [List.getElem_toArray, List.getElem_cons_zero, List.getElem_cons_succ, Act.put, List.setIfInBounds_toArray, List.set_cons_zero, List.set_cons_succ]
  refine take_val 9 (.slice b107 r0.length c108) rfl (by kernel_rfl) (by kernel_rfl) (by kernel_rfl) (fun _ _ _ h => h) rfl (fun V _ => by simp [go_sem]) KQ94.here ?_
  simp only [List.getElem_toArray, List.getElem_cons_zero, List.getElem_cons_succ, Act.put, List.setIfInBounds_toArray, List.set_cons_zero, List.set_cons_succ]
  refine take_val 10 (.int .i64 r1) rfl (by kernel_rfl) (by kernel_rfl) (by kernel_rfl) (fun _ _ _ h => h) rfl (fun V _ => by simp [go_sem]) KQ94.here ?_
  simp only [List.getElem_toArray, List.getElem_cons_zero, List.getElem_cons_succ, Act.put, List.setIfInBounds_toArray, List.set_cons_zero, List.set_cons_succ]
  refine take_val 11 (.int .i64 r2) rfl (by kernel_rfl) (by kernel_rfl) (by kernel_rfl) (fun _ _ _ h => h) rfl (fun V _ => by simp [go_sem]) KQ94.here ?_
  simp only [List.getElem_toArray, List.getElem_cons_zero, List.getElem_cons_succ, Act.put, List.setIfInBounds_toArray, List.set_cons_zero, List.set_cons_succ]
  refine wpAnyH_done (by kernel_rfl) ?_ _
  clear KQ94
  go_wp2_with (first | (with_reducible refine load_lframe rfl _ rfl (w.heap.size) rfl _ s0 a0 n0 c0 KR0.here ?_) | (with_reducible refine load_lprog rfl _ rfl (w.heap.size + 1) rfl _ a1 n1 c1 O1 KR1.here ?_))
  refine (eqInt64S_kp b107 b19 r0.length c108 c20 (fun i => r0.getD i 0) _ (by omega) (KW110.here) (KW22.here)).mono ?_
  rintro e w112 ⟨rfl, hb111⟩
  replace KB := KB.on hb111
  replace KH0 := KH0.on hb111
  replace KH1 := KH1.on hb111
  replace KR0 := KR0.on hb111
  replace KR1 := KR1.on hb111
  replace KX10 := KX10.on hb111
  replace KX14 := KX14.on hb111
  replace KW22 := KW22.on hb111
  replace KG54m := KG54m.on hb111
  replace KX98 := KX98.on hb111
  replace KX102 := KX102.on hb111
  replace KW110 := KW110.on hb111
  go_wp2_with (first | (with_reducible refine load_lframe rfl _ rfl (w.heap.size) rfl _ s0 a0 n0 c0 KR0.here ?_) | (with_reducible refine load_lprog rfl _ rfl (w.heap.size + 1) rfl _ a1 n1 c1 O1 KR1.here ?_))
  refine (heldInt64S_own w45.heap.size _ r0.length 1 _ (by omega) (by omega) (KG54m.here)).mono ?_
  rintro e w114 ⟨rfl, rfl⟩
  rw [HQ91.out]
  go_wp2_with fail
  go_ret
  exact ⟨rfl, KB.here⟩
end Go.Proofs.Ytpfjmoodfodfhaa
