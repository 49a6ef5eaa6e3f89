/- The law FnExactSameProgramme: the walk, printed by lawgen.py. No conditions. -/
import Derived.Test.YtofmhpbilajjaaaKp
import Derived.Test.YtofmhpbilajjaaaSp
import Derived.Outline
namespace Go.Proofs.Ytofmhpbilajjaaa
open Go.RowKit
set_option linter.unusedVariables false
set_option linter.unusedSimpArgs false

set_option maxRecDepth 100000 in
set_option maxHeartbeats 4000000 in
theorem lawSameProgramme (a0 : Option Addr) (n0 c0 : Nat) (F0 T0 O0 : Nat → Int) (a1 : Option Addr) (n1 c1 : Nat) (F1 T1 O1 : Nat → Int) (w : World) (hn0 : n0 ≤ 9223372036854775807) (hF0 : I16 F0) (hT0 : I16 T0) (hO0 : I8 O0) (hh0 : SecIn w a0 n0 F0 T0) (hn1 : n1 ≤ 9223372036854775807) (hF1 : I16 F1) (hT1 : I16 T1) (hO1 : I8 O1) (hh1 : SecIn w a1 n1 F1 T1) :
    Calls Try.prog 4 #[.agg (pc a0 n0 c0 O0), .agg (pc a1 n1 c1 O1)] w fun e w' => e = .returned (.bool true) ∧ Below w.heap.size w w' := by
  have HF0 := Lib.hid hF0; clear hF0
  have HT0 := Lib.hid hT0; clear hT0
  have HO0 := Lib.hid hO0; clear hO0
  have HF1 := Lib.hid hF1; clear hF1
  have HT1 := Lib.hid hT1; clear hT1
  have HO1 := Lib.hid hO1; clear hO1
  have KB := Kp.base w
  have KH0 := kp_secIn hh0; clear hh0
  have KH1 := kp_secIn hh1; clear hh1
  replace KB := KB.alloc (.cells (pc a0 n0 c0 O0) 33)
  replace KH0 := KH0.alloc (.cells (pc a0 n0 c0 O0) 33)
  replace KH1 := KH1.alloc (.cells (pc a0 n0 c0 O0) 33)
  have KR0 := kp_new1 w (pc a0 n0 c0 O0) 33 (g := w.heap.size) (by simp)
  replace KB := KB.alloc (.cells (pc a1 n1 c1 O1) 33)
  replace KH0 := KH0.alloc (.cells (pc a1 n1 c1 O1) 33)
  replace KH1 := KH1.alloc (.cells (pc a1 n1 c1 O1) 33)
  replace KR0 := KR0.alloc (.cells (pc a1 n1 c1 O1) 33)
  have KR1 := kp_new1 (w.alloc (.cells (pc a0 n0 c0 O0) 33)) (pc a1 n1 c1 O1) 33 (g := w.heap.size + 1) (by simp)
  go_enter Try.func4, Try.ntmps4
  go_wp2_with (first | (with_reducible refine load_lprog rfl _ rfl (w.heap.size) rfl _ a0 n0 c0 O0 KR0.here ?_) | (with_reducible refine load_lprog rfl _ rfl (w.heap.size + 1) rfl _ a1 n1 c1 O1 KR1.here ?_))
  generalize ((w.alloc (.cells (pc a0 n0 c0 O0) 33)).alloc (.cells (pc a1 n1 c1 O1) 33)) = w1 at KB KH0 KH1 KR0 KR1 ⊢
  refine (szProgramme_kp a0 n0 c0 O0 (1048576) _ (by omega) (by omega)).mono ?_
  rintro e w3 ⟨rfl, hb2⟩
  replace KB := KB.on hb2
  replace KH0 := KH0.on hb2
  replace KH1 := KH1.on hb2
  replace KR0 := KR0.on hb2
  replace KR1 := KR1.on hb2
  by_cases hlw3 : (1048576 : Int) < n0
  · rw [szOf_lt hlw3]
    go_wp2_with (first | (with_reducible refine load_lprog rfl _ rfl (w.heap.size) rfl _ a0 n0 c0 O0 KR0.here ?_) | (with_reducible refine load_lprog rfl _ rfl (w.heap.size + 1) rfl _ a1 n1 c1 O1 KR1.here ?_))
    go_ret
    exact ⟨rfl, KB.here⟩
  rw [szOf_ge (by omega)]
  go_wp2_with (first | (with_reducible refine load_lprog rfl _ rfl (w.heap.size) rfl _ a0 n0 c0 O0 KR0.here ?_) | (with_reducible refine load_lprog rfl _ rfl (w.heap.size + 1) rfl _ a1 n1 c1 O1 KR1.here ?_))
  refine (szProgramme_kp a1 n1 c1 O1 (1048576 - (n0 : Int)) _ (by omega) (by omega)).mono ?_
  rintro e w5 ⟨rfl, hb4⟩
  replace KB := KB.on hb4
  replace KH0 := KH0.on hb4
  replace KH1 := KH1.on hb4
  replace KR0 := KR0.on hb4
  replace KR1 := KR1.on hb4
  by_cases hlw5 : (1048576 - (n0 : Int) : Int) < n1
  · rw [szOf_lt hlw5]
    go_wp2_with (first | (with_reducible refine load_lprog rfl _ rfl (w.heap.size) rfl _ a0 n0 c0 O0 KR0.here ?_) | (with_reducible refine load_lprog rfl _ rfl (w.heap.size + 1) rfl _ a1 n1 c1 O1 KR1.here ?_))
    go_ret
    exact ⟨rfl, KB.here⟩
  rw [szOf_ge (by omega)]
  go_wp2_with (first | (with_reducible refine load_lprog rfl _ rfl (w.heap.size) rfl _ a0 n0 c0 O0 KR0.here ?_) | (with_reducible refine load_lprog rfl _ rfl (w.heap.size + 1) rfl _ a1 n1 c1 O1 KR1.here ?_))
  refine wp_region_S (fun V => Below w5.heap.size w5 V) (by kernel_rfl) (Below.refl _ _).drew ?_
  refine take_val 0 (.agg (pc a0 n0 c0 O0)) rfl (by kernel_rfl) (by kernel_rfl) (by kernel_rfl) (fun _ _ _ h => h) rfl (fun V hV => ex_load_lprog _ rfl (w.heap.size) rfl _ a0 n0 c0 O0 (KR0.at hV)) (Below.refl _ _).drew ?_
  simp only [List.getElem_toArray, List.getElem_cons_zero, List.getElem_cons_succ, Act.put, List.setIfInBounds_toArray, List.set_cons_zero, List.set_cons_succ]
  refine take_val 2 (.agg (pc a1 n1 c1 O1)) rfl (by kernel_rfl) (by kernel_rfl) (by kernel_rfl) (fun _ _ _ h => h) rfl (fun V hV => ex_load_lprog _ rfl (w.heap.size + 1) rfl _ a1 n1 c1 O1 (KR1.at hV)) (Below.refl _ _).drew ?_
  simp only [List.getElem_toArray, List.getElem_cons_zero, List.getElem_cons_succ, Act.put, List.setIfInBounds_toArray, List.set_cons_zero, List.set_cons_succ]
  have KQ6 := kp_start w5; have hdKQ6 := below_drew w5
  replace KB := KB.on hdKQ6
  replace KH0 := KH0.on hdKQ6
  replace KH1 := KH1.on hdKQ6
  replace KR0 := KR0.on hdKQ6
  replace KR1 := KR1.on hdKQ6
  clear hdKQ6
  refine step_call 1 21 #[.agg (pc a0 n0 c0 O0)] (by kernel_rfl) rfl rfl (by simp [go_sem]) ?_
  refine (toProgramme_kp a0 n0 c0 F0 T0 O0 _ (by omega) (KH0.here)).mono ?_
  rintro e w8 ⟨b9, rfl, hb7, KX10⟩
  replace KB := KB.on hb7
  replace KH0 := KH0.on hb7
  replace KH1 := KH1.on hb7
  replace KR0 := KR0.on hb7
  replace KR1 := KR1.on hb7
  replace KQ6 := KQ6.on hb7
  refine ⟨_, rfl, KQ6.here, ?_⟩
  simp only [List.getElem_toArray, List.getElem_cons_zero, List.getElem_cons_succ, Act.put, List.setIfInBounds_toArray, List.set_cons_zero, List.set_cons_succ]
  refine step_call 3 21 #[.agg (pc a1 n1 c1 O1)] (by kernel_rfl) rfl rfl (by simp [go_sem]) ?_
  refine (toProgramme_kp a1 n1 c1 F1 T1 O1 _ (by omega) (KH1.here)).mono ?_
  rintro e w12 ⟨b13, rfl, hb11, KX14⟩
  replace KB := KB.on hb11
  replace KH0 := KH0.on hb11
  replace KH1 := KH1.on hb11
  replace KR0 := KR0.on hb11
  replace KR1 := KR1.on hb11
  replace KQ6 := KQ6.on hb11
  replace KX10 := KX10.on hb11
  refine ⟨_, rfl, KQ6.here, ?_⟩
  simp only [List.getElem_toArray, List.getElem_cons_zero, List.getElem_cons_succ, Act.put, List.setIfInBounds_toArray, List.set_cons_zero, List.set_cons_succ]
  refine step_call 4 20 #[.agg (pc b9 n0 n0 O0), .agg (pc b13 n1 n1 O1)] (by kernel_rfl) rfl rfl (by simp [go_sem]) ?_
  obtain ⟨r0, hr0⟩ : ∃ r, r = sameP n0 F0 T0 O0 n1 F1 T1 O1 := ⟨_, rfl⟩
  refine (specSameProgramme_any b9 n0 n0 F0 T0 O0 b13 n1 n1 F1 T1 O1 _ (by omega) HF0.out HT0.out HO0.out (KX10.here) (by omega) HF1.out HT1.out HO1.out (KX14.here)).mono ?_
  rw [← hr0]
  rintro e w16 ⟨rfl, hb15⟩
  have HR_0 := Lib.hid hr0; clear hr0
  replace KB := KB.on hb15
  replace KH0 := KH0.on hb15
  replace KH1 := KH1.on hb15
  replace KR0 := KR0.on hb15
  replace KR1 := KR1.on hb15
  replace KQ6 := KQ6.on hb15
  replace KX10 := KX10.on hb15
  replace KX14 := KX14.on hb15
  refine ⟨_, rfl, KQ6.here, ?_⟩
  simp only [List.getElem_toArray, List.getElem_cons_zero, List.getElem_cons_succ, Act.put, List.setIfInBounds_toArray, List.set_cons_zero, List.set_cons_succ]
  refine take_val 5 (.bool r0) rfl (by kernel_rfl) (by kernel_rfl) (by kernel_rfl) (fun _ _ _ h => h) rfl (fun V _ => by simp [go_sem]) KQ6.here ?_
  simp only [List.getElem_toArray, List.getElem_cons_zero, List.getElem_cons_succ, Act.put, List.setIfInBounds_toArray, List.set_cons_zero, List.set_cons_succ]
  refine wpAnyH_done (by kernel_rfl) ?_ _
  clear KQ6
  go_wp2_with (first | (with_reducible refine load_lprog rfl _ rfl (w.heap.size) rfl _ a0 n0 c0 O0 KR0.here ?_) | (with_reducible refine load_lprog rfl _ rfl (w.heap.size + 1) rfl _ a1 n1 c1 O1 KR1.here ?_))
  refine (toProgramme_kp a0 n0 c0 F0 T0 O0 _ (by omega) (KH0.here)).mono ?_
  rintro e w18 ⟨b19, rfl, hb17, KX20⟩
  replace KB := KB.on hb17
  replace KH0 := KH0.on hb17
  replace KH1 := KH1.on hb17
  replace KR0 := KR0.on hb17
  replace KR1 := KR1.on hb17
  replace KX10 := KX10.on hb17
  replace KX14 := KX14.on hb17
  go_wp2_with (first | (with_reducible refine copy_prog rfl rfl rfl _ _ rfl b19 n0 n0 O0 rfl rfl ?_; intro w23 hn24 _ hn24g; replace KB := KB.on hn24; replace KH0 := KH0.on hn24; replace KH1 := KH1.on hn24; replace KR0 := KR0.on hn24; replace KR1 := KR1.on hn24; replace KX10 := KX10.on hn24; replace KX14 := KX14.on hn24; replace KX20 := KX20.on hn24; have KR22 := kp_row hn24g; clear hn24 hn24g) | (with_reducible refine load_lprog rfl _ rfl (w.heap.size) rfl _ a0 n0 c0 O0 KR0.here ?_) | (with_reducible refine load_lprog rfl _ rfl (w.heap.size + 1) rfl _ a1 n1 c1 O1 KR1.here ?_) | (with_reducible refine load_iprog rfl _ rfl (w18.heap.size) rfl _ b19 n0 n0 O0 KR22.here ?_))
  refine (toProgramme_kp a1 n1 c1 F1 T1 O1 _ (by omega) (KH1.here)).mono ?_
  rintro e w26 ⟨b27, rfl, hb25, KX28⟩
  replace KB := KB.on hb25
  replace KH0 := KH0.on hb25
  replace KH1 := KH1.on hb25
  replace KR0 := KR0.on hb25
  replace KR1 := KR1.on hb25
  replace KX10 := KX10.on hb25
  replace KX14 := KX14.on hb25
  replace KX20 := KX20.on hb25
  replace KR22 := KR22.on hb25
  go_wp2_with (first | (with_reducible refine copy_prog rfl rfl rfl _ _ rfl b27 n1 n1 O1 rfl rfl ?_; intro w31 hn32 _ hn32g; replace KB := KB.on hn32; replace KH0 := KH0.on hn32; replace KH1 := KH1.on hn32; replace KR0 := KR0.on hn32; replace KR1 := KR1.on hn32; replace KX10 := KX10.on hn32; replace KX14 := KX14.on hn32; replace KX20 := KX20.on hn32; replace KR22 := KR22.on hn32; replace KX28 := KX28.on hn32; have KR30 := kp_row hn32g; clear hn32 hn32g) | (with_reducible refine load_lprog rfl _ rfl (w.heap.size) rfl _ a0 n0 c0 O0 KR0.here ?_) | (with_reducible refine load_lprog rfl _ rfl (w.heap.size + 1) rfl _ a1 n1 c1 O1 KR1.here ?_) | (with_reducible refine load_iprog rfl _ rfl (w18.heap.size) rfl _ b19 n0 n0 O0 KR22.here ?_) | (with_reducible refine load_iprog rfl _ rfl (w26.heap.size) rfl _ b27 n1 n1 O1 KR30.here ?_))
  refine (implSameProgramme_any b19 n0 n0 F0 T0 O0 b27 n1 n1 F1 T1 O1 _ (by omega) HF0.out HT0.out HO0.out (KX20.here) (by omega) HF1.out HT1.out HO1.out (KX28.here)).mono ?_
  rw [← HR_0.out]
  rintro e w34 ⟨rfl, hb33⟩
  replace KB := KB.on hb33
  replace KH0 := KH0.on hb33
  replace KH1 := KH1.on hb33
  replace KR0 := KR0.on hb33
  replace KR1 := KR1.on hb33
  replace KX10 := KX10.on hb33
  replace KX14 := KX14.on hb33
  replace KX20 := KX20.on hb33
  replace KR22 := KR22.on hb33
  replace KX28 := KX28.on hb33
  replace KR30 := KR30.on hb33
  go_wp2_with (first | (with_reducible refine load_lprog rfl _ rfl (w.heap.size) rfl _ a0 n0 c0 O0 KR0.here ?_) | (with_reducible refine load_lprog rfl _ rfl (w.heap.size + 1) rfl _ a1 n1 c1 O1 KR1.here ?_) | (with_reducible refine load_iprog rfl _ rfl (w18.heap.size) rfl _ b19 n0 n0 O0 KR22.here ?_) | (with_reducible refine load_iprog rfl _ rfl (w26.heap.size) rfl _ b27 n1 n1 O1 KR30.here ?_))
  refine wp_region_S (fun V => Below w34.heap.size w34 V) (by kernel_rfl) (Below.refl _ _).drew ?_
  refine take_val 0 (.agg (pc b19 n0 n0 O0)) rfl (by kernel_rfl) (by kernel_rfl) (by kernel_rfl) (fun _ _ _ h => h) rfl (fun V hV => ex_load_iprog _ rfl (w18.heap.size) rfl _ b19 n0 n0 O0 (KR22.at hV)) (Below.refl _ _).drew ?_
  simp only [List.getElem_toArray, List.getElem_cons_zero, List.getElem_cons_succ, Act.put, List.setIfInBounds_toArray, List.set_cons_zero, List.set_cons_succ]
  refine take_val 1 (.agg (pc a0 n0 c0 O0)) rfl (by kernel_rfl) (by kernel_rfl) (by kernel_rfl) (fun _ _ _ h => h) rfl (fun V hV => ex_load_lprog _ rfl (w.heap.size) rfl _ a0 n0 c0 O0 (KR0.at hV)) (Below.refl _ _).drew ?_
  simp only [List.getElem_toArray, List.getElem_cons_zero, List.getElem_cons_succ, Act.put, List.setIfInBounds_toArray, List.set_cons_zero, List.set_cons_succ]
  have KQ35 := kp_start w34; have hdKQ35 := below_drew w34
  replace KB := KB.on hdKQ35
  replace KH0 := KH0.on hdKQ35
  replace KH1 := KH1.on hdKQ35
  replace KR0 := KR0.on hdKQ35
  replace KR1 := KR1.on hdKQ35
  replace KX10 := KX10.on hdKQ35
  replace KX14 := KX14.on hdKQ35
  replace KX20 := KX20.on hdKQ35
  replace KR22 := KR22.on hdKQ35
  replace KX28 := KX28.on hdKQ35
  replace KR30 := KR30.on hdKQ35
  clear hdKQ35
  refine step_call 2 21 #[.agg (pc a0 n0 c0 O0)] (by kernel_rfl) rfl rfl (by simp [go_sem]) ?_
  refine (toProgramme_kp a0 n0 c0 F0 T0 O0 _ (by omega) (KH0.here)).mono ?_
  rintro e w37 ⟨b38, rfl, hb36, KX39⟩
  replace KB := KB.on hb36
  replace KH0 := KH0.on hb36
  replace KH1 := KH1.on hb36
  replace KR0 := KR0.on hb36
  replace KR1 := KR1.on hb36
  replace KX10 := KX10.on hb36
  replace KX14 := KX14.on hb36
  replace KX20 := KX20.on hb36
  replace KR22 := KR22.on hb36
  replace KX28 := KX28.on hb36
  replace KR30 := KR30.on hb36
  replace KQ35 := KQ35.on hb36
  refine ⟨_, rfl, KQ35.here, ?_⟩
  simp only [List.getElem_toArray, List.getElem_cons_zero, List.getElem_cons_succ, Act.put, List.setIfInBounds_toArray, List.set_cons_zero, List.set_cons_succ]
  refine step_call 3 23 #[.agg (pc b19 n0 n0 O0), .agg (pc b38 n0 n0 O0)] (by kernel_rfl) rfl rfl (by simp [go_sem]) ?_
  refine (eqProgramme_kp _ _ n0 n0 n0 F0 T0 O0 _ (by omega) (KX20.here) (KX39.here)).mono ?_
  rintro e w41 ⟨rfl, hb40⟩
  replace KB := KB.on hb40
  replace KH0 := KH0.on hb40
  replace KH1 := KH1.on hb40
  replace KR0 := KR0.on hb40
  replace KR1 := KR1.on hb40
  replace KX10 := KX10.on hb40
  replace KX14 := KX14.on hb40
  replace KX20 := KX20.on hb40
  replace KR22 := KR22.on hb40
  replace KX28 := KX28.on hb40
  replace KR30 := KR30.on hb40
  replace KQ35 := KQ35.on hb40
  replace KX39 := KX39.on hb40
  refine ⟨_, rfl, KQ35.here, ?_⟩
  simp only [List.getElem_toArray, List.getElem_cons_zero, List.getElem_cons_succ, Act.put, List.setIfInBounds_toArray, List.set_cons_zero, List.set_cons_succ]
  refine take_val 4 (.bool false) rfl (by kernel_rfl) (by kernel_rfl) (by kernel_rfl) (fun _ _ _ h => h) rfl (fun V _ => by simp [go_sem]) KQ35.here ?_
  simp only [List.getElem_toArray, List.getElem_cons_zero, List.getElem_cons_succ, Act.put, List.setIfInBounds_toArray, List.set_cons_zero, List.set_cons_succ]
  refine wpAnyH_done (by kernel_rfl) ?_ _
  clear KQ35
  go_wp2_with (first | (with_reducible refine load_lprog rfl _ rfl (w.heap.size) rfl _ a0 n0 c0 O0 KR0.here ?_) | (with_reducible refine load_lprog rfl _ rfl (w.heap.size + 1) rfl _ a1 n1 c1 O1 KR1.here ?_) | (with_reducible refine load_iprog rfl _ rfl (w18.heap.size) rfl _ b19 n0 n0 O0 KR22.here ?_) | (with_reducible refine load_iprog rfl _ rfl (w26.heap.size) rfl _ b27 n1 n1 O1 KR30.here ?_))
  refine wp_region_S (fun V => Below w41.heap.size w41 V) (by kernel_rfl) (Below.refl _ _).drew ?_
  refine take_val 0 (.agg (pc b27 n1 n1 O1)) rfl (by kernel_rfl) (by kernel_rfl) (by kernel_rfl) (fun _ _ _ h => h) rfl (fun V hV => ex_load_iprog _ rfl (w26.heap.size) rfl _ b27 n1 n1 O1 (KR30.at hV)) (Below.refl _ _).drew ?_
  simp only [List.getElem_toArray, List.getElem_cons_zero, List.getElem_cons_succ, Act.put, List.setIfInBounds_toArray, List.set_cons_zero, List.set_cons_succ]
  refine take_val 1 (.agg (pc a1 n1 c1 O1)) rfl (by kernel_rfl) (by kernel_rfl) (by kernel_rfl) (fun _ _ _ h => h) rfl (fun V hV => ex_load_lprog _ rfl (w.heap.size + 1) rfl _ a1 n1 c1 O1 (KR1.at hV)) (Below.refl _ _).drew ?_
  simp only [List.getElem_toArray, List.getElem_cons_zero, List.getElem_cons_succ, Act.put, List.setIfInBounds_toArray, List.set_cons_zero, List.set_cons_succ]
  have KQ42 := kp_start w41; have hdKQ42 := below_drew w41
  replace KB := KB.on hdKQ42
  replace KH0 := KH0.on hdKQ42
  replace KH1 := KH1.on hdKQ42
  replace KR0 := KR0.on hdKQ42
  replace KR1 := KR1.on hdKQ42
  replace KX10 := KX10.on hdKQ42
  replace KX14 := KX14.on hdKQ42
  replace KX20 := KX20.on hdKQ42
  replace KR22 := KR22.on hdKQ42
  replace KX28 := KX28.on hdKQ42
  replace KR30 := KR30.on hdKQ42
  replace KX39 := KX39.on hdKQ42
  clear hdKQ42
  refine step_call 2 21 #[.agg (pc a1 n1 c1 O1)] (by kernel_rfl) rfl rfl (by simp [go_sem]) ?_
  refine (toProgramme_kp a1 n1 c1 F1 T1 O1 _ (by omega) (KH1.here)).mono ?_
  rintro e w44 ⟨b45, rfl, hb43, KX46⟩
  replace KB := KB.on hb43
  replace KH0 := KH0.on hb43
  replace KH1 := KH1.on hb43
  replace KR0 := KR0.on hb43
  replace KR1 := KR1.on hb43
  replace KX10 := KX10.on hb43
  replace KX14 := KX14.on hb43
  replace KX20 := KX20.on hb43
  replace KR22 := KR22.on hb43
  replace KX28 := KX28.on hb43
  replace KR30 := KR30.on hb43
  replace KX39 := KX39.on hb43
  replace KQ42 := KQ42.on hb43
  refine ⟨_, rfl, KQ42.here, ?_⟩
  simp only [List.getElem_toArray, List.getElem_cons_zero, List.getElem_cons_succ, Act.put, List.setIfInBounds_toArray, List.set_cons_zero, List.set_cons_succ]
  refine step_call 3 23 #[.agg (pc b27 n1 n1 O1), .agg (pc b45 n1 n1 O1)] (by kernel_rfl) rfl rfl (by simp [go_sem]) ?_
  refine (eqProgramme_kp _ _ n1 n1 n1 F1 T1 O1 _ (by omega) (KX28.here) (KX46.here)).mono ?_
  rintro e w48 ⟨rfl, hb47⟩
  replace KB := KB.on hb47
  replace KH0 := KH0.on hb47
  replace KH1 := KH1.on hb47
  replace KR0 := KR0.on hb47
  replace KR1 := KR1.on hb47
  replace KX10 := KX10.on hb47
  replace KX14 := KX14.on hb47
  replace KX20 := KX20.on hb47
  replace KR22 := KR22.on hb47
  replace KX28 := KX28.on hb47
  replace KR30 := KR30.on hb47
  replace KX39 := KX39.on hb47
  replace KQ42 := KQ42.on hb47
  replace KX46 := KX46.on hb47
  refine ⟨_, rfl, KQ42.here, ?_⟩
  simp only [List.getElem_toArray, List.getElem_cons_zero, List.getElem_cons_succ, Act.put, List.setIfInBounds_toArray, List.set_cons_zero, List.set_cons_succ]
  refine take_val 4 (.bool false) rfl (by kernel_rfl) (by kernel_rfl) (by kernel_rfl) (fun _ _ _ h => h) rfl (fun V _ => by simp [go_sem]) KQ42.here ?_
  simp only [List.getElem_toArray, List.getElem_cons_zero, List.getElem_cons_succ, Act.put, List.setIfInBounds_toArray, List.set_cons_zero, List.set_cons_succ]
  refine wpAnyH_done (by kernel_rfl) ?_ _
  clear KQ42
  go_wp2_with fail
  go_ret
  exact ⟨rfl, KB.here⟩
end Go.Proofs.Ytofmhpbilajjaaa
