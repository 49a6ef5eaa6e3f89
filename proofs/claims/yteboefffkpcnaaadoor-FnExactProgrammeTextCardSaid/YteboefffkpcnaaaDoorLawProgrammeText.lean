/- The law FnExactProgrammeText: the walk, printed by lawgen.py. No conditions. -/
import Derived.Test.YteboefffkpcnaaaDoorKp
import Derived.Test.YteboefffkpcnaaaDoorPy
import Derived.Test.YteboefffkpcnaaaDoorHeld2
import Derived.Outline
namespace Go.Proofs.YteboefffkpcnaaaDoor
open Go.RowKit
set_option linter.unusedVariables false
set_option linter.unusedSimpArgs false

set_option maxRecDepth 100000 in
set_option maxHeartbeats 4000000 in
theorem lawProgrammeText (s0 : Int) (a0 : Option Addr) (n0 c0 : Nat) (P0 R0 : Nat → Int) (a1 : Option Addr) (n1 c1 : Nat) (F1 T1 O1 : Nat → Int) (w : World) (hn0 : n0 ≤ 9223372036854775807) (hs0 : -32768 ≤ s0 ∧ s0 ≤ 32767) (hP0 : I8 P0) (hR0 : I8 R0) (hh0 : HamIn w a0 n0 P0 R0) (hn1 : n1 ≤ 9223372036854775807) (hF1 : I16 F1) (hT1 : I16 T1) (hO1 : I8 O1) (hh1 : SecIn w a1 n1 F1 T1) :
    Calls Tryd.prog 6 #[.agg #[.int .i16 s0, .slice a0 n0 c0], .agg (pc a1 n1 c1 O1)] w fun e w' => e = .returned (.bool true) ∧ Below w.heap.size w w' := by
  have HP0 := Lib.hid hP0; clear hP0
  have HR0 := Lib.hid hR0; clear hR0
  have HF1 := Lib.hid hF1; clear hF1
  have HT1 := Lib.hid hT1; clear hT1
  have HO1 := Lib.hid hO1; clear hO1
  have KB := Kp.base w
  have KH0 := kp_hamIn hh0; clear hh0
  have KH1 := kp_secIn hh1; clear hh1
  replace KB := KB.alloc (.cells #[.int .i16 s0, .slice a0 n0 c0] 37)
  replace KH0 := KH0.alloc (.cells #[.int .i16 s0, .slice a0 n0 c0] 37)
  replace KH1 := KH1.alloc (.cells #[.int .i16 s0, .slice a0 n0 c0] 37)
  have KR0 := kp_new1 w #[.int .i16 s0, .slice a0 n0 c0] 37 (g := w.heap.size) (by simp)
  replace KB := KB.alloc (.cells (pc a1 n1 c1 O1) 42)
  replace KH0 := KH0.alloc (.cells (pc a1 n1 c1 O1) 42)
  replace KH1 := KH1.alloc (.cells (pc a1 n1 c1 O1) 42)
  replace KR0 := KR0.alloc (.cells (pc a1 n1 c1 O1) 42)
  have KR1 := kp_new1 (w.alloc (.cells #[.int .i16 s0, .slice a0 n0 c0] 37)) (pc a1 n1 c1 O1) 42 (g := w.heap.size + 1) (by simp)
  go_enter Tryd.func6, Tryd.ntmps6
  go_wp2_with (first | (with_reducible refine load_lframe rfl _ rfl (w.heap.size) rfl _ s0 a0 n0 c0 KR0.here ?_) | (with_reducible refine load_lprog rfl _ rfl (w.heap.size + 1) rfl _ a1 n1 c1 O1 KR1.here ?_))
  generalize ((w.alloc (.cells #[.int .i16 s0, .slice a0 n0 c0] 37)).alloc (.cells (pc a1 n1 c1 O1) 42)) = w1 at KB KH0 KH1 KR0 KR1 ⊢
  refine (szFrame_kp s0 a0 n0 c0 (1048576) _ (by omega) (by omega)).mono ?_
  rintro e w3 ⟨rfl, hb2⟩
  replace KB := KB.on hb2
  replace KH0 := KH0.on hb2
  replace KH1 := KH1.on hb2
  replace KR0 := KR0.on hb2
  replace KR1 := KR1.on hb2
  by_cases hlw3 : (1048576 : Int) < n0
  · rw [szOf_lt hlw3]
    go_wp2_with (first | (with_reducible refine load_lframe rfl _ rfl (w.heap.size) rfl _ s0 a0 n0 c0 KR0.here ?_) | (with_reducible refine load_lprog rfl _ rfl (w.heap.size + 1) rfl _ a1 n1 c1 O1 KR1.here ?_))
    go_ret
    exact ⟨rfl, KB.here⟩
  rw [szOf_ge (by omega)]
  go_wp2_with (first | (with_reducible refine load_lframe rfl _ rfl (w.heap.size) rfl _ s0 a0 n0 c0 KR0.here ?_) | (with_reducible refine load_lprog rfl _ rfl (w.heap.size + 1) rfl _ a1 n1 c1 O1 KR1.here ?_))
  refine (szProgramme_kp a1 n1 c1 O1 (1048576 - (n0 : Int)) _ (by omega) (by omega)).mono ?_
  rintro e w5 ⟨rfl, hb4⟩
  replace KB := KB.on hb4
  replace KH0 := KH0.on hb4
  replace KH1 := KH1.on hb4
  replace KR0 := KR0.on hb4
  replace KR1 := KR1.on hb4
  by_cases hlw5 : (1048576 - (n0 : Int) : Int) < n1
  · rw [szOf_lt hlw5]
    go_wp2_with (first | (with_reducible refine load_lframe rfl _ rfl (w.heap.size) rfl _ s0 a0 n0 c0 KR0.here ?_) | (with_reducible refine load_lprog rfl _ rfl (w.heap.size + 1) rfl _ a1 n1 c1 O1 KR1.here ?_))
    go_ret
    exact ⟨rfl, KB.here⟩
  rw [szOf_ge (by omega)]
  go_wp2_with (first | (with_reducible refine load_lframe rfl _ rfl (w.heap.size) rfl _ s0 a0 n0 c0 KR0.here ?_) | (with_reducible refine load_lprog rfl _ rfl (w.heap.size + 1) rfl _ a1 n1 c1 O1 KR1.here ?_))
  refine wp_region_S (fun V => Below w5.heap.size w5 V) (by kernel_rfl) (Below.refl _ _).drew ?_
  refine take_val 0 (.agg #[.int .i16 s0, .slice a0 n0 c0]) rfl (by kernel_rfl) (by kernel_rfl) (by kernel_rfl) (fun _ _ _ h => h) rfl (fun V hV => ex_load_lframe _ rfl (w.heap.size) rfl _ s0 a0 n0 c0 (KR0.at hV)) (Below.refl _ _).drew ?_
  simp only [List.getElem_toArray, List.getElem_cons_zero, List.getElem_cons_succ, Act.put, List.setIfInBounds_toArray, List.set_cons_zero, List.set_cons_succ]
  refine take_val 2 (.agg (pc a1 n1 c1 O1)) rfl (by kernel_rfl) (by kernel_rfl) (by kernel_rfl) (fun _ _ _ h => h) rfl (fun V hV => ex_load_lprog _ rfl (w.heap.size + 1) rfl _ a1 n1 c1 O1 (KR1.at hV)) (Below.refl _ _).drew ?_
  simp only [List.getElem_toArray, List.getElem_cons_zero, List.getElem_cons_succ, Act.put, List.setIfInBounds_toArray, List.set_cons_zero, List.set_cons_succ]
  have KQ6 := kp_start w5; have hdKQ6 := below_drew w5
  replace KB := KB.on hdKQ6
  replace KH0 := KH0.on hdKQ6
  replace KH1 := KH1.on hdKQ6
  replace KR0 := KR0.on hdKQ6
  replace KR1 := KR1.on hdKQ6
  clear hdKQ6
  refine step_call 1 19 #[.agg #[.int .i16 s0, .slice a0 n0 c0]] (by kernel_rfl) rfl rfl (by simp [go_sem]) ?_
  refine (toFrame_kp s0 a0 n0 c0 P0 R0 _ (by omega) hs0 (KH0.here)).mono ?_
  rintro e w8 ⟨b9, rfl, hb7, KX10⟩
  replace KB := KB.on hb7
  replace KH0 := KH0.on hb7
  replace KH1 := KH1.on hb7
  replace KR0 := KR0.on hb7
  replace KR1 := KR1.on hb7
  replace KQ6 := KQ6.on hb7
  refine ⟨_, rfl, KQ6.here, ?_⟩
  simp only [List.getElem_toArray, List.getElem_cons_zero, List.getElem_cons_succ, Act.put, List.setIfInBounds_toArray, List.set_cons_zero, List.set_cons_succ]
  refine step_call 3 20 #[.agg (pc a1 n1 c1 O1)] (by kernel_rfl) rfl rfl (by simp [go_sem]) ?_
  refine (toProgramme_kp a1 n1 c1 F1 T1 O1 _ (by omega) (KH1.here)).mono ?_
  rintro e w12 ⟨b13, rfl, hb11, KX14⟩
  replace KB := KB.on hb11
  replace KH0 := KH0.on hb11
  replace KH1 := KH1.on hb11
  replace KR0 := KR0.on hb11
  replace KR1 := KR1.on hb11
  replace KQ6 := KQ6.on hb11
  replace KX10 := KX10.on hb11
  refine ⟨_, rfl, KQ6.here, ?_⟩
  simp only [List.getElem_toArray, List.getElem_cons_zero, List.getElem_cons_succ, Act.put, List.setIfInBounds_toArray, List.set_cons_zero, List.set_cons_succ]
  refine step_call 4 18 #[.agg #[.int .i16 s0, .slice b9 n0 n0], .agg (pc b13 n1 n1 O1)] (by kernel_rfl) rfl rfl (by simp [go_sem]) ?_
  obtain ⟨r0, hr0⟩ : ∃ r, r = ptx s0 n0 P0 R0 n1 F1 T1 O1 := ⟨_, rfl⟩
  refine (specProgrammeText_any s0 b9 n0 n0 P0 R0 b13 n1 n1 F1 T1 O1 _ hs0 (by omega) HP0.out HR0.out (KX10.here) (by omega) HF1.out HT1.out HO1.out (KX14.here)).mono ?_
  rw [← hr0]
  rintro e w16 ⟨rfl, hb15⟩
  have HR_0 := Lib.hid hr0; clear hr0
  replace KB := KB.on hb15
  replace KH0 := KH0.on hb15
  replace KH1 := KH1.on hb15
  replace KR0 := KR0.on hb15
  replace KR1 := KR1.on hb15
  replace KQ6 := KQ6.on hb15
  replace KX10 := KX10.on hb15
  replace KX14 := KX14.on hb15
  refine ⟨_, rfl, KQ6.here, ?_⟩
  simp only [List.getElem_toArray, List.getElem_cons_zero, List.getElem_cons_succ, Act.put, List.setIfInBounds_toArray, List.set_cons_zero, List.set_cons_succ]
  refine take_val 5 (.string (r0)) rfl (by kernel_rfl) (by kernel_rfl) (by kernel_rfl) (fun _ _ _ h => h) rfl (fun V _ => by simp [go_sem]) KQ6.here ?_
  simp only [List.getElem_toArray, List.getElem_cons_zero, List.getElem_cons_succ, Act.put, List.setIfInBounds_toArray, List.set_cons_zero, List.set_cons_succ]
  refine wpAnyH_done (by kernel_rfl) ?_ _
  clear KQ6
  go_wp2_with (first | (with_reducible refine load_lframe rfl _ rfl (w.heap.size) rfl _ s0 a0 n0 c0 KR0.here ?_) | (with_reducible refine load_lprog rfl _ rfl (w.heap.size + 1) rfl _ a1 n1 c1 O1 KR1.here ?_))
  refine (toFrame_kp s0 a0 n0 c0 P0 R0 _ (by omega) hs0 (KH0.here)).mono ?_
  rintro e w18 ⟨b19, rfl, hb17, KX20⟩
  replace KB := KB.on hb17
  replace KH0 := KH0.on hb17
  replace KH1 := KH1.on hb17
  replace KR0 := KR0.on hb17
  replace KR1 := KR1.on hb17
  replace KX10 := KX10.on hb17
  replace KX14 := KX14.on hb17
  replace KB := KB.alloc (.cells #[.int .i16 s0, .slice b19 n0 n0] 48)
  replace KH0 := KH0.alloc (.cells #[.int .i16 s0, .slice b19 n0 n0] 48)
  replace KH1 := KH1.alloc (.cells #[.int .i16 s0, .slice b19 n0 n0] 48)
  replace KR0 := KR0.alloc (.cells #[.int .i16 s0, .slice b19 n0 n0] 48)
  replace KR1 := KR1.alloc (.cells #[.int .i16 s0, .slice b19 n0 n0] 48)
  replace KX10 := KX10.alloc (.cells #[.int .i16 s0, .slice b19 n0 n0] 48)
  replace KX14 := KX14.alloc (.cells #[.int .i16 s0, .slice b19 n0 n0] 48)
  replace KX20 := KX20.alloc (.cells #[.int .i16 s0, .slice b19 n0 n0] 48)
  have KR22 := kp_new1 w18 #[.int .i16 s0, .slice b19 n0 n0] 48 (g := w18.heap.size) rfl
  go_wp2_with (first | (with_reducible refine load_lframe rfl _ rfl (w.heap.size) rfl _ s0 a0 n0 c0 KR0.here ?_) | (with_reducible refine load_lprog rfl _ rfl (w.heap.size + 1) rfl _ a1 n1 c1 O1 KR1.here ?_) | (with_reducible refine load_iframe rfl _ rfl (w18.heap.size) rfl _ s0 b19 n0 n0 KR22.here ?_))
  generalize (w18.alloc (.cells #[.int .i16 s0, .slice b19 n0 n0] 48)) = w23 at KB KH0 KH1 KR0 KR1 KX10 KX14 KX20 KR22 ⊢
  refine (toProgramme_kp a1 n1 c1 F1 T1 O1 _ (by omega) (KH1.here)).mono ?_
  rintro e w25 ⟨b26, rfl, hb24, KX27⟩
  replace KB := KB.on hb24
  replace KH0 := KH0.on hb24
  replace KH1 := KH1.on hb24
  replace KR0 := KR0.on hb24
  replace KR1 := KR1.on hb24
  replace KX10 := KX10.on hb24
  replace KX14 := KX14.on hb24
  replace KX20 := KX20.on hb24
  replace KR22 := KR22.on hb24
  go_wp2_with (first | (with_reducible refine copy_prog rfl rfl rfl _ _ rfl b26 n1 n1 O1 rfl rfl ?_; intro w30 hn31 _ hn31g; replace KB := KB.on hn31; replace KH0 := KH0.on hn31; replace KH1 := KH1.on hn31; replace KR0 := KR0.on hn31; replace KR1 := KR1.on hn31; replace KX10 := KX10.on hn31; replace KX14 := KX14.on hn31; replace KX20 := KX20.on hn31; replace KR22 := KR22.on hn31; replace KX27 := KX27.on hn31; have KR29 := kp_row hn31g; clear hn31 hn31g) | (with_reducible refine load_lframe rfl _ rfl (w.heap.size) rfl _ s0 a0 n0 c0 KR0.here ?_) | (with_reducible refine load_lprog rfl _ rfl (w.heap.size + 1) rfl _ a1 n1 c1 O1 KR1.here ?_) | (with_reducible refine load_iframe rfl _ rfl (w18.heap.size) rfl _ s0 b19 n0 n0 KR22.here ?_) | (with_reducible refine load_iprog rfl _ rfl (w25.heap.size) rfl _ b26 n1 n1 O1 KR29.here ?_))
  refine (implProgrammeText_any s0 b19 n0 n0 P0 R0 b26 n1 n1 F1 T1 O1 _ hs0 (by omega) HP0.out HR0.out (KX20.here) (by omega) HF1.out HT1.out HO1.out (KX27.here)).mono ?_
  rw [← HR_0.out]
  rintro e w33 ⟨rfl, hb32⟩
  replace KB := KB.on hb32
  replace KH0 := KH0.on hb32
  replace KH1 := KH1.on hb32
  replace KR0 := KR0.on hb32
  replace KR1 := KR1.on hb32
  replace KX10 := KX10.on hb32
  replace KX14 := KX14.on hb32
  replace KX20 := KX20.on hb32
  replace KR22 := KR22.on hb32
  replace KX27 := KX27.on hb32
  replace KR29 := KR29.on hb32
  go_wp2_with (first | (with_reducible refine load_lframe rfl _ rfl (w.heap.size) rfl _ s0 a0 n0 c0 KR0.here ?_) | (with_reducible refine load_lprog rfl _ rfl (w.heap.size + 1) rfl _ a1 n1 c1 O1 KR1.here ?_) | (with_reducible refine load_iframe rfl _ rfl (w18.heap.size) rfl _ s0 b19 n0 n0 KR22.here ?_) | (with_reducible refine load_iprog rfl _ rfl (w25.heap.size) rfl _ b26 n1 n1 O1 KR29.here ?_))
  refine wp_region_S (fun V => Below w33.heap.size w33 V) (by kernel_rfl) (Below.refl _ _).drew ?_
  refine take_val 0 (.agg #[.int .i16 s0, .slice b19 n0 n0]) rfl (by kernel_rfl) (by kernel_rfl) (by kernel_rfl) (fun _ _ _ h => h) rfl (fun V hV => ex_load_iframe _ rfl (w18.heap.size) rfl _ s0 b19 n0 n0 (KR22.at hV)) (Below.refl _ _).drew ?_
  simp only [List.getElem_toArray, List.getElem_cons_zero, List.getElem_cons_succ, Act.put, List.setIfInBounds_toArray, List.set_cons_zero, List.set_cons_succ]
  refine take_val 1 (.agg #[.int .i16 s0, .slice a0 n0 c0]) rfl (by kernel_rfl) (by kernel_rfl) (by kernel_rfl) (fun _ _ _ h => h) rfl (fun V hV => ex_load_lframe _ rfl (w.heap.size) rfl _ s0 a0 n0 c0 (KR0.at hV)) (Below.refl _ _).drew ?_
  simp only [List.getElem_toArray, List.getElem_cons_zero, List.getElem_cons_succ, Act.put, List.setIfInBounds_toArray, List.set_cons_zero, List.set_cons_succ]
  have KQ34 := kp_start w33; have hdKQ34 := below_drew w33
  replace KB := KB.on hdKQ34
  replace KH0 := KH0.on hdKQ34
  replace KH1 := KH1.on hdKQ34
  replace KR0 := KR0.on hdKQ34
  replace KR1 := KR1.on hdKQ34
  replace KX10 := KX10.on hdKQ34
  replace KX14 := KX14.on hdKQ34
  replace KX20 := KX20.on hdKQ34
  replace KR22 := KR22.on hdKQ34
  replace KX27 := KX27.on hdKQ34
  replace KR29 := KR29.on hdKQ34
  clear hdKQ34
  refine step_call 2 19 #[.agg #[.int .i16 s0, .slice a0 n0 c0]] (by kernel_rfl) rfl rfl (by simp [go_sem]) ?_
  refine (toFrame_kp s0 a0 n0 c0 P0 R0 _ (by omega) hs0 (KH0.here)).mono ?_
  rintro e w36 ⟨b37, rfl, hb35, KX38⟩
  replace KB := KB.on hb35
  replace KH0 := KH0.on hb35
  replace KH1 := KH1.on hb35
  replace KR0 := KR0.on hb35
  replace KR1 := KR1.on hb35
  replace KX10 := KX10.on hb35
  replace KX14 := KX14.on hb35
  replace KX20 := KX20.on hb35
  replace KR22 := KR22.on hb35
  replace KX27 := KX27.on hb35
  replace KR29 := KR29.on hb35
  replace KQ34 := KQ34.on hb35
  refine ⟨_, rfl, KQ34.here, ?_⟩
  simp only [List.getElem_toArray, List.getElem_cons_zero, List.getElem_cons_succ, Act.put, List.setIfInBounds_toArray, List.set_cons_zero, List.set_cons_succ]
  refine step_call 3 22 #[.agg #[.int .i16 s0, .slice b19 n0 n0], .agg #[.int .i16 s0, .slice b37 n0 n0]] (by kernel_rfl) rfl rfl (by simp [go_sem]) ?_
  refine (eqFrame_kp s0 _ _ n0 n0 n0 P0 R0 _ (by omega) (KX20.here) (KX38.here)).mono ?_
  rintro e w40 ⟨rfl, hb39⟩
  replace KB := KB.on hb39
  replace KH0 := KH0.on hb39
  replace KH1 := KH1.on hb39
  replace KR0 := KR0.on hb39
  replace KR1 := KR1.on hb39
  replace KX10 := KX10.on hb39
  replace KX14 := KX14.on hb39
  replace KX20 := KX20.on hb39
  replace KR22 := KR22.on hb39
  replace KX27 := KX27.on hb39
  replace KR29 := KR29.on hb39
  replace KQ34 := KQ34.on hb39
  replace KX38 := KX38.on hb39
  refine ⟨_, rfl, KQ34.here, ?_⟩
  simp only [List.getElem_toArray, List.getElem_cons_zero, List.getElem_cons_succ, Act.put, List.setIfInBounds_toArray, List.set_cons_zero, List.set_cons_succ]
  refine take_val 4 (.bool false) rfl (by kernel_rfl) (by kernel_rfl) (by kernel_rfl) (fun _ _ _ h => h) rfl (fun V _ => by simp [go_sem]) KQ34.here ?_
  simp only [List.getElem_toArray, List.getElem_cons_zero, List.getElem_cons_succ, Act.put, List.setIfInBounds_toArray, List.set_cons_zero, List.set_cons_succ]
  refine wpAnyH_done (by kernel_rfl) ?_ _
  clear KQ34
  go_wp2_with (first | (with_reducible refine load_lframe rfl _ rfl (w.heap.size) rfl _ s0 a0 n0 c0 KR0.here ?_) | (with_reducible refine load_lprog rfl _ rfl (w.heap.size + 1) rfl _ a1 n1 c1 O1 KR1.here ?_) | (with_reducible refine load_iframe rfl _ rfl (w18.heap.size) rfl _ s0 b19 n0 n0 KR22.here ?_) | (with_reducible refine load_iprog rfl _ rfl (w25.heap.size) rfl _ b26 n1 n1 O1 KR29.here ?_))
  refine wp_region_S (fun V => Below w40.heap.size w40 V) (by kernel_rfl) (Below.refl _ _).drew ?_
  refine take_val 0 (.agg (pc b26 n1 n1 O1)) rfl (by kernel_rfl) (by kernel_rfl) (by kernel_rfl) (fun _ _ _ h => h) rfl (fun V hV => ex_load_iprog _ rfl (w25.heap.size) rfl _ b26 n1 n1 O1 (KR29.at hV)) (Below.refl _ _).drew ?_
  simp only [List.getElem_toArray, List.getElem_cons_zero, List.getElem_cons_succ, Act.put, List.setIfInBounds_toArray, List.set_cons_zero, List.set_cons_succ]
  refine take_val 1 (.agg (pc a1 n1 c1 O1)) rfl (by kernel_rfl) (by kernel_rfl) (by kernel_rfl) (fun _ _ _ h => h) rfl (fun V hV => ex_load_lprog _ rfl (w.heap.size + 1) rfl _ a1 n1 c1 O1 (KR1.at hV)) (Below.refl _ _).drew ?_
  simp only [List.getElem_toArray, List.getElem_cons_zero, List.getElem_cons_succ, Act.put, List.setIfInBounds_toArray, List.set_cons_zero, List.set_cons_succ]
  have KQ41 := kp_start w40; have hdKQ41 := below_drew w40
  replace KB := KB.on hdKQ41
  replace KH0 := KH0.on hdKQ41
  replace KH1 := KH1.on hdKQ41
  replace KR0 := KR0.on hdKQ41
  replace KR1 := KR1.on hdKQ41
  replace KX10 := KX10.on hdKQ41
  replace KX14 := KX14.on hdKQ41
  replace KX20 := KX20.on hdKQ41
  replace KR22 := KR22.on hdKQ41
  replace KX27 := KX27.on hdKQ41
  replace KR29 := KR29.on hdKQ41
  replace KX38 := KX38.on hdKQ41
  clear hdKQ41
  refine step_call 2 20 #[.agg (pc a1 n1 c1 O1)] (by kernel_rfl) rfl rfl (by simp [go_sem]) ?_
  refine (toProgramme_kp a1 n1 c1 F1 T1 O1 _ (by omega) (KH1.here)).mono ?_
  rintro e w43 ⟨b44, rfl, hb42, KX45⟩
  replace KB := KB.on hb42
  replace KH0 := KH0.on hb42
  replace KH1 := KH1.on hb42
  replace KR0 := KR0.on hb42
  replace KR1 := KR1.on hb42
  replace KX10 := KX10.on hb42
  replace KX14 := KX14.on hb42
  replace KX20 := KX20.on hb42
  replace KR22 := KR22.on hb42
  replace KX27 := KX27.on hb42
  replace KR29 := KR29.on hb42
  replace KX38 := KX38.on hb42
  replace KQ41 := KQ41.on hb42
  refine ⟨_, rfl, KQ41.here, ?_⟩
  simp only [List.getElem_toArray, List.getElem_cons_zero, List.getElem_cons_succ, Act.put, List.setIfInBounds_toArray, List.set_cons_zero, List.set_cons_succ]
  refine step_call 3 23 #[.agg (pc b26 n1 n1 O1), .agg (pc b44 n1 n1 O1)] (by kernel_rfl) rfl rfl (by simp [go_sem]) ?_
  refine (eqProgramme_kp _ _ n1 n1 n1 F1 T1 O1 _ (by omega) (KX27.here) (KX45.here)).mono ?_
  rintro e w47 ⟨rfl, hb46⟩
  replace KB := KB.on hb46
  replace KH0 := KH0.on hb46
  replace KH1 := KH1.on hb46
  replace KR0 := KR0.on hb46
  replace KR1 := KR1.on hb46
  replace KX10 := KX10.on hb46
  replace KX14 := KX14.on hb46
  replace KX20 := KX20.on hb46
  replace KR22 := KR22.on hb46
  replace KX27 := KX27.on hb46
  replace KR29 := KR29.on hb46
  replace KX38 := KX38.on hb46
  replace KQ41 := KQ41.on hb46
  replace KX45 := KX45.on hb46
  refine ⟨_, rfl, KQ41.here, ?_⟩
  simp only [List.getElem_toArray, List.getElem_cons_zero, List.getElem_cons_succ, Act.put, List.setIfInBounds_toArray, List.set_cons_zero, List.set_cons_succ]
  refine take_val 4 (.bool false) rfl (by kernel_rfl) (by kernel_rfl) (by kernel_rfl) (fun _ _ _ h => h) rfl (fun V _ => by simp [go_sem]) KQ41.here ?_
  simp only [List.getElem_toArray, List.getElem_cons_zero, List.getElem_cons_succ, Act.put, List.setIfInBounds_toArray, List.set_cons_zero, List.set_cons_succ]
  refine wpAnyH_done (by kernel_rfl) ?_ _
  clear KQ41
  go_wp2_with fail
  go_ret
  exact ⟨rfl, KB.here⟩
end Go.Proofs.YteboefffkpcnaaaDoor
