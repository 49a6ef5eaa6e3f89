/- The law FnExactWholeChime: the walk, printed by lawgen.py. No conditions. -/
import Derived.Test.YteffaghcjpeblaaGreatKp
import Derived.Test.YteffaghcjpeblaaGreatWd
import Derived.Test.YteffaghcjpeblaaGreatMk1
import Derived.Test.YteffaghcjpeblaaGreatInt
import Derived.Outline
namespace Go.Proofs.YteffaghcjpeblaaGreat
open Go.RowKit
set_option linter.unusedVariables false
set_option linter.unusedSimpArgs false

set_option maxRecDepth 100000 in
set_option maxHeartbeats 4000000 in
theorem lawWholeChime (s0 : Int) (a0 : Option Addr) (n0 c0 : Nat) (P0 R0 : Nat → Int) (D1 : Nat → Nat) (a2 : Option Addr) (n2 c2 : Nat) (F2 T2 O2 : Nat → Int) (x3 : Int) (x4 : Int) (x5 : Int) (w : World) (hn0 : n0 ≤ 9223372036854775807) (hs0 : -32768 ≤ s0 ∧ s0 ≤ 32767) (hP0 : I8 P0) (hR0 : I8 R0) (hh0 : HamIn w a0 n0 P0 R0) (hD1 : D32 D1) (hn2 : n2 ≤ 9223372036854775807) (hF2 : I16 F2) (hT2 : I16 T2) (hO2 : I8 O2) (hh2 : SecIn w a2 n2 F2 T2) (hx3 : -9223372036854775808 ≤ x3 ∧ x3 ≤ 9223372036854775807) (hx4 : -9223372036854775808 ≤ x4 ∧ x4 ≤ 9223372036854775807) (hx5 : -9223372036854775808 ≤ x5 ∧ x5 ≤ 9223372036854775807) :
    Calls Tryz.prog 6 #[.agg #[.int .i16 s0, .slice a0 n0 c0], .agg (dc D1), .agg (pc a2 n2 c2 O2), .int .i64 x3, .int .i64 x4, .int .i64 x5] w fun e w' => e = .returned (.bool true) ∧ Below w.heap.size w w' := by
  have HP0 := Lib.hid hP0; clear hP0
  have HR0 := Lib.hid hR0; clear hR0
  have HD1 := Lib.hid hD1; clear hD1
  have HF2 := Lib.hid hF2; clear hF2
  have HT2 := Lib.hid hT2; clear hT2
  have HO2 := Lib.hid hO2; clear hO2
  have KB := Kp.base w
  have KH0 := kp_hamIn hh0; clear hh0
  have KH2 := kp_secIn hh2; clear hh2
  replace KB := KB.alloc (.cells #[.int .i16 s0, .slice a0 n0 c0] 25)
  replace KH0 := KH0.alloc (.cells #[.int .i16 s0, .slice a0 n0 c0] 25)
  replace KH2 := KH2.alloc (.cells #[.int .i16 s0, .slice a0 n0 c0] 25)
  have KR0 := kp_new1 w #[.int .i16 s0, .slice a0 n0 c0] 25 (g := w.heap.size) (by simp)
  replace KB := KB.alloc (.cells (dc D1) 28)
  replace KH0 := KH0.alloc (.cells (dc D1) 28)
  replace KH2 := KH2.alloc (.cells (dc D1) 28)
  replace KR0 := KR0.alloc (.cells (dc D1) 28)
  have KR1 := kp_newd (w.alloc (.cells #[.int .i16 s0, .slice a0 n0 c0] 25)) D1 28 (g := w.heap.size + 1) (by simp)
  replace KB := KB.alloc (.cells (pc a2 n2 c2 O2) 54)
  replace KH0 := KH0.alloc (.cells (pc a2 n2 c2 O2) 54)
  replace KH2 := KH2.alloc (.cells (pc a2 n2 c2 O2) 54)
  replace KR0 := KR0.alloc (.cells (pc a2 n2 c2 O2) 54)
  replace KR1 := KR1.alloc (.cells (pc a2 n2 c2 O2) 54)
  have KR2 := kp_new1 ((w.alloc (.cells #[.int .i16 s0, .slice a0 n0 c0] 25)).alloc (.cells (dc D1) 28)) (pc a2 n2 c2 O2) 54 (g := w.heap.size + 1 + 1) (by simp)
  go_enter Tryz.func6, Tryz.ntmps6
  go_wp2_with (first | (with_reducible refine load_lframe rfl _ rfl (w.heap.size) rfl _ s0 a0 n0 c0 KR0.here ?_) | (with_reducible refine load_arr rfl _ rfl (w.heap.size + 1) rfl _ D1 KR1.here ?_) | (with_reducible refine load_lprog rfl _ rfl (w.heap.size + 1 + 1) rfl _ a2 n2 c2 O2 KR2.here ?_))
  generalize (((w.alloc (.cells #[.int .i16 s0, .slice a0 n0 c0] 25)).alloc (.cells (dc D1) 28)).alloc (.cells (pc a2 n2 c2 O2) 54)) = w1 at KB KH0 KH2 KR0 KR1 KR2 ⊢
  refine (szFrame_kp s0 a0 n0 c0 (1048576) _ (by omega) (by omega)).mono ?_
  rintro e w3 ⟨rfl, hb2⟩
  replace KB := KB.on hb2
  replace KH0 := KH0.on hb2
  replace KH2 := KH2.on hb2
  replace KR0 := KR0.on hb2
  replace KR1 := KR1.on hb2
  replace KR2 := KR2.on hb2
  by_cases hlw3 : (1048576 : Int) < n0
  · rw [szOf_lt hlw3]
    go_wp2_with (first | (with_reducible refine load_lframe rfl _ rfl (w.heap.size) rfl _ s0 a0 n0 c0 KR0.here ?_) | (with_reducible refine load_arr rfl _ rfl (w.heap.size + 1) rfl _ D1 KR1.here ?_) | (with_reducible refine load_lprog rfl _ rfl (w.heap.size + 1 + 1) rfl _ a2 n2 c2 O2 KR2.here ?_))
    go_ret
    exact ⟨rfl, KB.here⟩
  rw [szOf_ge (by omega)]
  go_wp2_with (first | (with_reducible refine load_lframe rfl _ rfl (w.heap.size) rfl _ s0 a0 n0 c0 KR0.here ?_) | (with_reducible refine load_arr rfl _ rfl (w.heap.size + 1) rfl _ D1 KR1.here ?_) | (with_reducible refine load_lprog rfl _ rfl (w.heap.size + 1 + 1) rfl _ a2 n2 c2 O2 KR2.here ?_))
  refine (szProgramme_kp a2 n2 c2 O2 (1048576 - (n0 : Int)) _ (by omega) (by omega)).mono ?_
  rintro e w5 ⟨rfl, hb4⟩
  replace KB := KB.on hb4
  replace KH0 := KH0.on hb4
  replace KH2 := KH2.on hb4
  replace KR0 := KR0.on hb4
  replace KR1 := KR1.on hb4
  replace KR2 := KR2.on hb4
  by_cases hlw5 : (1048576 - (n0 : Int) : Int) < n2
  · rw [szOf_lt hlw5]
    go_wp2_with (first | (with_reducible refine load_lframe rfl _ rfl (w.heap.size) rfl _ s0 a0 n0 c0 KR0.here ?_) | (with_reducible refine load_arr rfl _ rfl (w.heap.size + 1) rfl _ D1 KR1.here ?_) | (with_reducible refine load_lprog rfl _ rfl (w.heap.size + 1 + 1) rfl _ a2 n2 c2 O2 KR2.here ?_))
    go_ret
    exact ⟨rfl, KB.here⟩
  rw [szOf_ge (by omega)]
  go_wp2_with (first | (with_reducible refine load_lframe rfl _ rfl (w.heap.size) rfl _ s0 a0 n0 c0 KR0.here ?_) | (with_reducible refine load_arr rfl _ rfl (w.heap.size + 1) rfl _ D1 KR1.here ?_) | (with_reducible refine load_lprog rfl _ rfl (w.heap.size + 1 + 1) rfl _ a2 n2 c2 O2 KR2.here ?_))
  refine wp_region_S (fun V => Below w5.heap.size w5 V) (by kernel_rfl) (Below.refl _ _).drew ?_
  refine take_val 0 (.agg #[.int .i16 s0, .slice a0 n0 c0]) rfl (by kernel_rfl) (by kernel_rfl) (by kernel_rfl) (fun _ _ _ h => h) rfl (fun V hV => ex_load_lframe _ rfl (w.heap.size) rfl _ s0 a0 n0 c0 (KR0.at hV)) (Below.refl _ _).drew ?_
  simp only [List.getElem_toArray, List.getElem_cons_zero, List.getElem_cons_succ, Act.put, List.setIfInBounds_toArray, List.set_cons_zero, List.set_cons_succ]
  refine take_val 2 (.agg (dc D1)) rfl (by kernel_rfl) (by kernel_rfl) (by kernel_rfl) (fun _ _ _ h => h) rfl (fun V hV => ex_load_arr _ rfl (w.heap.size + 1) rfl _ D1 (KR1.at hV)) (Below.refl _ _).drew ?_
  simp only [List.getElem_toArray, List.getElem_cons_zero, List.getElem_cons_succ, Act.put, List.setIfInBounds_toArray, List.set_cons_zero, List.set_cons_succ]
  refine take_val 4 (.agg (pc a2 n2 c2 O2)) rfl (by kernel_rfl) (by kernel_rfl) (by kernel_rfl) (fun _ _ _ h => h) rfl (fun V hV => ex_load_lprog _ rfl (w.heap.size + 1 + 1) rfl _ a2 n2 c2 O2 (KR2.at hV)) (Below.refl _ _).drew ?_
  simp only [List.getElem_toArray, List.getElem_cons_zero, List.getElem_cons_succ, Act.put, List.setIfInBounds_toArray, List.set_cons_zero, List.set_cons_succ]
  refine take_val 6 (.int .i64 x3) rfl (by kernel_rfl) (by kernel_rfl) (by kernel_rfl) (fun _ _ _ h => h) rfl (fun V _ => by simp [go_sem]) (Below.refl _ _).drew ?_
  simp only [List.getElem_toArray, List.getElem_cons_zero, List.getElem_cons_succ, Act.put, List.setIfInBounds_toArray, List.set_cons_zero, List.set_cons_succ]
  refine take_val 7 (.int .i64 x4) rfl (by kernel_rfl) (by kernel_rfl) (by kernel_rfl) (fun _ _ _ h => h) rfl (fun V _ => by simp [go_sem]) (Below.refl _ _).drew ?_
  simp only [List.getElem_toArray, List.getElem_cons_zero, List.getElem_cons_succ, Act.put, List.setIfInBounds_toArray, List.set_cons_zero, List.set_cons_succ]
  refine take_val 8 (.int .i64 x5) rfl (by kernel_rfl) (by kernel_rfl) (by kernel_rfl) (fun _ _ _ h => h) rfl (fun V _ => by simp [go_sem]) (Below.refl _ _).drew ?_
  simp only [List.getElem_toArray, List.getElem_cons_zero, List.getElem_cons_succ, Act.put, List.setIfInBounds_toArray, List.set_cons_zero, List.set_cons_succ]
  have KQ6 := kp_start w5; have hdKQ6 := below_drew w5
  replace KB := KB.on hdKQ6
  replace KH0 := KH0.on hdKQ6
  replace KH2 := KH2.on hdKQ6
  replace KR0 := KR0.on hdKQ6
  replace KR1 := KR1.on hdKQ6
  replace KR2 := KR2.on hdKQ6
  clear hdKQ6
  refine step_call 1 10 #[.agg #[.int .i16 s0, .slice a0 n0 c0]] (by kernel_rfl) rfl rfl (by simp [go_sem]) ?_
  refine (toFrame_kp s0 a0 n0 c0 P0 R0 _ (by omega) hs0 (KH0.here)).mono ?_
  rintro e w8 ⟨b9, rfl, hb7, KX10⟩
  replace KB := KB.on hb7
  replace KH0 := KH0.on hb7
  replace KH2 := KH2.on hb7
  replace KR0 := KR0.on hb7
  replace KR1 := KR1.on hb7
  replace KR2 := KR2.on hb7
  replace KQ6 := KQ6.on hb7
  refine ⟨_, rfl, KQ6.here, ?_⟩
  simp only [List.getElem_toArray, List.getElem_cons_zero, List.getElem_cons_succ, Act.put, List.setIfInBounds_toArray, List.set_cons_zero, List.set_cons_succ]
  refine step_call 3 12 #[.agg (dc D1)] (by kernel_rfl) rfl rfl (by simp [go_sem]) ?_
  refine (toDrum_any D1 _).mono ?_
  rintro e w12 ⟨rfl, hb11⟩
  replace KB := KB.on hb11
  replace KH0 := KH0.on hb11
  replace KH2 := KH2.on hb11
  replace KR0 := KR0.on hb11
  replace KR1 := KR1.on hb11
  replace KR2 := KR2.on hb11
  replace KQ6 := KQ6.on hb11
  replace KX10 := KX10.on hb11
  refine ⟨_, rfl, KQ6.here, ?_⟩
  simp only [List.getElem_toArray, List.getElem_cons_zero, List.getElem_cons_succ, Act.put, List.setIfInBounds_toArray, List.set_cons_zero, List.set_cons_succ]
  refine step_call 5 23 #[.agg (pc a2 n2 c2 O2)] (by kernel_rfl) rfl rfl (by simp [go_sem]) ?_
  refine (toProgramme_kp a2 n2 c2 F2 T2 O2 _ (by omega) (KH2.here)).mono ?_
  rintro e w14 ⟨b15, rfl, hb13, KX16⟩
  replace KB := KB.on hb13
  replace KH0 := KH0.on hb13
  replace KH2 := KH2.on hb13
  replace KR0 := KR0.on hb13
  replace KR1 := KR1.on hb13
  replace KR2 := KR2.on hb13
  replace KQ6 := KQ6.on hb13
  replace KX10 := KX10.on hb13
  refine ⟨_, rfl, KQ6.here, ?_⟩
  simp only [List.getElem_toArray, List.getElem_cons_zero, List.getElem_cons_succ, Act.put, List.setIfInBounds_toArray, List.set_cons_zero, List.set_cons_succ]
  refine step_call 9 30 #[.agg #[.int .i16 s0, .slice b9 n0 n0], .agg (dc D1), .agg (pc b15 n2 n2 O2), .int .i64 x3, .int .i64 x4, .int .i64 x5] (by kernel_rfl) rfl rfl (by simp [go_sem]) ?_
  obtain ⟨r0, hr0⟩ : ∃ r, r = wcV s0 n0 P0 R0 D1 n2 F2 T2 O2 x3 x4 x5 := ⟨_, rfl⟩
  obtain ⟨r1, hr1⟩ : ∃ r, r = wcC s0 n0 P0 R0 D1 n2 F2 T2 O2 x3 x4 x5 := ⟨_, rfl⟩
  have hlr0 : r0.length ≤ 1000000 := by rw [hr0]; apply wcV_len
  refine (specWholeChime_any s0 b9 n0 n0 P0 R0 D1 b15 n2 n2 F2 T2 O2 x3 x4 x5 _ hs0 (by omega) HP0.out HR0.out (KX10.here) HD1.out (by omega) HF2.out HT2.out HO2.out (KX16.here) hx3 hx4 hx5).mono ?_
  rw [← hr0, ← hr1]
  rintro e w18 ⟨v19, rfl, hb17, ho20⟩
  have HR_0 := Lib.hid hr0; clear hr0
  have HR_1 := Lib.hid hr1; clear hr1
  obtain ⟨b21, c22, rfl, hz23⟩ := OwnN.at ho20
  have KW24 := kp_note hz23; clear hz23 ho20
  replace KB := KB.on hb17
  replace KH0 := KH0.on hb17
  replace KH2 := KH2.on hb17
  replace KR0 := KR0.on hb17
  replace KR1 := KR1.on hb17
  replace KR2 := KR2.on hb17
  replace KQ6 := KQ6.on hb17
  replace KX10 := KX10.on hb17
  replace KX16 := KX16.on hb17
  refine ⟨_, rfl, KQ6.here, ?_⟩
  simp only [List.getElem_toArray, List.getElem_cons_zero, List.getElem_cons_succ, Act.put, List.setIfInBounds_toArray, List.set_cons_zero, List.set_cons_succ]
  refine take_val 10 (.tuple #[.slice b21 r0.length c22, .int .i64 r1]) rfl (by kernel_rfl) (by kernel_rfl) (by kernel_rfl) (fun _ _ _ h => h) rfl (fun V _ => by simp [go_sem]) KQ6.here ?_
  simp only [List.getElem_toArray, List.getElem_cons_zero, List.getElem_cons_succ, Act.put, List.setIfInBounds_toArray, List.set_cons_zero, List.set_cons_succ]
  refine take_val 11 (.slice b21 r0.length c22) rfl (by kernel_rfl) (by kernel_rfl) (by kernel_rfl) (fun _ _ _ h => h) rfl (fun V _ => by simp [go_sem]) KQ6.here ?_
  simp only [List.getElem_toArray, List.getElem_cons_zero, List.getElem_cons_succ, Act.put, List.setIfInBounds_toArray, List.set_cons_zero, List.set_cons_succ]
  refine take_val 12 (.int .i64 r1) rfl (by kernel_rfl) (by kernel_rfl) (by kernel_rfl) (fun _ _ _ h => h) rfl (fun V _ => by simp [go_sem]) KQ6.here ?_
  simp only [List.getElem_toArray, List.getElem_cons_zero, List.getElem_cons_succ, Act.put, List.setIfInBounds_toArray, List.set_cons_zero, List.set_cons_succ]
  refine take_val 13 (.slice b21 r0.length c22) rfl (by kernel_rfl) (by kernel_rfl) (by kernel_rfl) (fun _ _ _ h => h) rfl (fun V _ => by simp [go_sem]) KQ6.here ?_
  simp only [List.getElem_toArray, List.getElem_cons_zero, List.getElem_cons_succ, Act.put, List.setIfInBounds_toArray, List.set_cons_zero, List.set_cons_succ]
  refine take_val 14 (.int .i64 r1) rfl (by kernel_rfl) (by kernel_rfl) (by kernel_rfl) (fun _ _ _ h => h) rfl (fun V _ => by simp [go_sem]) KQ6.here ?_
  simp only [List.getElem_toArray, List.getElem_cons_zero, List.getElem_cons_succ, Act.put, List.setIfInBounds_toArray, List.set_cons_zero, List.set_cons_succ]
  refine wpAnyH_done (by kernel_rfl) ?_ _
  clear KQ6
  go_wp2_with (first | (with_reducible refine load_lframe rfl _ rfl (w.heap.size) rfl _ s0 a0 n0 c0 KR0.here ?_) | (with_reducible refine load_arr rfl _ rfl (w.heap.size + 1) rfl _ D1 KR1.here ?_) | (with_reducible refine load_lprog rfl _ rfl (w.heap.size + 1 + 1) rfl _ a2 n2 c2 O2 KR2.here ?_))
  replace KB := KB.fix
  replace KH0 := KH0.fix
  replace KH2 := KH2.fix
  replace KR0 := KR0.fix
  replace KR1 := KR1.fix
  replace KR2 := KR2.fix
  replace KX10 := KX10.fix
  replace KX16 := KX16.fix
  replace KW24 := KW24.fix
  refine (toFrame_own s0 a0 n0 c0 P0 R0 _ (by omega) hs0 (KH0.here)).mono ?_
  rintro e w26 ⟨b27, rfl, hb25, KX28, xs32, KO29⟩
  have hlt30 := (KO29.here).lt; have hsz31 := hb25.size
  replace KB := KB.on hb25
  replace KH0 := KH0.on hb25
  replace KH2 := KH2.on hb25
  replace KR0 := KR0.on hb25
  replace KR1 := KR1.on hb25
  replace KR2 := KR2.on hb25
  replace KX10 := KX10.on hb25
  replace KX16 := KX16.on hb25
  replace KW24 := KW24.on hb25
  replace KB := KB.alloc (.cells #[.int .i16 s0, .slice b27 n0 n0] 36)
  replace KH0 := KH0.alloc (.cells #[.int .i16 s0, .slice b27 n0 n0] 36)
  replace KH2 := KH2.alloc (.cells #[.int .i16 s0, .slice b27 n0 n0] 36)
  replace KR0 := KR0.alloc (.cells #[.int .i16 s0, .slice b27 n0 n0] 36)
  replace KR1 := KR1.alloc (.cells #[.int .i16 s0, .slice b27 n0 n0] 36)
  replace KR2 := KR2.alloc (.cells #[.int .i16 s0, .slice b27 n0 n0] 36)
  replace KX10 := KX10.alloc (.cells #[.int .i16 s0, .slice b27 n0 n0] 36)
  replace KX16 := KX16.alloc (.cells #[.int .i16 s0, .slice b27 n0 n0] 36)
  replace KW24 := KW24.alloc (.cells #[.int .i16 s0, .slice b27 n0 n0] 36)
  replace KX28 := KX28.alloc (.cells #[.int .i16 s0, .slice b27 n0 n0] 36)
  replace KO29 := KO29.alloc (.cells #[.int .i16 s0, .slice b27 n0 n0] 36)
  have KR34 := kp_new1 w26 #[.int .i16 s0, .slice b27 n0 n0] 36 (g := w26.heap.size) rfl
  have hsz35 : w26.heap.size < (w26.alloc (.cells #[.int .i16 s0, .slice b27 n0 n0] 36)).heap.size := by simp
  go_wp2_with (first | (with_reducible refine load_lframe rfl _ rfl (w.heap.size) rfl _ s0 a0 n0 c0 KR0.here ?_) | (with_reducible refine load_arr rfl _ rfl (w.heap.size + 1) rfl _ D1 KR1.here ?_) | (with_reducible refine load_lprog rfl _ rfl (w.heap.size + 1 + 1) rfl _ a2 n2 c2 O2 KR2.here ?_) | (with_reducible refine load_iframe rfl _ rfl (w26.heap.size) rfl _ s0 b27 n0 n0 KR34.here ?_))
  generalize (w26.alloc (.cells #[.int .i16 s0, .slice b27 n0 n0] 36)) = w36 at KB KH0 KH2 KR0 KR1 KR2 KX10 KX16 KW24 KX28 KO29 KR34 hsz35 ⊢
  refine (toProgramme_own a2 n2 c2 F2 T2 O2 _ (by omega) (KH2.here)).mono ?_
  rintro e w38 ⟨b39, rfl, hb37, KX40, xs44, KO41⟩
  have hlt42 := (KO41.here).lt; have hsz43 := hb37.size
  replace KB := KB.on hb37
  replace KH0 := KH0.on hb37
  replace KH2 := KH2.on hb37
  replace KR0 := KR0.on hb37
  replace KR1 := KR1.on hb37
  replace KR2 := KR2.on hb37
  replace KX10 := KX10.on hb37
  replace KX16 := KX16.on hb37
  replace KW24 := KW24.on hb37
  replace KX28 := KX28.on hb37
  replace KO29 := KO29.on hb37
  replace KR34 := KR34.on hb37
  go_wp2_with (first | (with_reducible refine copy_prog rfl rfl rfl _ _ rfl b39 n2 n2 O2 rfl rfl ?_; intro w47 hn48 hn48s hn48g; have hn48z := Nat.le_of_eq hn48s.symm; clear hn48s; replace KB := KB.on hn48; replace KH0 := KH0.on hn48; replace KH2 := KH2.on hn48; replace KR0 := KR0.on hn48; replace KR1 := KR1.on hn48; replace KR2 := KR2.on hn48; replace KX10 := KX10.on hn48; replace KX16 := KX16.on hn48; replace KW24 := KW24.on hn48; replace KX28 := KX28.on hn48; replace KO29 := KO29.on hn48; replace KR34 := KR34.on hn48; replace KX40 := KX40.on hn48; replace KO41 := KO41.on hn48; have KR46 := kp_row hn48g; clear hn48 hn48g) | (with_reducible refine load_lframe rfl _ rfl (w.heap.size) rfl _ s0 a0 n0 c0 KR0.here ?_) | (with_reducible refine load_arr rfl _ rfl (w.heap.size + 1) rfl _ D1 KR1.here ?_) | (with_reducible refine load_lprog rfl _ rfl (w.heap.size + 1 + 1) rfl _ a2 n2 c2 O2 KR2.here ?_) | (with_reducible refine load_iframe rfl _ rfl (w26.heap.size) rfl _ s0 b27 n0 n0 KR34.here ?_) | (with_reducible refine load_iprog rfl _ rfl (w38.heap.size) rfl _ b39 n2 n2 O2 KR46.here ?_))
  refine wp_region_S (fun V => Below w47.heap.size w47 V) (by kernel_rfl) (Below.refl _ _).drew ?_
  refine take_val 0 (.agg #[.int .i16 s0, .slice b27 n0 n0]) rfl (by kernel_rfl) (by kernel_rfl) (by kernel_rfl) (fun _ _ _ h => h) rfl (fun V hV => ex_load_iframe _ rfl (w26.heap.size) rfl _ s0 b27 n0 n0 (KR34.at hV)) (Below.refl _ _).drew ?_
  simp only [List.getElem_toArray, List.getElem_cons_zero, List.getElem_cons_succ, Act.put, List.setIfInBounds_toArray, List.set_cons_zero, List.set_cons_succ]
  refine take_val 1 (.agg (dc D1)) rfl (by kernel_rfl) (by kernel_rfl) (by kernel_rfl) (fun _ _ _ h => h) rfl (fun V hV => ex_load_arr _ rfl (w.heap.size + 1) rfl _ D1 (KR1.at hV)) (Below.refl _ _).drew ?_
  simp only [List.getElem_toArray, List.getElem_cons_zero, List.getElem_cons_succ, Act.put, List.setIfInBounds_toArray, List.set_cons_zero, List.set_cons_succ]
  refine take_val 3 (.agg (pc b39 n2 n2 O2)) rfl (by kernel_rfl) (by kernel_rfl) (by kernel_rfl) (fun _ _ _ h => h) rfl (fun V hV => ex_load_iprog _ rfl (w38.heap.size) rfl _ b39 n2 n2 O2 (KR46.at hV)) (Below.refl _ _).drew ?_
  simp only [List.getElem_toArray, List.getElem_cons_zero, List.getElem_cons_succ, Act.put, List.setIfInBounds_toArray, List.set_cons_zero, List.set_cons_succ]
  refine take_val 4 (.int .i64 x3) rfl (by kernel_rfl) (by kernel_rfl) (by kernel_rfl) (fun _ _ _ h => h) rfl (fun V _ => by simp [go_sem]) (Below.refl _ _).drew ?_
  simp only [List.getElem_toArray, List.getElem_cons_zero, List.getElem_cons_succ, Act.put, List.setIfInBounds_toArray, List.set_cons_zero, List.set_cons_succ]
  refine take_val 5 (.int .i64 x4) rfl (by kernel_rfl) (by kernel_rfl) (by kernel_rfl) (fun _ _ _ h => h) rfl (fun V _ => by simp [go_sem]) (Below.refl _ _).drew ?_
  simp only [List.getElem_toArray, List.getElem_cons_zero, List.getElem_cons_succ, Act.put, List.setIfInBounds_toArray, List.set_cons_zero, List.set_cons_succ]
  refine take_val 6 (.int .i64 x5) rfl (by kernel_rfl) (by kernel_rfl) (by kernel_rfl) (fun _ _ _ h => h) rfl (fun V _ => by simp [go_sem]) (Below.refl _ _).drew ?_
  simp only [List.getElem_toArray, List.getElem_cons_zero, List.getElem_cons_succ, Act.put, List.setIfInBounds_toArray, List.set_cons_zero, List.set_cons_succ]
  have KQ49 := kp_start w47; have hdKQ49 := below_drew w47
  have hsz50 := hdKQ49.size
  replace KB := KB.on hdKQ49
  replace KH0 := KH0.on hdKQ49
  replace KH2 := KH2.on hdKQ49
  replace KR0 := KR0.on hdKQ49
  replace KR1 := KR1.on hdKQ49
  replace KR2 := KR2.on hdKQ49
  replace KX10 := KX10.on hdKQ49
  replace KX16 := KX16.on hdKQ49
  replace KW24 := KW24.on hdKQ49
  replace KX28 := KX28.on hdKQ49
  replace KO29 := KO29.on hdKQ49
  replace KR34 := KR34.on hdKQ49
  replace KX40 := KX40.on hdKQ49
  replace KO41 := KO41.on hdKQ49
  replace KR46 := KR46.on hdKQ49
  clear hdKQ49
  refine step_call 2 12 #[.agg (dc D1)] (by kernel_rfl) rfl rfl (by simp [go_sem]) ?_
  refine (toDrum_any D1 _).mono ?_
  rintro e w52 ⟨rfl, hb51⟩
  have hsz53 := hb51.size
  replace KB := KB.on hb51
  replace KH0 := KH0.on hb51
  replace KH2 := KH2.on hb51
  replace KR0 := KR0.on hb51
  replace KR1 := KR1.on hb51
  replace KR2 := KR2.on hb51
  replace KX10 := KX10.on hb51
  replace KX16 := KX16.on hb51
  replace KW24 := KW24.on hb51
  replace KX28 := KX28.on hb51
  replace KO29 := KO29.on hb51
  replace KR34 := KR34.on hb51
  replace KX40 := KX40.on hb51
  replace KO41 := KO41.on hb51
  replace KR46 := KR46.on hb51
  replace KQ49 := KQ49.on hb51
  refine ⟨_, rfl, KQ49.here, ?_⟩
  simp only [List.getElem_toArray, List.getElem_cons_zero, List.getElem_cons_succ, Act.put, List.setIfInBounds_toArray, List.set_cons_zero, List.set_cons_succ]
  refine step_call 7 31 #[.agg #[.int .i16 s0, .slice b27 n0 n0], .agg (dc D1), .agg (pc b39 n2 n2 O2), .int .i64 x3, .int .i64 x4, .int .i64 x5] (by kernel_rfl) rfl rfl (by simp [go_sem]) ?_
  refine (implWholeChime_any s0 b27 n0 n0 P0 R0 D1 b39 n2 n2 F2 T2 O2 x3 x4 x5 _ hs0 (by omega) HP0.out HR0.out (KX28.here) HD1.out (by omega) HF2.out HT2.out HO2.out (KX40.here) hx3 hx4 hx5).mono ?_
  rw [← HR_0.out, ← HR_1.out]
  rintro e w55 ⟨v56, rfl, hb54, ho57⟩
  obtain ⟨b58, c59, rfl, hz60⟩ := OwnN.at ho57
  have hlt62 := ho57.lt; have KG61 := kp_OwnN ho57; clear hz60
  clear ho57
  have hsz63 := hb54.size
  replace KB := KB.on hb54
  replace KH0 := KH0.on hb54
  replace KH2 := KH2.on hb54
  replace KR0 := KR0.on hb54
  replace KR1 := KR1.on hb54
  replace KR2 := KR2.on hb54
  replace KX10 := KX10.on hb54
  replace KX16 := KX16.on hb54
  replace KW24 := KW24.on hb54
  replace KX28 := KX28.on hb54
  replace KO29 := KO29.on hb54
  replace KR34 := KR34.on hb54
  replace KX40 := KX40.on hb54
  replace KO41 := KO41.on hb54
  replace KR46 := KR46.on hb54
  replace KQ49 := KQ49.on hb54
  refine ⟨_, rfl, KQ49.here, ?_⟩
  simp only [List.getElem_toArray, List.getElem_cons_zero, List.getElem_cons_succ, Act.put, List.setIfInBounds_toArray, List.set_cons_zero, List.set_cons_succ]
  refine take_val 8 (.tuple #[.slice b58 r0.length c59, .int .i64 r1]) rfl (by kernel_rfl) (by kernel_rfl) (by kernel_rfl) (fun _ _ _ h => h) rfl (fun V _ => by simp [go_sem]) KQ49.here ?_
  simp only [List.getElem_toArray, List.getElem_cons_zero, List.getElem_cons_succ, Act.put, List.setIfInBounds_toArray, List.set_cons_zero, List.set_cons_succ]
  refine take_val 9 (.slice b58 r0.length c59) rfl (by kernel_rfl) (by kernel_rfl) (by kernel_rfl) (fun _ _ _ h => h) rfl (fun V _ => by simp [go_sem]) KQ49.here ?_
  simp only [List.getElem_toArray, List.getElem_cons_zero, List.getElem_cons_succ, Act.put, List.setIfInBounds_toArray, List.set_cons_zero, List.set_cons_succ]
  refine take_val 10 (.int .i64 r1) rfl (by kernel_rfl) (by kernel_rfl) (by kernel_rfl) (fun _ _ _ h => h) rfl (fun V _ => by simp [go_sem]) KQ49.here ?_
  simp only [List.getElem_toArray, List.getElem_cons_zero, List.getElem_cons_succ, Act.put, List.setIfInBounds_toArray, List.set_cons_zero, List.set_cons_succ]
  refine take_val 11 (.slice b58 r0.length c59) rfl (by kernel_rfl) (by kernel_rfl) (by kernel_rfl) (fun _ _ _ h => h) rfl (fun V _ => by simp [go_sem]) KQ49.here ?_
  simp only [List.getElem_toArray, List.getElem_cons_zero, List.getElem_cons_succ, Act.put, List.setIfInBounds_toArray, List.set_cons_zero, List.set_cons_succ]
  refine take_val 12 (.int .i64 r1) rfl (by kernel_rfl) (by kernel_rfl) (by kernel_rfl) (fun _ _ _ h => h) rfl (fun V _ => by simp [go_sem]) KQ49.here ?_
  simp only [List.getElem_toArray, List.getElem_cons_zero, List.getElem_cons_succ, Act.put, List.setIfInBounds_toArray, List.set_cons_zero, List.set_cons_succ]
  refine wpAnyH_done (by kernel_rfl) ?_ _
  clear KQ49
  go_wp2_with (first | (with_reducible refine load_lframe rfl _ rfl (w.heap.size) rfl _ s0 a0 n0 c0 KR0.here ?_) | (with_reducible refine load_arr rfl _ rfl (w.heap.size + 1) rfl _ D1 KR1.here ?_) | (with_reducible refine load_lprog rfl _ rfl (w.heap.size + 1 + 1) rfl _ a2 n2 c2 O2 KR2.here ?_) | (with_reducible refine load_iframe rfl _ rfl (w26.heap.size) rfl _ s0 b27 n0 n0 KR34.here ?_) | (with_reducible refine load_iprog rfl _ rfl (w38.heap.size) rfl _ b39 n2 n2 O2 KR46.here ?_))
  refine (eqTune_kp b58 b21 r0.length c59 c22 (fun i => (r0.getD i (0, 0)).1) (fun i => (r0.getD i (0, 0)).2) _ (by omega) (KG61.here).readAt (KW24.here)).mono ?_
  rintro e w65 ⟨rfl, hb64⟩
  replace KB := KB.on hb64
  replace KH0 := KH0.on hb64
  replace KH2 := KH2.on hb64
  replace KR0 := KR0.on hb64
  replace KR1 := KR1.on hb64
  replace KR2 := KR2.on hb64
  replace KX10 := KX10.on hb64
  replace KX16 := KX16.on hb64
  replace KW24 := KW24.on hb64
  replace KX28 := KX28.on hb64
  replace KO29 := KO29.on hb64
  replace KR34 := KR34.on hb64
  replace KX40 := KX40.on hb64
  replace KO41 := KO41.on hb64
  replace KR46 := KR46.on hb64
  replace KG61 := KG61.on hb64
  go_wp2_with (first | (with_reducible refine load_lframe rfl _ rfl (w.heap.size) rfl _ s0 a0 n0 c0 KR0.here ?_) | (with_reducible refine load_arr rfl _ rfl (w.heap.size + 1) rfl _ D1 KR1.here ?_) | (with_reducible refine load_lprog rfl _ rfl (w.heap.size + 1 + 1) rfl _ a2 n2 c2 O2 KR2.here ?_) | (with_reducible refine load_iframe rfl _ rfl (w26.heap.size) rfl _ s0 b27 n0 n0 KR34.here ?_) | (with_reducible refine load_iprog rfl _ rfl (w38.heap.size) rfl _ b39 n2 n2 O2 KR46.here ?_))
  refine wp_region_S (fun V => Below w65.heap.size w65 V) (by kernel_rfl) (Below.refl _ _).drew ?_
  refine take_val 0 (.agg #[.int .i16 s0, .slice b27 n0 n0]) rfl (by kernel_rfl) (by kernel_rfl) (by kernel_rfl) (fun _ _ _ h => h) rfl (fun V hV => ex_load_iframe _ rfl (w26.heap.size) rfl _ s0 b27 n0 n0 (KR34.at hV)) (Below.refl _ _).drew ?_
  simp only [List.getElem_toArray, List.getElem_cons_zero, List.getElem_cons_succ, Act.put, List.setIfInBounds_toArray, List.set_cons_zero, List.set_cons_succ]
  refine take_val 1 (.agg #[.int .i16 s0, .slice a0 n0 c0]) rfl (by kernel_rfl) (by kernel_rfl) (by kernel_rfl) (fun _ _ _ h => h) rfl (fun V hV => ex_load_lframe _ rfl (w.heap.size) rfl _ s0 a0 n0 c0 (KR0.at hV)) (Below.refl _ _).drew ?_
  simp only [List.getElem_toArray, List.getElem_cons_zero, List.getElem_cons_succ, Act.put, List.setIfInBounds_toArray, List.set_cons_zero, List.set_cons_succ]
  have KQ66 := kp_start w65; have hdKQ66 := below_drew w65
  replace KB := KB.on hdKQ66
  replace KH0 := KH0.on hdKQ66
  replace KH2 := KH2.on hdKQ66
  replace KR0 := KR0.on hdKQ66
  replace KR1 := KR1.on hdKQ66
  replace KR2 := KR2.on hdKQ66
  replace KX10 := KX10.on hdKQ66
  replace KX16 := KX16.on hdKQ66
  replace KW24 := KW24.on hdKQ66
  replace KX28 := KX28.on hdKQ66
  replace KO29 := KO29.on hdKQ66
  replace KR34 := KR34.on hdKQ66
  replace KX40 := KX40.on hdKQ66
  replace KO41 := KO41.on hdKQ66
  replace KR46 := KR46.on hdKQ66
  replace KG61 := KG61.on hdKQ66
  clear hdKQ66
  refine step_call 2 10 #[.agg #[.int .i16 s0, .slice a0 n0 c0]] (by kernel_rfl) rfl rfl (by simp [go_sem]) ?_
  refine (toFrame_kp s0 a0 n0 c0 P0 R0 _ (by omega) hs0 (KH0.here)).mono ?_
  rintro e w68 ⟨b69, rfl, hb67, KX70⟩
  replace KB := KB.on hb67
  replace KH0 := KH0.on hb67
  replace KH2 := KH2.on hb67
  replace KR0 := KR0.on hb67
  replace KR1 := KR1.on hb67
  replace KR2 := KR2.on hb67
  replace KX10 := KX10.on hb67
  replace KX16 := KX16.on hb67
  replace KW24 := KW24.on hb67
  replace KX28 := KX28.on hb67
  replace KO29 := KO29.on hb67
  replace KR34 := KR34.on hb67
  replace KX40 := KX40.on hb67
  replace KO41 := KO41.on hb67
  replace KR46 := KR46.on hb67
  replace KG61 := KG61.on hb67
  replace KQ66 := KQ66.on hb67
  refine ⟨_, rfl, KQ66.here, ?_⟩
  simp only [List.getElem_toArray, List.getElem_cons_zero, List.getElem_cons_succ, Act.put, List.setIfInBounds_toArray, List.set_cons_zero, List.set_cons_succ]
  refine step_call 3 15 #[.agg #[.int .i16 s0, .slice b27 n0 n0], .agg #[.int .i16 s0, .slice b69 n0 n0]] (by kernel_rfl) rfl rfl (by simp [go_sem]) ?_
  refine (eqFrame_kp s0 _ _ n0 n0 n0 P0 R0 _ (by omega) (KX28.here) (KX70.here)).mono ?_
  rintro e w72 ⟨rfl, hb71⟩
  replace KB := KB.on hb71
  replace KH0 := KH0.on hb71
  replace KH2 := KH2.on hb71
  replace KR0 := KR0.on hb71
  replace KR1 := KR1.on hb71
  replace KR2 := KR2.on hb71
  replace KX10 := KX10.on hb71
  replace KX16 := KX16.on hb71
  replace KW24 := KW24.on hb71
  replace KX28 := KX28.on hb71
  replace KO29 := KO29.on hb71
  replace KR34 := KR34.on hb71
  replace KX40 := KX40.on hb71
  replace KO41 := KO41.on hb71
  replace KR46 := KR46.on hb71
  replace KG61 := KG61.on hb71
  replace KQ66 := KQ66.on hb71
  replace KX70 := KX70.on hb71
  refine ⟨_, rfl, KQ66.here, ?_⟩
  simp only [List.getElem_toArray, List.getElem_cons_zero, List.getElem_cons_succ, Act.put, List.setIfInBounds_toArray, List.set_cons_zero, List.set_cons_succ]
  refine take_val 4 (.bool false) rfl (by kernel_rfl) (by kernel_rfl) (by kernel_rfl) (fun _ _ _ h => h) rfl (fun V _ => by simp [go_sem]) KQ66.here ?_
  simp only [List.getElem_toArray, List.getElem_cons_zero, List.getElem_cons_succ, Act.put, List.setIfInBounds_toArray, List.set_cons_zero, List.set_cons_succ]
  refine wpAnyH_done (by kernel_rfl) ?_ _
  clear KQ66
  go_wp2_with (first | (with_reducible refine load_lframe rfl _ rfl (w.heap.size) rfl _ s0 a0 n0 c0 KR0.here ?_) | (with_reducible refine load_arr rfl _ rfl (w.heap.size + 1) rfl _ D1 KR1.here ?_) | (with_reducible refine load_lprog rfl _ rfl (w.heap.size + 1 + 1) rfl _ a2 n2 c2 O2 KR2.here ?_) | (with_reducible refine load_iframe rfl _ rfl (w26.heap.size) rfl _ s0 b27 n0 n0 KR34.here ?_) | (with_reducible refine load_iprog rfl _ rfl (w38.heap.size) rfl _ b39 n2 n2 O2 KR46.here ?_))
  refine wp_region_S (fun V => Below w72.heap.size w72 V) (by kernel_rfl) (Below.refl _ _).drew ?_
  refine take_val 0 (.agg (pc b39 n2 n2 O2)) rfl (by kernel_rfl) (by kernel_rfl) (by kernel_rfl) (fun _ _ _ h => h) rfl (fun V hV => ex_load_iprog _ rfl (w38.heap.size) rfl _ b39 n2 n2 O2 (KR46.at hV)) (Below.refl _ _).drew ?_
  simp only [List.getElem_toArray, List.getElem_cons_zero, List.getElem_cons_succ, Act.put, List.setIfInBounds_toArray, List.set_cons_zero, List.set_cons_succ]
  refine take_val 1 (.agg (pc a2 n2 c2 O2)) rfl (by kernel_rfl) (by kernel_rfl) (by kernel_rfl) (fun _ _ _ h => h) rfl (fun V hV => ex_load_lprog _ rfl (w.heap.size + 1 + 1) rfl _ a2 n2 c2 O2 (KR2.at hV)) (Below.refl _ _).drew ?_
  simp only [List.getElem_toArray, List.getElem_cons_zero, List.getElem_cons_succ, Act.put, List.setIfInBounds_toArray, List.set_cons_zero, List.set_cons_succ]
  have KQ73 := kp_start w72; have hdKQ73 := below_drew w72
  replace KB := KB.on hdKQ73
  replace KH0 := KH0.on hdKQ73
  replace KH2 := KH2.on hdKQ73
  replace KR0 := KR0.on hdKQ73
  replace KR1 := KR1.on hdKQ73
  replace KR2 := KR2.on hdKQ73
  replace KX10 := KX10.on hdKQ73
  replace KX16 := KX16.on hdKQ73
  replace KW24 := KW24.on hdKQ73
  replace KX28 := KX28.on hdKQ73
  replace KO29 := KO29.on hdKQ73
  replace KR34 := KR34.on hdKQ73
  replace KX40 := KX40.on hdKQ73
  replace KO41 := KO41.on hdKQ73
  replace KR46 := KR46.on hdKQ73
  replace KG61 := KG61.on hdKQ73
  replace KX70 := KX70.on hdKQ73
  clear hdKQ73
  refine step_call 2 23 #[.agg (pc a2 n2 c2 O2)] (by kernel_rfl) rfl rfl (by simp [go_sem]) ?_
  refine (toProgramme_kp a2 n2 c2 F2 T2 O2 _ (by omega) (KH2.here)).mono ?_
  rintro e w75 ⟨b76, rfl, hb74, KX77⟩
  replace KB := KB.on hb74
  replace KH0 := KH0.on hb74
  replace KH2 := KH2.on hb74
  replace KR0 := KR0.on hb74
  replace KR1 := KR1.on hb74
  replace KR2 := KR2.on hb74
  replace KX10 := KX10.on hb74
  replace KX16 := KX16.on hb74
  replace KW24 := KW24.on hb74
  replace KX28 := KX28.on hb74
  replace KO29 := KO29.on hb74
  replace KR34 := KR34.on hb74
  replace KX40 := KX40.on hb74
  replace KO41 := KO41.on hb74
  replace KR46 := KR46.on hb74
  replace KG61 := KG61.on hb74
  replace KX70 := KX70.on hb74
  replace KQ73 := KQ73.on hb74
  refine ⟨_, rfl, KQ73.here, ?_⟩
  simp only [List.getElem_toArray, List.getElem_cons_zero, List.getElem_cons_succ, Act.put, List.setIfInBounds_toArray, List.set_cons_zero, List.set_cons_succ]
  refine step_call 3 25 #[.agg (pc b39 n2 n2 O2), .agg (pc b76 n2 n2 O2)] (by kernel_rfl) rfl rfl (by simp [go_sem]) ?_
  refine (eqProgramme_kp _ _ n2 n2 n2 F2 T2 O2 _ (by omega) (KX40.here) (KX77.here)).mono ?_
  rintro e w79 ⟨rfl, hb78⟩
  replace KB := KB.on hb78
  replace KH0 := KH0.on hb78
  replace KH2 := KH2.on hb78
  replace KR0 := KR0.on hb78
  replace KR1 := KR1.on hb78
  replace KR2 := KR2.on hb78
  replace KX10 := KX10.on hb78
  replace KX16 := KX16.on hb78
  replace KW24 := KW24.on hb78
  replace KX28 := KX28.on hb78
  replace KO29 := KO29.on hb78
  replace KR34 := KR34.on hb78
  replace KX40 := KX40.on hb78
  replace KO41 := KO41.on hb78
  replace KR46 := KR46.on hb78
  replace KG61 := KG61.on hb78
  replace KX70 := KX70.on hb78
  replace KQ73 := KQ73.on hb78
  replace KX77 := KX77.on hb78
  refine ⟨_, rfl, KQ73.here, ?_⟩
  simp only [List.getElem_toArray, List.getElem_cons_zero, List.getElem_cons_succ, Act.put, List.setIfInBounds_toArray, List.set_cons_zero, List.set_cons_succ]
  refine take_val 4 (.bool false) rfl (by kernel_rfl) (by kernel_rfl) (by kernel_rfl) (fun _ _ _ h => h) rfl (fun V _ => by simp [go_sem]) KQ73.here ?_
  simp only [List.getElem_toArray, List.getElem_cons_zero, List.getElem_cons_succ, Act.put, List.setIfInBounds_toArray, List.set_cons_zero, List.set_cons_succ]
  refine wpAnyH_done (by kernel_rfl) ?_ _
  clear KQ73
  go_wp2_with (first | (with_reducible refine load_lframe rfl _ rfl (w.heap.size) rfl _ s0 a0 n0 c0 KR0.here ?_) | (with_reducible refine load_arr rfl _ rfl (w.heap.size + 1) rfl _ D1 KR1.here ?_) | (with_reducible refine load_lprog rfl _ rfl (w.heap.size + 1 + 1) rfl _ a2 n2 c2 O2 KR2.here ?_) | (with_reducible refine load_iframe rfl _ rfl (w26.heap.size) rfl _ s0 b27 n0 n0 KR34.here ?_) | (with_reducible refine load_iprog rfl _ rfl (w38.heap.size) rfl _ b39 n2 n2 O2 KR46.here ?_))
  refine (markFrame_own w18.heap.size s0 b27 n0 n0 _ 1 _ (by omega) (by omega) (KO29.here)).mono ?_
  rintro e w81 ⟨rfl, hg82, _⟩
  obtain ⟨q84, hq84⟩ : ∃ q : Nat, 1 + n0 * 2 = q := ⟨_, rfl⟩
  rw [hq84]; have hq84b : q84 ≤ 110000000 := by omega
  clear hq84
  replace KB := KB.grown hg82 (fun k hk => by have := hlt30 k hk; omega)
  replace KH0 := KH0.grown hg82 (fun k hk => by have := hlt30 k hk; omega)
  replace KH2 := KH2.grown hg82 (fun k hk => by have := hlt30 k hk; omega)
  replace KR0 := KR0.grown hg82 (fun k hk => by have := hlt30 k hk; omega)
  replace KR1 := KR1.grown hg82 (fun k hk => by have := hlt30 k hk; omega)
  replace KR2 := KR2.grown hg82 (fun k hk => by have := hlt30 k hk; omega)
  replace KX10 := KX10.grown hg82 (fun k hk => by have := hlt30 k hk; omega)
  replace KX16 := KX16.grown hg82 (fun k hk => by have := hlt30 k hk; omega)
  replace KW24 := KW24.grown hg82 (fun k hk => by have := hlt30 k hk; omega)
  have hr := own_grown (KO41.here) hg82 (fun k hk => by have := hlt30 k hk; omega); replace KO41 := kp_ownR hr; clear hr
  have hr := row_grown (KR46.here) hg82 (fun k hk => by have := hlt30 k hk; omega); replace KR46 := kp_row hr; clear hr
  have hr := own_grown (KG61.here) hg82 (fun k hk => by have := hlt30 k hk; omega); replace KG61 := kp_OwnN hr; clear hr
  clear KX28 KO29 KR34 KX40 KX70 KX77
  clear hg82
  go_wp2_with (first | (with_reducible refine load_lframe rfl _ rfl (w.heap.size) rfl _ s0 a0 n0 c0 KR0.here ?_) | (with_reducible refine load_arr rfl _ rfl (w.heap.size + 1) rfl _ D1 KR1.here ?_) | (with_reducible refine load_lprog rfl _ rfl (w.heap.size + 1 + 1) rfl _ a2 n2 c2 O2 KR2.here ?_) | (with_reducible refine load_iprog rfl _ rfl (w38.heap.size) rfl _ b39 n2 n2 O2 KR46.here ?_))
  refine (markProgramme_own w36.heap.size b39 n2 n2 O2 _ q84 _ (by omega) (by omega) (KO41.here)).mono ?_
  rintro e w86 ⟨rfl, hg87, _⟩
  obtain ⟨q89, hq89⟩ : ∃ q : Nat, q84 + n2 * 2 = q := ⟨_, rfl⟩
  rw [hq89]; have hq89b : q89 ≤ 220000000 := by omega
  clear hq89
  replace KB := KB.grown hg87 (fun k hk => by have := hlt42 k hk; omega)
  replace KH0 := KH0.grown hg87 (fun k hk => by have := hlt42 k hk; omega)
  replace KH2 := KH2.grown hg87 (fun k hk => by have := hlt42 k hk; omega)
  replace KR0 := KR0.grown hg87 (fun k hk => by have := hlt42 k hk; omega)
  replace KR1 := KR1.grown hg87 (fun k hk => by have := hlt42 k hk; omega)
  replace KR2 := KR2.grown hg87 (fun k hk => by have := hlt42 k hk; omega)
  replace KX10 := KX10.grown hg87 (fun k hk => by have := hlt42 k hk; omega)
  replace KX16 := KX16.grown hg87 (fun k hk => by have := hlt42 k hk; omega)
  replace KW24 := KW24.grown hg87 (fun k hk => by have := hlt42 k hk; omega)
  have hr := own_grown (KG61.here) hg87 (fun k hk => by have := hlt42 k hk; omega); replace KG61 := kp_OwnN hr; clear hr
  clear KO41 KR46
  clear hg87
  go_wp2_with (first | (with_reducible refine load_lframe rfl _ rfl (w.heap.size) rfl _ s0 a0 n0 c0 KR0.here ?_) | (with_reducible refine load_arr rfl _ rfl (w.heap.size + 1) rfl _ D1 KR1.here ?_) | (with_reducible refine load_lprog rfl _ rfl (w.heap.size + 1 + 1) rfl _ a2 n2 c2 O2 KR2.here ?_))
  refine (eqTune_kp b58 b21 r0.length c59 c22 (fun i => (r0.getD i (0, 0)).1) (fun i => (r0.getD i (0, 0)).2) _ (by omega) (KG61.here).readAt (KW24.here)).mono ?_
  rintro e w91 ⟨rfl, hb90⟩
  replace KB := KB.on hb90
  replace KH0 := KH0.on hb90
  replace KH2 := KH2.on hb90
  replace KR0 := KR0.on hb90
  replace KR1 := KR1.on hb90
  replace KR2 := KR2.on hb90
  replace KX10 := KX10.on hb90
  replace KX16 := KX16.on hb90
  replace KW24 := KW24.on hb90
  replace KG61 := KG61.on hb90
  go_wp2_with (first | (with_reducible refine load_lframe rfl _ rfl (w.heap.size) rfl _ s0 a0 n0 c0 KR0.here ?_) | (with_reducible refine load_arr rfl _ rfl (w.heap.size + 1) rfl _ D1 KR1.here ?_) | (with_reducible refine load_lprog rfl _ rfl (w.heap.size + 1 + 1) rfl _ a2 n2 c2 O2 KR2.here ?_))
  refine (markTune_own w52.heap.size _ r0.length _ 1 _ (by omega) (by omega) (KG61.here)).mono ?_
  rintro e w93 ⟨rfl, hg94, ho95⟩
  obtain ⟨q96, hq96⟩ : ∃ q : Nat, 1 + r0.length * 2 = q := ⟨_, rfl⟩
  rw [hq96]; have HQ97 := Lib.hid hq96; have hq96b : q96 ≤ 5000000 := by omega
  clear hq96
  replace KB := KB.grown hg94 (fun k hk => by have := hlt62 k hk; omega)
  replace KH0 := KH0.grown hg94 (fun k hk => by have := hlt62 k hk; omega)
  replace KH2 := KH2.grown hg94 (fun k hk => by have := hlt62 k hk; omega)
  replace KR0 := KR0.grown hg94 (fun k hk => by have := hlt62 k hk; omega)
  replace KR1 := KR1.grown hg94 (fun k hk => by have := hlt62 k hk; omega)
  replace KR2 := KR2.grown hg94 (fun k hk => by have := hlt62 k hk; omega)
  replace KX10 := KX10.grown hg94 (fun k hk => by have := hlt62 k hk; omega)
  replace KX16 := KX16.grown hg94 (fun k hk => by have := hlt62 k hk; omega)
  replace KW24 := KW24.grown hg94 (fun k hk => by have := hlt62 k hk; omega)
  have KG61m := kp_ownR ho95; clear ho95 hg94
  go_wp2_with (first | (with_reducible refine load_lframe rfl _ rfl (w.heap.size) rfl _ s0 a0 n0 c0 KR0.here ?_) | (with_reducible refine load_arr rfl _ rfl (w.heap.size + 1) rfl _ D1 KR1.here ?_) | (with_reducible refine load_lprog rfl _ rfl (w.heap.size + 1 + 1) rfl _ a2 n2 c2 O2 KR2.here ?_))
  refine (heldTune_own w52.heap.size _ r0.length 1 _ (by omega) (by omega) (KG61m.here)).mono ?_
  rintro e w99 ⟨rfl, rfl⟩
  rw [HQ97.out]
  go_wp2_with (first | (with_reducible refine load_lframe rfl _ rfl (w.heap.size) rfl _ s0 a0 n0 c0 KR0.here ?_) | (with_reducible refine load_arr rfl _ rfl (w.heap.size + 1) rfl _ D1 KR1.here ?_) | (with_reducible refine load_lprog rfl _ rfl (w.heap.size + 1 + 1) rfl _ a2 n2 c2 O2 KR2.here ?_))
  refine wp_region_S (fun V => Below w93.heap.size w93 V) (by kernel_rfl) (Below.refl _ _).drew ?_
  refine take_val 0 (.agg #[.int .i16 s0, .slice a0 n0 c0]) rfl (by kernel_rfl) (by kernel_rfl) (by kernel_rfl) (fun _ _ _ h => h) rfl (fun V hV => ex_load_lframe _ rfl (w.heap.size) rfl _ s0 a0 n0 c0 (KR0.at hV)) (Below.refl _ _).drew ?_
  simp only [List.getElem_toArray, List.getElem_cons_zero, List.getElem_cons_succ, Act.put, List.setIfInBounds_toArray, List.set_cons_zero, List.set_cons_succ]
  refine take_val 2 (.agg (dc D1)) rfl (by kernel_rfl) (by kernel_rfl) (by kernel_rfl) (fun _ _ _ h => h) rfl (fun V hV => ex_load_arr _ rfl (w.heap.size + 1) rfl _ D1 (KR1.at hV)) (Below.refl _ _).drew ?_
  simp only [List.getElem_toArray, List.getElem_cons_zero, List.getElem_cons_succ, Act.put, List.setIfInBounds_toArray, List.set_cons_zero, List.set_cons_succ]
  refine take_val 4 (.agg (pc a2 n2 c2 O2)) rfl (by kernel_rfl) (by kernel_rfl) (by kernel_rfl) (fun _ _ _ h => h) rfl (fun V hV => ex_load_lprog _ rfl (w.heap.size + 1 + 1) rfl _ a2 n2 c2 O2 (KR2.at hV)) (Below.refl _ _).drew ?_
  simp only [List.getElem_toArray, List.getElem_cons_zero, List.getElem_cons_succ, Act.put, List.setIfInBounds_toArray, List.set_cons_zero, List.set_cons_succ]
  refine take_val 6 (.int .i64 x3) rfl (by kernel_rfl) (by kernel_rfl) (by kernel_rfl) (fun _ _ _ h => h) rfl (fun V _ => by simp [go_sem]) (Below.refl _ _).drew ?_
  simp only [List.getElem_toArray, List.getElem_cons_zero, List.getElem_cons_succ, Act.put, List.setIfInBounds_toArray, List.set_cons_zero, List.set_cons_succ]
  refine take_val 7 (.int .i64 x4) rfl (by kernel_rfl) (by kernel_rfl) (by kernel_rfl) (fun _ _ _ h => h) rfl (fun V _ => by simp [go_sem]) (Below.refl _ _).drew ?_
  simp only [List.getElem_toArray, List.getElem_cons_zero, List.getElem_cons_succ, Act.put, List.setIfInBounds_toArray, List.set_cons_zero, List.set_cons_succ]
  refine take_val 8 (.int .i64 x5) rfl (by kernel_rfl) (by kernel_rfl) (by kernel_rfl) (fun _ _ _ h => h) rfl (fun V _ => by simp [go_sem]) (Below.refl _ _).drew ?_
  simp only [List.getElem_toArray, List.getElem_cons_zero, List.getElem_cons_succ, Act.put, List.setIfInBounds_toArray, List.set_cons_zero, List.set_cons_succ]
  have KQ100 := kp_start w93; have hdKQ100 := below_drew w93
  replace KB := KB.on hdKQ100
  replace KH0 := KH0.on hdKQ100
  replace KH2 := KH2.on hdKQ100
  replace KR0 := KR0.on hdKQ100
  replace KR1 := KR1.on hdKQ100
  replace KR2 := KR2.on hdKQ100
  replace KX10 := KX10.on hdKQ100
  replace KX16 := KX16.on hdKQ100
  replace KW24 := KW24.on hdKQ100
  replace KG61m := KG61m.on hdKQ100
  clear hdKQ100
  refine step_call 1 10 #[.agg #[.int .i16 s0, .slice a0 n0 c0]] (by kernel_rfl) rfl rfl (by simp [go_sem]) ?_
  refine (toFrame_kp s0 a0 n0 c0 P0 R0 _ (by omega) hs0 (KH0.here)).mono ?_
  rintro e w102 ⟨b103, rfl, hb101, KX104⟩
  replace KB := KB.on hb101
  replace KH0 := KH0.on hb101
  replace KH2 := KH2.on hb101
  replace KR0 := KR0.on hb101
  replace KR1 := KR1.on hb101
  replace KR2 := KR2.on hb101
  replace KX10 := KX10.on hb101
  replace KX16 := KX16.on hb101
  replace KW24 := KW24.on hb101
  replace KG61m := KG61m.on hb101
  replace KQ100 := KQ100.on hb101
  refine ⟨_, rfl, KQ100.here, ?_⟩
  simp only [List.getElem_toArray, List.getElem_cons_zero, List.getElem_cons_succ, Act.put, List.setIfInBounds_toArray, List.set_cons_zero, List.set_cons_succ]
  refine step_call 3 12 #[.agg (dc D1)] (by kernel_rfl) rfl rfl (by simp [go_sem]) ?_
  refine (toDrum_any D1 _).mono ?_
  rintro e w106 ⟨rfl, hb105⟩
  replace KB := KB.on hb105
  replace KH0 := KH0.on hb105
  replace KH2 := KH2.on hb105
  replace KR0 := KR0.on hb105
  replace KR1 := KR1.on hb105
  replace KR2 := KR2.on hb105
  replace KX10 := KX10.on hb105
  replace KX16 := KX16.on hb105
  replace KW24 := KW24.on hb105
  replace KG61m := KG61m.on hb105
  replace KQ100 := KQ100.on hb105
  replace KX104 := KX104.on hb105
  refine ⟨_, rfl, KQ100.here, ?_⟩
  simp only [List.getElem_toArray, List.getElem_cons_zero, List.getElem_cons_succ, Act.put, List.setIfInBounds_toArray, List.set_cons_zero, List.set_cons_succ]
  refine step_call 5 23 #[.agg (pc a2 n2 c2 O2)] (by kernel_rfl) rfl rfl (by simp [go_sem]) ?_
  refine (toProgramme_kp a2 n2 c2 F2 T2 O2 _ (by omega) (KH2.here)).mono ?_
  rintro e w108 ⟨b109, rfl, hb107, KX110⟩
  replace KB := KB.on hb107
  replace KH0 := KH0.on hb107
  replace KH2 := KH2.on hb107
  replace KR0 := KR0.on hb107
  replace KR1 := KR1.on hb107
  replace KR2 := KR2.on hb107
  replace KX10 := KX10.on hb107
  replace KX16 := KX16.on hb107
  replace KW24 := KW24.on hb107
  replace KG61m := KG61m.on hb107
  replace KQ100 := KQ100.on hb107
  replace KX104 := KX104.on hb107
  refine ⟨_, rfl, KQ100.here, ?_⟩
  simp only [List.getElem_toArray, List.getElem_cons_zero, List.getElem_cons_succ, Act.put, List.setIfInBounds_toArray, List.set_cons_zero, List.set_cons_succ]
  refine step_call 9 31 #[.agg #[.int .i16 s0, .slice b103 n0 n0], .agg (dc D1), .agg (pc b109 n2 n2 O2), .int .i64 x3, .int .i64 x4, .int .i64 x5] (by kernel_rfl) rfl rfl (by simp [go_sem]) ?_
  refine (implWholeChime_any s0 b103 n0 n0 P0 R0 D1 b109 n2 n2 F2 T2 O2 x3 x4 x5 _ hs0 (by omega) HP0.out HR0.out (KX104.here) HD1.out (by omega) HF2.out HT2.out HO2.out (KX110.here) hx3 hx4 hx5).mono ?_
  rw [← HR_0.out, ← HR_1.out]
  rintro e w112 ⟨v113, rfl, hb111, ho114⟩
  obtain ⟨b115, c116, rfl, hz117⟩ := OwnN.at ho114
  have KW118 := kp_note hz117; clear hz117 ho114
  replace KB := KB.on hb111
  replace KH0 := KH0.on hb111
  replace KH2 := KH2.on hb111
  replace KR0 := KR0.on hb111
  replace KR1 := KR1.on hb111
  replace KR2 := KR2.on hb111
  replace KX10 := KX10.on hb111
  replace KX16 := KX16.on hb111
  replace KW24 := KW24.on hb111
  replace KG61m := KG61m.on hb111
  replace KQ100 := KQ100.on hb111
  replace KX104 := KX104.on hb111
  replace KX110 := KX110.on hb111
  refine ⟨_, rfl, KQ100.here, ?_⟩
  simp only [List.getElem_toArray, List.getElem_cons_zero, List.getElem_cons_succ, Act.put, List.setIfInBounds_toArray, List.set_cons_zero, List.set_cons_succ]
  refine take_val 10 (.tuple #[.slice b115 r0.length c116, .int .i64 r1]) rfl (by kernel_rfl) (by kernel_rfl) (by kernel_rfl) (fun _ _ _ h => h) rfl (fun V _ => by simp [go_sem]) KQ100.here ?_
  simp only [List.getElem_toArray, List.getElem_cons_zero, List.getElem_cons_succ, Act.put, List.setIfInBounds_toArray, List.set_cons_zero, List.set_cons_succ]
  refine take_val 11 (.slice b115 r0.length c116) rfl (by kernel_rfl) (by kernel_rfl) (by kernel_rfl) (fun _ _ _ h => h) rfl (fun V _ => by simp [go_sem]) KQ100.here ?_
  simp only [List.getElem_toArray, List.getElem_cons_zero, List.getElem_cons_succ, Act.put, List.setIfInBounds_toArray, List.set_cons_zero, List.set_cons_succ]
  refine take_val 12 (.int .i64 r1) rfl (by kernel_rfl) (by kernel_rfl) (by kernel_rfl) (fun _ _ _ h => h) rfl (fun V _ => by simp [go_sem]) KQ100.here ?_
  simp only [List.getElem_toArray, List.getElem_cons_zero, List.getElem_cons_succ, Act.put, List.setIfInBounds_toArray, List.set_cons_zero, List.set_cons_succ]
  refine take_val 13 (.slice b115 r0.length c116) rfl (by kernel_rfl) (by kernel_rfl) (by kernel_rfl) (fun _ _ _ h => h) rfl (fun V _ => by simp [go_sem]) KQ100.here ?_
  simp only [List.getElem_toArray, List.getElem_cons_zero, List.getElem_cons_succ, Act.put, List.setIfInBounds_toArray, List.set_cons_zero, List.set_cons_succ]
  refine take_val 14 (.int .i64 r1) rfl (by kernel_rfl) (by kernel_rfl) (by kernel_rfl) (fun _ _ _ h => h) rfl (fun V _ => by simp [go_sem]) KQ100.here ?_
  simp only [List.getElem_toArray, List.getElem_cons_zero, List.getElem_cons_succ, Act.put, List.setIfInBounds_toArray, List.set_cons_zero, List.set_cons_succ]
  refine wpAnyH_done (by kernel_rfl) ?_ _
  clear KQ100
  go_wp2_with (first | (with_reducible refine load_lframe rfl _ rfl (w.heap.size) rfl _ s0 a0 n0 c0 KR0.here ?_) | (with_reducible refine load_arr rfl _ rfl (w.heap.size + 1) rfl _ D1 KR1.here ?_) | (with_reducible refine load_lprog rfl _ rfl (w.heap.size + 1 + 1) rfl _ a2 n2 c2 O2 KR2.here ?_))
  refine (eqTune_kp b115 b21 r0.length c116 c22 (fun i => (r0.getD i (0, 0)).1) (fun i => (r0.getD i (0, 0)).2) _ (by omega) (KW118.here) (KW24.here)).mono ?_
  rintro e w120 ⟨rfl, hb119⟩
  replace KB := KB.on hb119
  replace KH0 := KH0.on hb119
  replace KH2 := KH2.on hb119
  replace KR0 := KR0.on hb119
  replace KR1 := KR1.on hb119
  replace KR2 := KR2.on hb119
  replace KX10 := KX10.on hb119
  replace KX16 := KX16.on hb119
  replace KW24 := KW24.on hb119
  replace KG61m := KG61m.on hb119
  replace KX104 := KX104.on hb119
  replace KX110 := KX110.on hb119
  replace KW118 := KW118.on hb119
  go_wp2_with (first | (with_reducible refine load_lframe rfl _ rfl (w.heap.size) rfl _ s0 a0 n0 c0 KR0.here ?_) | (with_reducible refine load_arr rfl _ rfl (w.heap.size + 1) rfl _ D1 KR1.here ?_) | (with_reducible refine load_lprog rfl _ rfl (w.heap.size + 1 + 1) rfl _ a2 n2 c2 O2 KR2.here ?_))
  refine (heldTune_own w52.heap.size _ r0.length 1 _ (by omega) (by omega) (KG61m.here)).mono ?_
  rintro e w122 ⟨rfl, rfl⟩
  rw [HQ97.out]
  go_wp2_with fail
  go_ret
  exact ⟨rfl, KB.here⟩
end Go.Proofs.YteffaghcjpeblaaGreat
