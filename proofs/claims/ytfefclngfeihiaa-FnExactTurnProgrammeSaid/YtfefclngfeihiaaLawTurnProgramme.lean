/- The law FnExactTurnProgramme: the walk, printed by lawgen.py. No conditions. -/
import Derived.Test.YtfefclngfeihiaaKp
import Derived.Test.YtfefclngfeihiaaUd
import Derived.Test.YtfefclngfeihiaaHeld2
import Derived.Test.YtfefclngfeihiaaMk1
import Derived.Test.YtfefclngfeihiaaInt
import Derived.Outline
namespace Go.Proofs.Ytfefclngfeihiaa
open Go.RowKit
set_option linter.unusedVariables false
set_option linter.unusedSimpArgs false

set_option maxRecDepth 100000 in
set_option maxHeartbeats 4000000 in
theorem lawTurnProgramme (s0 : Int) (a0 : Option Addr) (n0 c0 : Nat) (P0 R0 : Nat → Int) (a1 : Option Addr) (n1 c1 : Nat) (F1 T1 O1 : Nat → Int) (x2 : Int) (w : World) (hn0 : n0 ≤ 9223372036854775807) (hs0 : -32768 ≤ s0 ∧ s0 ≤ 32767) (hP0 : I8 P0) (hR0 : I8 R0) (hh0 : HamIn w a0 n0 P0 R0) (hn1 : n1 ≤ 9223372036854775807) (hF1 : I16 F1) (hT1 : I16 T1) (hO1 : I8 O1) (hh1 : SecIn w a1 n1 F1 T1) (hx2 : -9223372036854775808 ≤ x2 ∧ x2 ≤ 9223372036854775807) :
    Calls Try.prog 3 #[.agg #[.int .i16 s0, .slice a0 n0 c0], .agg (pc a1 n1 c1 O1), .int .i64 x2] w fun e w' => e = .returned (.bool true) ∧ Below w.heap.size w w' := by
  have HP0 := Lib.hid hP0; clear hP0
  have HR0 := Lib.hid hR0; clear hR0
  have HF1 := Lib.hid hF1; clear hF1
  have HT1 := Lib.hid hT1; clear hT1
  have HO1 := Lib.hid hO1; clear hO1
  have KB := Kp.base w
  have KH0 := kp_hamIn hh0; clear hh0
  have KH1 := kp_secIn hh1; clear hh1
  replace KB := KB.alloc (.cells #[.int .i16 s0, .slice a0 n0 c0] 25)
  replace KH0 := KH0.alloc (.cells #[.int .i16 s0, .slice a0 n0 c0] 25)
  replace KH1 := KH1.alloc (.cells #[.int .i16 s0, .slice a0 n0 c0] 25)
  have KR0 := kp_new1 w #[.int .i16 s0, .slice a0 n0 c0] 25 (g := w.heap.size) (by simp)
  replace KB := KB.alloc (.cells (pc a1 n1 c1 O1) 30)
  replace KH0 := KH0.alloc (.cells (pc a1 n1 c1 O1) 30)
  replace KH1 := KH1.alloc (.cells (pc a1 n1 c1 O1) 30)
  replace KR0 := KR0.alloc (.cells (pc a1 n1 c1 O1) 30)
  have KR1 := kp_new1 (w.alloc (.cells #[.int .i16 s0, .slice a0 n0 c0] 25)) (pc a1 n1 c1 O1) 30 (g := w.heap.size + 1) (by simp)
  go_enter Try.func3, Try.ntmps3
  go_wp2_with (first | (with_reducible refine load_lframe rfl _ rfl (w.heap.size) rfl _ s0 a0 n0 c0 KR0.here ?_) | (with_reducible refine load_lprog rfl _ rfl (w.heap.size + 1) rfl _ a1 n1 c1 O1 KR1.here ?_))
  generalize ((w.alloc (.cells #[.int .i16 s0, .slice a0 n0 c0] 25)).alloc (.cells (pc a1 n1 c1 O1) 30)) = w1 at KB KH0 KH1 KR0 KR1 ⊢
  refine (szFrame_kp s0 a0 n0 c0 (1048576) _ (by omega) (by omega)).mono ?_
  rintro e w3 ⟨rfl, hb2⟩
  replace KB := KB.on hb2
  replace KH0 := KH0.on hb2
  replace KH1 := KH1.on hb2
  replace KR0 := KR0.on hb2
  replace KR1 := KR1.on hb2
  by_cases hlw3 : (1048576 : Int) < n0
  · rw [szOf_lt hlw3]
    go_wp2_with (first | (with_reducible refine load_lframe rfl _ rfl (w.heap.size) rfl _ s0 a0 n0 c0 KR0.here ?_) | (with_reducible refine load_lprog rfl _ rfl (w.heap.size + 1) rfl _ a1 n1 c1 O1 KR1.here ?_))
    go_ret
    exact ⟨rfl, KB.here⟩
  rw [szOf_ge (by omega)]
  go_wp2_with (first | (with_reducible refine load_lframe rfl _ rfl (w.heap.size) rfl _ s0 a0 n0 c0 KR0.here ?_) | (with_reducible refine load_lprog rfl _ rfl (w.heap.size + 1) rfl _ a1 n1 c1 O1 KR1.here ?_))
  refine (szProgramme_kp a1 n1 c1 O1 (1048576 - (n0 : Int)) _ (by omega) (by omega)).mono ?_
  rintro e w5 ⟨rfl, hb4⟩
  replace KB := KB.on hb4
  replace KH0 := KH0.on hb4
  replace KH1 := KH1.on hb4
  replace KR0 := KR0.on hb4
  replace KR1 := KR1.on hb4
  by_cases hlw5 : (1048576 - (n0 : Int) : Int) < n1
  · rw [szOf_lt hlw5]
    go_wp2_with (first | (with_reducible refine load_lframe rfl _ rfl (w.heap.size) rfl _ s0 a0 n0 c0 KR0.here ?_) | (with_reducible refine load_lprog rfl _ rfl (w.heap.size + 1) rfl _ a1 n1 c1 O1 KR1.here ?_))
    go_ret
    exact ⟨rfl, KB.here⟩
  rw [szOf_ge (by omega)]
  go_wp2_with (first | (with_reducible refine load_lframe rfl _ rfl (w.heap.size) rfl _ s0 a0 n0 c0 KR0.here ?_) | (with_reducible refine load_lprog rfl _ rfl (w.heap.size + 1) rfl _ a1 n1 c1 O1 KR1.here ?_))
  refine wp_region_S (fun V => Below w5.heap.size w5 V) (by kernel_rfl) (Below.refl _ _).drew ?_
  refine take_val 0 (.agg #[.int .i16 s0, .slice a0 n0 c0]) rfl (by kernel_rfl) (by kernel_rfl) (by kernel_rfl) (fun _ _ _ h => h) rfl (fun V hV => ex_load_lframe _ rfl (w.heap.size) rfl _ s0 a0 n0 c0 (KR0.at hV)) (Below.refl _ _).drew ?_
  simp only [List.getElem_toArray, List.getElem_cons_zero, List.getElem_cons_succ, Act.put, List.setIfInBounds_toArray, List.set_cons_zero, List.set_cons_succ]
  refine take_val 2 (.agg (pc a1 n1 c1 O1)) rfl (by kernel_rfl) (by kernel_rfl) (by kernel_rfl) (fun _ _ _ h => h) rfl (fun V hV => ex_load_lprog _ rfl (w.heap.size + 1) rfl _ a1 n1 c1 O1 (KR1.at hV)) (Below.refl _ _).drew ?_
  simp only [List.getElem_toArray, List.getElem_cons_zero, List.getElem_cons_succ, Act.put, List.setIfInBounds_toArray, List.set_cons_zero, List.set_cons_succ]
  refine take_val 4 (.int .i64 x2) rfl (by kernel_rfl) (by kernel_rfl) (by kernel_rfl) (fun _ _ _ h => h) rfl (fun V _ => by simp [go_sem]) (Below.refl _ _).drew ?_
  simp only [List.getElem_toArray, List.getElem_cons_zero, List.getElem_cons_succ, Act.put, List.setIfInBounds_toArray, List.set_cons_zero, List.set_cons_succ]
  obtain ⟨r0, hr0⟩ : ∃ r, r = tpL s0 n0 P0 R0 n1 F1 T1 O1 x2 := ⟨_, rfl⟩
  have hlr0 : r0.length ≤ 1000000 := by rw [hr0]; apply tpL_len
  have HR_0 := Lib.hid hr0; clear hr0
  obtain ⟨r1, hr1⟩ : ∃ r, r = tpC s0 n0 P0 R0 n1 F1 T1 O1 x2 := ⟨_, rfl⟩
  have HR_1 := Lib.hid hr1; clear hr1
  obtain ⟨rs0, hrs0⟩ : ∃ s, s = tpO s0 n0 P0 R0 n1 F1 T1 O1 x2 := ⟨_, rfl⟩
  have HRS_0 := Lib.hid hrs0; clear hrs0
  refine' cut_with (A := ∀ (g : Nat) (V : World) (b_0 b_1 : Option Addr) (bz : Option Addr) (cz : Nat), Below w5.heap.size w5 V → V.heap[g]? = some (.cells (pc bz r0.length cz rs0) 35 (0, 0)) → SecAt V bz r0.length (fun i => (r0.getD i (0, 0)).1) (fun i => (r0.getD i (0, 0)).2) → (_ : Nat → World → Option Addr → Option Addr → Option Addr → Nat → Prop) g V b_0 b_1 bz cz) (fun hcont => ?_) ?_
  rotate_left
  · have KQ7 := kp_start w5; have hdKQ7 := below_drew w5
    replace KB := KB.on hdKQ7
    replace KH0 := KH0.on hdKQ7
    replace KH1 := KH1.on hdKQ7
    replace KR0 := KR0.on hdKQ7
    replace KR1 := KR1.on hdKQ7
    clear hdKQ7
    generalize w5.drew = w8 at KB KH0 KH1 KR0 KR1 KQ7 ⊢
    refine step_call_or 1 9 7 #[.agg #[.int .i16 s0, .slice a0 n0 c0]] (.pointer (some ⟨w8.heap.size, 0, none⟩)) (w8.alloc (.cells (pc none 0 0 fun _ => 0) 35)) (by kernel_rfl) rfl rfl rfl rfl (by simp [go_sem]) (ex_alloc_prog rfl) (KQ7.alloc _).here ?_ ?_
    · refine (toFrame_kp s0 a0 n0 c0 P0 R0 _ (by omega) hs0 (KH0.here)).mono ?_
      rintro e w10 ⟨b11, rfl, hb9, KX12⟩
      replace KB := KB.on hb9
      replace KH0 := KH0.on hb9
      replace KH1 := KH1.on hb9
      replace KR0 := KR0.on hb9
      replace KR1 := KR1.on hb9
      replace KQ7 := KQ7.on hb9
      refine ⟨_, rfl, KQ7.here, ?_⟩
      simp only [List.getElem_toArray, List.getElem_cons_zero, List.getElem_cons_succ, Act.put, List.setIfInBounds_toArray, List.set_cons_zero, List.set_cons_succ]
      refine step_call_or 3 9 8 #[.agg (pc a1 n1 c1 O1)] (.pointer (some ⟨w10.heap.size, 0, none⟩)) (w10.alloc (.cells (pc none 0 0 fun _ => 0) 35)) (by kernel_rfl) rfl rfl rfl rfl (by simp [go_sem]) (ex_alloc_prog rfl) (KQ7.alloc _).here ?_ ?_
      · refine (toProgramme_kp a1 n1 c1 F1 T1 O1 _ (by omega) (KH1.here)).mono ?_
        rintro e w14 ⟨b15, rfl, hb13, KX16⟩
        replace KB := KB.on hb13
        replace KH0 := KH0.on hb13
        replace KH1 := KH1.on hb13
        replace KR0 := KR0.on hb13
        replace KR1 := KR1.on hb13
        replace KQ7 := KQ7.on hb13
        replace KX12 := KX12.on hb13
        refine ⟨_, rfl, KQ7.here, ?_⟩
        simp only [List.getElem_toArray, List.getElem_cons_zero, List.getElem_cons_succ, Act.put, List.setIfInBounds_toArray, List.set_cons_zero, List.set_cons_succ]
        refine step_call_or 5 9 6 #[.agg #[.int .i16 s0, .slice b11 n0 n0], .agg (pc b15 n1 n1 O1), .int .i64 x2] (.pointer (some ⟨w14.heap.size, 0, none⟩)) (w14.alloc (.cells (pc none 0 0 fun _ => 0) 35)) (by kernel_rfl) rfl rfl rfl rfl (by simp [go_sem]) (ex_alloc_prog rfl) (KQ7.alloc _).here ?_ ?_
        · refine (specTurnProgramme_any s0 b11 n0 n0 P0 R0 b15 n1 n1 F1 T1 O1 x2 _ hs0 (by omega) HP0.out HR0.out (KX12.here) (by omega) HF1.out HT1.out HO1.out (KX16.here) hx2).mono ?_
          rw [← HR_0.out, ← HR_1.out, ← HRS_0.out]
          rintro e w18 ⟨b19, c20, rfl, hb17, ho21⟩
          have hz24 := OwnS.readAt ho21
          have KW25 := kp_sec hz24; clear hz24 ho21
          replace KB := KB.on hb17
          replace KH0 := KH0.on hb17
          replace KH1 := KH1.on hb17
          replace KR0 := KR0.on hb17
          replace KR1 := KR1.on hb17
          replace KQ7 := KQ7.on hb17
          replace KX12 := KX12.on hb17
          replace KX16 := KX16.on hb17
          refine ⟨_, rfl, KQ7.here, ?_⟩
          simp only [List.getElem_toArray, List.getElem_cons_zero, List.getElem_cons_succ, Act.put, List.setIfInBounds_toArray, List.set_cons_zero, List.set_cons_succ]
          refine take_val 6 (.tuple #[.agg (pc b19 r0.length c20 rs0), .int .i64 r1]) rfl (by kernel_rfl) (by kernel_rfl) (by kernel_rfl) (fun _ _ _ h => h) rfl (fun V _ => by simp [go_sem]) KQ7.here ?_
          simp only [List.getElem_toArray, List.getElem_cons_zero, List.getElem_cons_succ, Act.put, List.setIfInBounds_toArray, List.set_cons_zero, List.set_cons_succ]
          refine take_val 7 (.agg (pc b19 r0.length c20 rs0)) rfl (by kernel_rfl) (by kernel_rfl) (by kernel_rfl) (fun _ _ _ h => h) rfl (fun V _ => by simp [go_sem]) KQ7.here ?_
          simp only [List.getElem_toArray, List.getElem_cons_zero, List.getElem_cons_succ, Act.put, List.setIfInBounds_toArray, List.set_cons_zero, List.set_cons_succ]
          refine take_val 8 (.int .i64 r1) rfl (by kernel_rfl) (by kernel_rfl) (by kernel_rfl) (fun _ _ _ h => h) rfl (fun V _ => by simp [go_sem]) KQ7.here ?_
          simp only [List.getElem_toArray, List.getElem_cons_zero, List.getElem_cons_succ, Act.put, List.setIfInBounds_toArray, List.set_cons_zero, List.set_cons_succ]
          refine step_val 9 (.pointer (some ⟨w18.heap.size, 0, none⟩)) (w18.alloc (.cells (pc none 0 0 fun _ => 0) 35)) (by kernel_rfl) rfl rfl (ex_alloc_prog rfl) (KQ7.alloc _).here ?_
          simp only [List.getElem_toArray, List.getElem_cons_zero, List.getElem_cons_succ, Act.put, List.setIfInBounds_toArray, List.set_cons_zero, List.set_cons_succ]
          have KZ28h := heap_alloc_new w18 (.cells (pc none 0 0 fun _ => 0) 35)
          have KZ28l := (KQ7.here).size
          replace KB := KB.alloc (.cells (pc none 0 0 fun _ => 0) 35)
          replace KH0 := KH0.alloc (.cells (pc none 0 0 fun _ => 0) 35)
          replace KH1 := KH1.alloc (.cells (pc none 0 0 fun _ => 0) 35)
          replace KR0 := KR0.alloc (.cells (pc none 0 0 fun _ => 0) 35)
          replace KR1 := KR1.alloc (.cells (pc none 0 0 fun _ => 0) 35)
          replace KQ7 := KQ7.alloc (.cells (pc none 0 0 fun _ => 0) 35)
          replace KX12 := KX12.alloc (.cells (pc none 0 0 fun _ => 0) 35)
          replace KX16 := KX16.alloc (.cells (pc none 0 0 fun _ => 0) 35)
          replace KW25 := KW25.alloc (.cells (pc none 0 0 fun _ => 0) 35)
          obtain ⟨g26, g26w⟩ : ∃ g, w18.heap.size = g := ⟨_, rfl⟩
          rw [g26w] at KZ28h KZ28l ⊢; clear g26w
          generalize w18.alloc (.cells (pc none 0 0 fun _ => 0) 35) = w27 at KZ28h KB KH0 KH1 KR0 KR1 KQ7 KX12 KX16 KW25 ⊢
          have KZ28 := kp_row KZ28h; clear KZ28h
          have hbV29 := below_setRow KQ7.here KZ28l (pc b19 r0.length c20 rs0); have hdV29 := setRow_heap _ g26 _ (pc b19 r0.length c20 rs0) _ _ KZ28.here
          have hsV29 := sec_setRow KW25.here KZ28.here (pc b19 r0.length c20 rs0)
          refine step_skip 10 (w27.setRow g26 (pc b19 r0.length c20 rs0)) (by kernel_rfl) rfl rfl (ex_store_prog _ _ rfl b19 r0.length c20 rs0 g26 rfl rfl _ _ _ _ _ KZ28.here) hbV29 ?_
          simp only [List.getElem_toArray, List.getElem_cons_zero, List.getElem_cons_succ, Act.put, List.setIfInBounds_toArray, List.set_cons_zero, List.set_cons_succ]
          generalize w27.setRow g26 (pc b19 r0.length c20 rs0) = V29 at hbV29 hdV29 hsV29 ⊢
          refine take_val 11 (.int .i64 r1) rfl (by kernel_rfl) (by kernel_rfl) (by kernel_rfl) (fun _ _ _ h => h) rfl (fun V _ => by simp [go_sem]) hbV29 ?_
          simp only [List.getElem_toArray, List.getElem_cons_zero, List.getElem_cons_succ, Act.put, List.setIfInBounds_toArray, List.set_cons_zero, List.set_cons_succ]
          refine wpAnyH_done (by kernel_rfl) ?_ _
          exact hcont g26 V29 b11 b15 b19 c20 hbV29 hdV29 hsV29
        · simp only [List.getElem_toArray, List.getElem_cons_zero, List.getElem_cons_succ, Act.put, List.setIfInBounds_toArray, List.set_cons_zero, List.set_cons_succ]
          have KZ32h := heap_alloc_new w14 (.cells (pc none 0 0 fun _ => 0) 35)
          have KZ32l := (KQ7.here).size
          replace KB := KB.alloc (.cells (pc none 0 0 fun _ => 0) 35)
          replace KH0 := KH0.alloc (.cells (pc none 0 0 fun _ => 0) 35)
          replace KH1 := KH1.alloc (.cells (pc none 0 0 fun _ => 0) 35)
          replace KR0 := KR0.alloc (.cells (pc none 0 0 fun _ => 0) 35)
          replace KR1 := KR1.alloc (.cells (pc none 0 0 fun _ => 0) 35)
          replace KQ7 := KQ7.alloc (.cells (pc none 0 0 fun _ => 0) 35)
          replace KX12 := KX12.alloc (.cells (pc none 0 0 fun _ => 0) 35)
          replace KX16 := KX16.alloc (.cells (pc none 0 0 fun _ => 0) 35)
          obtain ⟨g30, g30w⟩ : ∃ g, w14.heap.size = g := ⟨_, rfl⟩
          rw [g30w] at KZ32h KZ32l ⊢; clear g30w
          generalize w14.alloc (.cells (pc none 0 0 fun _ => 0) 35) = w31 at KZ32h KB KH0 KH1 KR0 KR1 KQ7 KX12 KX16 ⊢
          have KZ32 := kp_row KZ32h; clear KZ32h
          refine step_call 5 6 #[.agg #[.int .i16 s0, .slice b11 n0 n0], .agg (pc b15 n1 n1 O1), .int .i64 x2] (by kernel_rfl) rfl rfl (by simp [go_sem]) ?_
          refine (specTurnProgramme_any s0 b11 n0 n0 P0 R0 b15 n1 n1 F1 T1 O1 x2 _ hs0 (by omega) HP0.out HR0.out (KX12.here) (by omega) HF1.out HT1.out HO1.out (KX16.here) hx2).mono ?_
          rw [← HR_0.out, ← HR_1.out, ← HRS_0.out]
          rintro e w34 ⟨b35, c36, rfl, hb33, ho37⟩
          have hz40 := OwnS.readAt ho37
          have KW41 := kp_sec hz40; clear hz40 ho37
          replace KB := KB.on hb33
          replace KH0 := KH0.on hb33
          replace KH1 := KH1.on hb33
          replace KR0 := KR0.on hb33
          replace KR1 := KR1.on hb33
          replace KQ7 := KQ7.on hb33
          replace KX12 := KX12.on hb33
          replace KX16 := KX16.on hb33
          replace KZ32 := KZ32.on hb33
          refine ⟨_, rfl, KQ7.here, ?_⟩
          simp only [List.getElem_toArray, List.getElem_cons_zero, List.getElem_cons_succ, Act.put, List.setIfInBounds_toArray, List.set_cons_zero, List.set_cons_succ]
          refine take_val 6 (.tuple #[.agg (pc b35 r0.length c36 rs0), .int .i64 r1]) rfl (by kernel_rfl) (by kernel_rfl) (by kernel_rfl) (fun _ _ _ h => h) rfl (fun V _ => by simp [go_sem]) KQ7.here ?_
          simp only [List.getElem_toArray, List.getElem_cons_zero, List.getElem_cons_succ, Act.put, List.setIfInBounds_toArray, List.set_cons_zero, List.set_cons_succ]
          refine take_val 7 (.agg (pc b35 r0.length c36 rs0)) rfl (by kernel_rfl) (by kernel_rfl) (by kernel_rfl) (fun _ _ _ h => h) rfl (fun V _ => by simp [go_sem]) KQ7.here ?_
          simp only [List.getElem_toArray, List.getElem_cons_zero, List.getElem_cons_succ, Act.put, List.setIfInBounds_toArray, List.set_cons_zero, List.set_cons_succ]
          refine take_val 8 (.int .i64 r1) rfl (by kernel_rfl) (by kernel_rfl) (by kernel_rfl) (fun _ _ _ h => h) rfl (fun V _ => by simp [go_sem]) KQ7.here ?_
          simp only [List.getElem_toArray, List.getElem_cons_zero, List.getElem_cons_succ, Act.put, List.setIfInBounds_toArray, List.set_cons_zero, List.set_cons_succ]
          have hbV42 := below_setRow KQ7.here KZ32l (pc b35 r0.length c36 rs0); have hdV42 := setRow_heap _ g30 _ (pc b35 r0.length c36 rs0) _ _ KZ32.here
          have hsV42 := sec_setRow KW41.here KZ32.here (pc b35 r0.length c36 rs0)
          refine step_skip 10 (w34.setRow g30 (pc b35 r0.length c36 rs0)) (by kernel_rfl) rfl rfl (ex_store_prog _ _ rfl b35 r0.length c36 rs0 g30 rfl rfl _ _ _ _ _ KZ32.here) hbV42 ?_
          simp only [List.getElem_toArray, List.getElem_cons_zero, List.getElem_cons_succ, Act.put, List.setIfInBounds_toArray, List.set_cons_zero, List.set_cons_succ]
          generalize w34.setRow g30 (pc b35 r0.length c36 rs0) = V42 at hbV42 hdV42 hsV42 ⊢
          refine take_val 11 (.int .i64 r1) rfl (by kernel_rfl) (by kernel_rfl) (by kernel_rfl) (fun _ _ _ h => h) rfl (fun V _ => by simp [go_sem]) hbV42 ?_
          simp only [List.getElem_toArray, List.getElem_cons_zero, List.getElem_cons_succ, Act.put, List.setIfInBounds_toArray, List.set_cons_zero, List.set_cons_succ]
          refine wpAnyH_done (by kernel_rfl) ?_ _
          exact hcont g30 V42 b11 b15 b35 c36 hbV42 hdV42 hsV42
      · simp only [List.getElem_toArray, List.getElem_cons_zero, List.getElem_cons_succ, Act.put, List.setIfInBounds_toArray, List.set_cons_zero, List.set_cons_succ]
        have KZ45h := heap_alloc_new w10 (.cells (pc none 0 0 fun _ => 0) 35)
        have KZ45l := (KQ7.here).size
        replace KB := KB.alloc (.cells (pc none 0 0 fun _ => 0) 35)
        replace KH0 := KH0.alloc (.cells (pc none 0 0 fun _ => 0) 35)
        replace KH1 := KH1.alloc (.cells (pc none 0 0 fun _ => 0) 35)
        replace KR0 := KR0.alloc (.cells (pc none 0 0 fun _ => 0) 35)
        replace KR1 := KR1.alloc (.cells (pc none 0 0 fun _ => 0) 35)
        replace KQ7 := KQ7.alloc (.cells (pc none 0 0 fun _ => 0) 35)
        replace KX12 := KX12.alloc (.cells (pc none 0 0 fun _ => 0) 35)
        obtain ⟨g43, g43w⟩ : ∃ g, w10.heap.size = g := ⟨_, rfl⟩
        rw [g43w] at KZ45h KZ45l ⊢; clear g43w
        generalize w10.alloc (.cells (pc none 0 0 fun _ => 0) 35) = w44 at KZ45h KB KH0 KH1 KR0 KR1 KQ7 KX12 ⊢
        have KZ45 := kp_row KZ45h; clear KZ45h
        refine step_call 3 8 #[.agg (pc a1 n1 c1 O1)] (by kernel_rfl) rfl rfl (by simp [go_sem]) ?_
        refine (toProgramme_kp a1 n1 c1 F1 T1 O1 _ (by omega) (KH1.here)).mono ?_
        rintro e w47 ⟨b48, rfl, hb46, KX49⟩
        replace KB := KB.on hb46
        replace KH0 := KH0.on hb46
        replace KH1 := KH1.on hb46
        replace KR0 := KR0.on hb46
        replace KR1 := KR1.on hb46
        replace KQ7 := KQ7.on hb46
        replace KX12 := KX12.on hb46
        replace KZ45 := KZ45.on hb46
        refine ⟨_, rfl, KQ7.here, ?_⟩
        simp only [List.getElem_toArray, List.getElem_cons_zero, List.getElem_cons_succ, Act.put, List.setIfInBounds_toArray, List.set_cons_zero, List.set_cons_succ]
        refine step_call 5 6 #[.agg #[.int .i16 s0, .slice b11 n0 n0], .agg (pc b48 n1 n1 O1), .int .i64 x2] (by kernel_rfl) rfl rfl (by simp [go_sem]) ?_
        refine (specTurnProgramme_any s0 b11 n0 n0 P0 R0 b48 n1 n1 F1 T1 O1 x2 _ hs0 (by omega) HP0.out HR0.out (KX12.here) (by omega) HF1.out HT1.out HO1.out (KX49.here) hx2).mono ?_
        rw [← HR_0.out, ← HR_1.out, ← HRS_0.out]
        rintro e w51 ⟨b52, c53, rfl, hb50, ho54⟩
        have hz57 := OwnS.readAt ho54
        have KW58 := kp_sec hz57; clear hz57 ho54
        replace KB := KB.on hb50
        replace KH0 := KH0.on hb50
        replace KH1 := KH1.on hb50
        replace KR0 := KR0.on hb50
        replace KR1 := KR1.on hb50
        replace KQ7 := KQ7.on hb50
        replace KX12 := KX12.on hb50
        replace KZ45 := KZ45.on hb50
        replace KX49 := KX49.on hb50
        refine ⟨_, rfl, KQ7.here, ?_⟩
        simp only [List.getElem_toArray, List.getElem_cons_zero, List.getElem_cons_succ, Act.put, List.setIfInBounds_toArray, List.set_cons_zero, List.set_cons_succ]
        refine take_val 6 (.tuple #[.agg (pc b52 r0.length c53 rs0), .int .i64 r1]) rfl (by kernel_rfl) (by kernel_rfl) (by kernel_rfl) (fun _ _ _ h => h) rfl (fun V _ => by simp [go_sem]) KQ7.here ?_
        simp only [List.getElem_toArray, List.getElem_cons_zero, List.getElem_cons_succ, Act.put, List.setIfInBounds_toArray, List.set_cons_zero, List.set_cons_succ]
        refine take_val 7 (.agg (pc b52 r0.length c53 rs0)) rfl (by kernel_rfl) (by kernel_rfl) (by kernel_rfl) (fun _ _ _ h => h) rfl (fun V _ => by simp [go_sem]) KQ7.here ?_
        simp only [List.getElem_toArray, List.getElem_cons_zero, List.getElem_cons_succ, Act.put, List.setIfInBounds_toArray, List.set_cons_zero, List.set_cons_succ]
        refine take_val 8 (.int .i64 r1) rfl (by kernel_rfl) (by kernel_rfl) (by kernel_rfl) (fun _ _ _ h => h) rfl (fun V _ => by simp [go_sem]) KQ7.here ?_
        simp only [List.getElem_toArray, List.getElem_cons_zero, List.getElem_cons_succ, Act.put, List.setIfInBounds_toArray, List.set_cons_zero, List.set_cons_succ]
        have hbV59 := below_setRow KQ7.here KZ45l (pc b52 r0.length c53 rs0); have hdV59 := setRow_heap _ g43 _ (pc b52 r0.length c53 rs0) _ _ KZ45.here
        have hsV59 := sec_setRow KW58.here KZ45.here (pc b52 r0.length c53 rs0)
        refine step_skip 10 (w51.setRow g43 (pc b52 r0.length c53 rs0)) (by kernel_rfl) rfl rfl (ex_store_prog _ _ rfl b52 r0.length c53 rs0 g43 rfl rfl _ _ _ _ _ KZ45.here) hbV59 ?_
        simp only [List.getElem_toArray, List.getElem_cons_zero, List.getElem_cons_succ, Act.put, List.setIfInBounds_toArray, List.set_cons_zero, List.set_cons_succ]
        generalize w51.setRow g43 (pc b52 r0.length c53 rs0) = V59 at hbV59 hdV59 hsV59 ⊢
        refine take_val 11 (.int .i64 r1) rfl (by kernel_rfl) (by kernel_rfl) (by kernel_rfl) (fun _ _ _ h => h) rfl (fun V _ => by simp [go_sem]) hbV59 ?_
        simp only [List.getElem_toArray, List.getElem_cons_zero, List.getElem_cons_succ, Act.put, List.setIfInBounds_toArray, List.set_cons_zero, List.set_cons_succ]
        refine wpAnyH_done (by kernel_rfl) ?_ _
        exact hcont g43 V59 b11 b48 b52 c53 hbV59 hdV59 hsV59
    · simp only [List.getElem_toArray, List.getElem_cons_zero, List.getElem_cons_succ, Act.put, List.setIfInBounds_toArray, List.set_cons_zero, List.set_cons_succ]
      have KZ62h := heap_alloc_new w8 (.cells (pc none 0 0 fun _ => 0) 35)
      have KZ62l := (KQ7.here).size
      replace KB := KB.alloc (.cells (pc none 0 0 fun _ => 0) 35)
      replace KH0 := KH0.alloc (.cells (pc none 0 0 fun _ => 0) 35)
      replace KH1 := KH1.alloc (.cells (pc none 0 0 fun _ => 0) 35)
      replace KR0 := KR0.alloc (.cells (pc none 0 0 fun _ => 0) 35)
      replace KR1 := KR1.alloc (.cells (pc none 0 0 fun _ => 0) 35)
      replace KQ7 := KQ7.alloc (.cells (pc none 0 0 fun _ => 0) 35)
      obtain ⟨g60, g60w⟩ : ∃ g, w8.heap.size = g := ⟨_, rfl⟩
      rw [g60w] at KZ62h KZ62l ⊢; clear g60w
      generalize w8.alloc (.cells (pc none 0 0 fun _ => 0) 35) = w61 at KZ62h KB KH0 KH1 KR0 KR1 KQ7 ⊢
      have KZ62 := kp_row KZ62h; clear KZ62h
      refine step_call 1 7 #[.agg #[.int .i16 s0, .slice a0 n0 c0]] (by kernel_rfl) rfl rfl (by simp [go_sem]) ?_
      refine (toFrame_kp s0 a0 n0 c0 P0 R0 _ (by omega) hs0 (KH0.here)).mono ?_
      rintro e w64 ⟨b65, rfl, hb63, KX66⟩
      replace KB := KB.on hb63
      replace KH0 := KH0.on hb63
      replace KH1 := KH1.on hb63
      replace KR0 := KR0.on hb63
      replace KR1 := KR1.on hb63
      replace KQ7 := KQ7.on hb63
      replace KZ62 := KZ62.on hb63
      refine ⟨_, rfl, KQ7.here, ?_⟩
      simp only [List.getElem_toArray, List.getElem_cons_zero, List.getElem_cons_succ, Act.put, List.setIfInBounds_toArray, List.set_cons_zero, List.set_cons_succ]
      refine step_call 3 8 #[.agg (pc a1 n1 c1 O1)] (by kernel_rfl) rfl rfl (by simp [go_sem]) ?_
      refine (toProgramme_kp a1 n1 c1 F1 T1 O1 _ (by omega) (KH1.here)).mono ?_
      rintro e w68 ⟨b69, rfl, hb67, KX70⟩
      replace KB := KB.on hb67
      replace KH0 := KH0.on hb67
      replace KH1 := KH1.on hb67
      replace KR0 := KR0.on hb67
      replace KR1 := KR1.on hb67
      replace KQ7 := KQ7.on hb67
      replace KZ62 := KZ62.on hb67
      replace KX66 := KX66.on hb67
      refine ⟨_, rfl, KQ7.here, ?_⟩
      simp only [List.getElem_toArray, List.getElem_cons_zero, List.getElem_cons_succ, Act.put, List.setIfInBounds_toArray, List.set_cons_zero, List.set_cons_succ]
      refine step_call 5 6 #[.agg #[.int .i16 s0, .slice b65 n0 n0], .agg (pc b69 n1 n1 O1), .int .i64 x2] (by kernel_rfl) rfl rfl (by simp [go_sem]) ?_
      refine (specTurnProgramme_any s0 b65 n0 n0 P0 R0 b69 n1 n1 F1 T1 O1 x2 _ hs0 (by omega) HP0.out HR0.out (KX66.here) (by omega) HF1.out HT1.out HO1.out (KX70.here) hx2).mono ?_
      rw [← HR_0.out, ← HR_1.out, ← HRS_0.out]
      rintro e w72 ⟨b73, c74, rfl, hb71, ho75⟩
      have hz78 := OwnS.readAt ho75
      have KW79 := kp_sec hz78; clear hz78 ho75
      replace KB := KB.on hb71
      replace KH0 := KH0.on hb71
      replace KH1 := KH1.on hb71
      replace KR0 := KR0.on hb71
      replace KR1 := KR1.on hb71
      replace KQ7 := KQ7.on hb71
      replace KZ62 := KZ62.on hb71
      replace KX66 := KX66.on hb71
      replace KX70 := KX70.on hb71
      refine ⟨_, rfl, KQ7.here, ?_⟩
      simp only [List.getElem_toArray, List.getElem_cons_zero, List.getElem_cons_succ, Act.put, List.setIfInBounds_toArray, List.set_cons_zero, List.set_cons_succ]
      refine take_val 6 (.tuple #[.agg (pc b73 r0.length c74 rs0), .int .i64 r1]) rfl (by kernel_rfl) (by kernel_rfl) (by kernel_rfl) (fun _ _ _ h => h) rfl (fun V _ => by simp [go_sem]) KQ7.here ?_
      simp only [List.getElem_toArray, List.getElem_cons_zero, List.getElem_cons_succ, Act.put, List.setIfInBounds_toArray, List.set_cons_zero, List.set_cons_succ]
      refine take_val 7 (.agg (pc b73 r0.length c74 rs0)) rfl (by kernel_rfl) (by kernel_rfl) (by kernel_rfl) (fun _ _ _ h => h) rfl (fun V _ => by simp [go_sem]) KQ7.here ?_
      simp only [List.getElem_toArray, List.getElem_cons_zero, List.getElem_cons_succ, Act.put, List.setIfInBounds_toArray, List.set_cons_zero, List.set_cons_succ]
      refine take_val 8 (.int .i64 r1) rfl (by kernel_rfl) (by kernel_rfl) (by kernel_rfl) (fun _ _ _ h => h) rfl (fun V _ => by simp [go_sem]) KQ7.here ?_
      simp only [List.getElem_toArray, List.getElem_cons_zero, List.getElem_cons_succ, Act.put, List.setIfInBounds_toArray, List.set_cons_zero, List.set_cons_succ]
      have hbV80 := below_setRow KQ7.here KZ62l (pc b73 r0.length c74 rs0); have hdV80 := setRow_heap _ g60 _ (pc b73 r0.length c74 rs0) _ _ KZ62.here
      have hsV80 := sec_setRow KW79.here KZ62.here (pc b73 r0.length c74 rs0)
      refine step_skip 10 (w72.setRow g60 (pc b73 r0.length c74 rs0)) (by kernel_rfl) rfl rfl (ex_store_prog _ _ rfl b73 r0.length c74 rs0 g60 rfl rfl _ _ _ _ _ KZ62.here) hbV80 ?_
      simp only [List.getElem_toArray, List.getElem_cons_zero, List.getElem_cons_succ, Act.put, List.setIfInBounds_toArray, List.set_cons_zero, List.set_cons_succ]
      generalize w72.setRow g60 (pc b73 r0.length c74 rs0) = V80 at hbV80 hdV80 hsV80 ⊢
      refine take_val 11 (.int .i64 r1) rfl (by kernel_rfl) (by kernel_rfl) (by kernel_rfl) (fun _ _ _ h => h) rfl (fun V _ => by simp [go_sem]) hbV80 ?_
      simp only [List.getElem_toArray, List.getElem_cons_zero, List.getElem_cons_succ, Act.put, List.setIfInBounds_toArray, List.set_cons_zero, List.set_cons_succ]
      refine wpAnyH_done (by kernel_rfl) ?_ _
      exact hcont g60 V80 b65 b69 b73 c74 hbV80 hdV80 hsV80
  intro g81 V82 _ _ b85 c86 hb83 hb83d hb83s
  replace KB := KB.on hb83
  replace KH0 := KH0.on hb83
  replace KH1 := KH1.on hb83
  replace KR0 := KR0.on hb83
  replace KR1 := KR1.on hb83
  have KR84 := kp_row hb83d; have KW87 := kp_sec hb83s; clear hb83d hb83 hb83s
  go_wp2_with (first | (with_reducible refine load_lframe rfl _ rfl (w.heap.size) rfl _ s0 a0 n0 c0 KR0.here ?_) | (with_reducible refine load_lprog rfl _ rfl (w.heap.size + 1) rfl _ a1 n1 c1 O1 KR1.here ?_) | (with_reducible refine load_iprog rfl _ rfl g81 rfl _ b85 r0.length c86 rs0 KR84.here ?_) | (with_reducible refine load_GfU (ex_load_iprog _ rfl g81 rfl _ b85 r0.length c86 rs0 KR84.here) rfl ?_))
  replace KB := KB.fix
  replace KH0 := KH0.fix
  replace KH1 := KH1.fix
  replace KR0 := KR0.fix
  replace KR1 := KR1.fix
  replace KR84 := KR84.fix
  replace KW87 := KW87.fix
  refine (toFrame_own s0 a0 n0 c0 P0 R0 _ (by omega) hs0 (KH0.here)).mono ?_
  rintro e w89 ⟨b90, rfl, hb88, KX91, xs95, KO92⟩
  have hlt93 := (KO92.here).lt; have hsz94 := hb88.size
  replace KB := KB.on hb88
  replace KH0 := KH0.on hb88
  replace KH1 := KH1.on hb88
  replace KR0 := KR0.on hb88
  replace KR1 := KR1.on hb88
  replace KR84 := KR84.on hb88
  replace KW87 := KW87.on hb88
  replace KB := KB.alloc (.cells #[.int .i16 s0, .slice b90 n0 n0] 40)
  replace KH0 := KH0.alloc (.cells #[.int .i16 s0, .slice b90 n0 n0] 40)
  replace KH1 := KH1.alloc (.cells #[.int .i16 s0, .slice b90 n0 n0] 40)
  replace KR0 := KR0.alloc (.cells #[.int .i16 s0, .slice b90 n0 n0] 40)
  replace KR1 := KR1.alloc (.cells #[.int .i16 s0, .slice b90 n0 n0] 40)
  replace KR84 := KR84.alloc (.cells #[.int .i16 s0, .slice b90 n0 n0] 40)
  replace KW87 := KW87.alloc (.cells #[.int .i16 s0, .slice b90 n0 n0] 40)
  replace KX91 := KX91.alloc (.cells #[.int .i16 s0, .slice b90 n0 n0] 40)
  replace KO92 := KO92.alloc (.cells #[.int .i16 s0, .slice b90 n0 n0] 40)
  have KR97 := kp_new1 w89 #[.int .i16 s0, .slice b90 n0 n0] 40 (g := w89.heap.size) rfl
  have hsz98 : w89.heap.size < (w89.alloc (.cells #[.int .i16 s0, .slice b90 n0 n0] 40)).heap.size := by simp
  go_wp2_with (first | (with_reducible refine load_lframe rfl _ rfl (w.heap.size) rfl _ s0 a0 n0 c0 KR0.here ?_) | (with_reducible refine load_lprog rfl _ rfl (w.heap.size + 1) rfl _ a1 n1 c1 O1 KR1.here ?_) | (with_reducible refine load_iprog rfl _ rfl g81 rfl _ b85 r0.length c86 rs0 KR84.here ?_) | (with_reducible refine load_GfU (ex_load_iprog _ rfl g81 rfl _ b85 r0.length c86 rs0 KR84.here) rfl ?_) | (with_reducible refine load_iframe rfl _ rfl (w89.heap.size) rfl _ s0 b90 n0 n0 KR97.here ?_))
  generalize (w89.alloc (.cells #[.int .i16 s0, .slice b90 n0 n0] 40)) = w99 at KB KH0 KH1 KR0 KR1 KR84 KW87 KX91 KO92 KR97 hsz98 ⊢
  refine (toProgramme_own a1 n1 c1 F1 T1 O1 _ (by omega) (KH1.here)).mono ?_
  rintro e w101 ⟨b102, rfl, hb100, KX103, xs107, KO104⟩
  have hlt105 := (KO104.here).lt; have hsz106 := hb100.size
  replace KB := KB.on hb100
  replace KH0 := KH0.on hb100
  replace KH1 := KH1.on hb100
  replace KR0 := KR0.on hb100
  replace KR1 := KR1.on hb100
  replace KR84 := KR84.on hb100
  replace KW87 := KW87.on hb100
  replace KX91 := KX91.on hb100
  replace KO92 := KO92.on hb100
  replace KR97 := KR97.on hb100
  go_wp2_with (first | (with_reducible refine copy_prog rfl rfl rfl _ _ rfl b102 n1 n1 O1 rfl rfl ?_; intro w110 hn111 hn111s hn111g; have hn111z := Nat.le_of_eq hn111s.symm; clear hn111s; replace KB := KB.on hn111; replace KH0 := KH0.on hn111; replace KH1 := KH1.on hn111; replace KR0 := KR0.on hn111; replace KR1 := KR1.on hn111; replace KR84 := KR84.on hn111; replace KW87 := KW87.on hn111; replace KX91 := KX91.on hn111; replace KO92 := KO92.on hn111; replace KR97 := KR97.on hn111; replace KX103 := KX103.on hn111; replace KO104 := KO104.on hn111; have KR109 := kp_row hn111g; clear hn111 hn111g) | (with_reducible refine load_lframe rfl _ rfl (w.heap.size) rfl _ s0 a0 n0 c0 KR0.here ?_) | (with_reducible refine load_lprog rfl _ rfl (w.heap.size + 1) rfl _ a1 n1 c1 O1 KR1.here ?_) | (with_reducible refine load_iprog rfl _ rfl g81 rfl _ b85 r0.length c86 rs0 KR84.here ?_) | (with_reducible refine load_GfU (ex_load_iprog _ rfl g81 rfl _ b85 r0.length c86 rs0 KR84.here) rfl ?_) | (with_reducible refine load_iframe rfl _ rfl (w89.heap.size) rfl _ s0 b90 n0 n0 KR97.here ?_) | (with_reducible refine load_iprog rfl _ rfl (w101.heap.size) rfl _ b102 n1 n1 O1 KR109.here ?_))
  refine (implTurnProgramme_any s0 b90 n0 n0 P0 R0 b102 n1 n1 F1 T1 O1 x2 _ hs0 (by omega) HP0.out HR0.out (KX91.here) (by omega) HF1.out HT1.out HO1.out (KX103.here) hx2).mono ?_
  rw [← HR_0.out, ← HR_1.out, ← HRS_0.out]
  rintro e w113 ⟨b114, c115, rfl, hb112, ho116⟩
  have hz119 := OwnS.readAt ho116
  have hlt121 := ho116.lt; have KG120 := kp_OwnS ho116; clear hz119
  clear ho116
  have hsz122 := hb112.size
  have hsz123 := hb112.size
  replace KB := KB.on hb112
  replace KH0 := KH0.on hb112
  replace KH1 := KH1.on hb112
  replace KR0 := KR0.on hb112
  replace KR1 := KR1.on hb112
  replace KR84 := KR84.on hb112
  replace KW87 := KW87.on hb112
  replace KX91 := KX91.on hb112
  replace KO92 := KO92.on hb112
  replace KR97 := KR97.on hb112
  replace KX103 := KX103.on hb112
  replace KO104 := KO104.on hb112
  replace KR109 := KR109.on hb112
  go_wp2_with (first | (with_reducible refine copy_prog rfl rfl rfl _ _ rfl b114 r0.length c115 rs0 rfl rfl ?_; intro w126 hn127 _ hn127g; replace KB := KB.on hn127; replace KH0 := KH0.on hn127; replace KH1 := KH1.on hn127; replace KR0 := KR0.on hn127; replace KR1 := KR1.on hn127; replace KR84 := KR84.on hn127; replace KW87 := KW87.on hn127; replace KX91 := KX91.on hn127; replace KO92 := KO92.on hn127; replace KR97 := KR97.on hn127; replace KX103 := KX103.on hn127; replace KO104 := KO104.on hn127; replace KR109 := KR109.on hn127; replace KG120 := KG120.on hn127; have KR125 := kp_row hn127g; clear hn127 hn127g) | (with_reducible refine load_lframe rfl _ rfl (w.heap.size) rfl _ s0 a0 n0 c0 KR0.here ?_) | (with_reducible refine load_lprog rfl _ rfl (w.heap.size + 1) rfl _ a1 n1 c1 O1 KR1.here ?_) | (with_reducible refine load_iprog rfl _ rfl g81 rfl _ b85 r0.length c86 rs0 KR84.here ?_) | (with_reducible refine load_GfU (ex_load_iprog _ rfl g81 rfl _ b85 r0.length c86 rs0 KR84.here) rfl ?_) | (with_reducible refine load_iframe rfl _ rfl (w89.heap.size) rfl _ s0 b90 n0 n0 KR97.here ?_) | (with_reducible refine load_iprog rfl _ rfl (w101.heap.size) rfl _ b102 n1 n1 O1 KR109.here ?_) | (with_reducible refine load_iprog rfl _ rfl (w113.heap.size) rfl _ b114 r0.length c115 rs0 KR125.here ?_) | (with_reducible refine load_GfU (ex_load_iprog _ rfl (w113.heap.size) rfl _ b114 r0.length c115 rs0 KR125.here) rfl ?_))
  refine (eqProgramme_kp b114 b85 r0.length c115 c86 (fun i => (r0.getD i (0, 0)).1) (fun i => (r0.getD i (0, 0)).2) rs0 _ (by omega) (KG120.here).readAt (KW87.here)).mono ?_
  rintro e w129 ⟨rfl, hb128⟩
  replace KB := KB.on hb128
  replace KH0 := KH0.on hb128
  replace KH1 := KH1.on hb128
  replace KR0 := KR0.on hb128
  replace KR1 := KR1.on hb128
  replace KR84 := KR84.on hb128
  replace KW87 := KW87.on hb128
  replace KX91 := KX91.on hb128
  replace KO92 := KO92.on hb128
  replace KR97 := KR97.on hb128
  replace KX103 := KX103.on hb128
  replace KO104 := KO104.on hb128
  replace KR109 := KR109.on hb128
  replace KG120 := KG120.on hb128
  replace KR125 := KR125.on hb128
  go_wp2_with (first | (with_reducible refine load_lframe rfl _ rfl (w.heap.size) rfl _ s0 a0 n0 c0 KR0.here ?_) | (with_reducible refine load_lprog rfl _ rfl (w.heap.size + 1) rfl _ a1 n1 c1 O1 KR1.here ?_) | (with_reducible refine load_iprog rfl _ rfl g81 rfl _ b85 r0.length c86 rs0 KR84.here ?_) | (with_reducible refine load_GfU (ex_load_iprog _ rfl g81 rfl _ b85 r0.length c86 rs0 KR84.here) rfl ?_) | (with_reducible refine load_iframe rfl _ rfl (w89.heap.size) rfl _ s0 b90 n0 n0 KR97.here ?_) | (with_reducible refine load_iprog rfl _ rfl (w101.heap.size) rfl _ b102 n1 n1 O1 KR109.here ?_) | (with_reducible refine load_iprog rfl _ rfl (w113.heap.size) rfl _ b114 r0.length c115 rs0 KR125.here ?_) | (with_reducible refine load_GfU (ex_load_iprog _ rfl (w113.heap.size) rfl _ b114 r0.length c115 rs0 KR125.here) rfl ?_))
  refine wp_region_S (fun V => Below w129.heap.size w129 V) (by kernel_rfl) (Below.refl _ _).drew ?_
  refine take_val 0 (.agg #[.int .i16 s0, .slice b90 n0 n0]) rfl (by kernel_rfl) (by kernel_rfl) (by kernel_rfl) (fun _ _ _ h => h) rfl (fun V hV => ex_load_iframe _ rfl (w89.heap.size) rfl _ s0 b90 n0 n0 (KR97.at hV)) (Below.refl _ _).drew ?_
  simp only [List.getElem_toArray, List.getElem_cons_zero, List.getElem_cons_succ, Act.put, List.setIfInBounds_toArray, List.set_cons_zero, List.set_cons_succ]
  refine take_val 1 (.agg #[.int .i16 s0, .slice a0 n0 c0]) rfl (by kernel_rfl) (by kernel_rfl) (by kernel_rfl) (fun _ _ _ h => h) rfl (fun V hV => ex_load_lframe _ rfl (w.heap.size) rfl _ s0 a0 n0 c0 (KR0.at hV)) (Below.refl _ _).drew ?_
  simp only [List.getElem_toArray, List.getElem_cons_zero, List.getElem_cons_succ, Act.put, List.setIfInBounds_toArray, List.set_cons_zero, List.set_cons_succ]
  have KQ130 := kp_start w129; have hdKQ130 := below_drew w129
  replace KB := KB.on hdKQ130
  replace KH0 := KH0.on hdKQ130
  replace KH1 := KH1.on hdKQ130
  replace KR0 := KR0.on hdKQ130
  replace KR1 := KR1.on hdKQ130
  replace KR84 := KR84.on hdKQ130
  replace KW87 := KW87.on hdKQ130
  replace KX91 := KX91.on hdKQ130
  replace KO92 := KO92.on hdKQ130
  replace KR97 := KR97.on hdKQ130
  replace KX103 := KX103.on hdKQ130
  replace KO104 := KO104.on hdKQ130
  replace KR109 := KR109.on hdKQ130
  replace KG120 := KG120.on hdKQ130
  replace KR125 := KR125.on hdKQ130
  clear hdKQ130
  refine step_call 2 7 #[.agg #[.int .i16 s0, .slice a0 n0 c0]] (by kernel_rfl) rfl rfl (by simp [go_sem]) ?_
  refine (toFrame_kp s0 a0 n0 c0 P0 R0 _ (by omega) hs0 (KH0.here)).mono ?_
  rintro e w132 ⟨b133, rfl, hb131, KX134⟩
  replace KB := KB.on hb131
  replace KH0 := KH0.on hb131
  replace KH1 := KH1.on hb131
  replace KR0 := KR0.on hb131
  replace KR1 := KR1.on hb131
  replace KR84 := KR84.on hb131
  replace KW87 := KW87.on hb131
  replace KX91 := KX91.on hb131
  replace KO92 := KO92.on hb131
  replace KR97 := KR97.on hb131
  replace KX103 := KX103.on hb131
  replace KO104 := KO104.on hb131
  replace KR109 := KR109.on hb131
  replace KG120 := KG120.on hb131
  replace KR125 := KR125.on hb131
  replace KQ130 := KQ130.on hb131
  refine ⟨_, rfl, KQ130.here, ?_⟩
  simp only [List.getElem_toArray, List.getElem_cons_zero, List.getElem_cons_succ, Act.put, List.setIfInBounds_toArray, List.set_cons_zero, List.set_cons_succ]
  refine step_call 3 11 #[.agg #[.int .i16 s0, .slice b90 n0 n0], .agg #[.int .i16 s0, .slice b133 n0 n0]] (by kernel_rfl) rfl rfl (by simp [go_sem]) ?_
  refine (eqFrame_kp s0 _ _ n0 n0 n0 P0 R0 _ (by omega) (KX91.here) (KX134.here)).mono ?_
  rintro e w136 ⟨rfl, hb135⟩
  replace KB := KB.on hb135
  replace KH0 := KH0.on hb135
  replace KH1 := KH1.on hb135
  replace KR0 := KR0.on hb135
  replace KR1 := KR1.on hb135
  replace KR84 := KR84.on hb135
  replace KW87 := KW87.on hb135
  replace KX91 := KX91.on hb135
  replace KO92 := KO92.on hb135
  replace KR97 := KR97.on hb135
  replace KX103 := KX103.on hb135
  replace KO104 := KO104.on hb135
  replace KR109 := KR109.on hb135
  replace KG120 := KG120.on hb135
  replace KR125 := KR125.on hb135
  replace KQ130 := KQ130.on hb135
  replace KX134 := KX134.on hb135
  refine ⟨_, rfl, KQ130.here, ?_⟩
  simp only [List.getElem_toArray, List.getElem_cons_zero, List.getElem_cons_succ, Act.put, List.setIfInBounds_toArray, List.set_cons_zero, List.set_cons_succ]
  refine take_val 4 (.bool false) rfl (by kernel_rfl) (by kernel_rfl) (by kernel_rfl) (fun _ _ _ h => h) rfl (fun V _ => by simp [go_sem]) KQ130.here ?_
  simp only [List.getElem_toArray, List.getElem_cons_zero, List.getElem_cons_succ, Act.put, List.setIfInBounds_toArray, List.set_cons_zero, List.set_cons_succ]
  refine wpAnyH_done (by kernel_rfl) ?_ _
  clear KQ130
  go_wp2_with (first | (with_reducible refine load_lframe rfl _ rfl (w.heap.size) rfl _ s0 a0 n0 c0 KR0.here ?_) | (with_reducible refine load_lprog rfl _ rfl (w.heap.size + 1) rfl _ a1 n1 c1 O1 KR1.here ?_) | (with_reducible refine load_iprog rfl _ rfl g81 rfl _ b85 r0.length c86 rs0 KR84.here ?_) | (with_reducible refine load_GfU (ex_load_iprog _ rfl g81 rfl _ b85 r0.length c86 rs0 KR84.here) rfl ?_) | (with_reducible refine load_iframe rfl _ rfl (w89.heap.size) rfl _ s0 b90 n0 n0 KR97.here ?_) | (with_reducible refine load_iprog rfl _ rfl (w101.heap.size) rfl _ b102 n1 n1 O1 KR109.here ?_) | (with_reducible refine load_iprog rfl _ rfl (w113.heap.size) rfl _ b114 r0.length c115 rs0 KR125.here ?_) | (with_reducible refine load_GfU (ex_load_iprog _ rfl (w113.heap.size) rfl _ b114 r0.length c115 rs0 KR125.here) rfl ?_))
  refine wp_region_S (fun V => Below w136.heap.size w136 V) (by kernel_rfl) (Below.refl _ _).drew ?_
  refine take_val 0 (.agg (pc b102 n1 n1 O1)) rfl (by kernel_rfl) (by kernel_rfl) (by kernel_rfl) (fun _ _ _ h => h) rfl (fun V hV => ex_load_iprog _ rfl (w101.heap.size) rfl _ b102 n1 n1 O1 (KR109.at hV)) (Below.refl _ _).drew ?_
  simp only [List.getElem_toArray, List.getElem_cons_zero, List.getElem_cons_succ, Act.put, List.setIfInBounds_toArray, List.set_cons_zero, List.set_cons_succ]
  refine take_val 1 (.agg (pc a1 n1 c1 O1)) rfl (by kernel_rfl) (by kernel_rfl) (by kernel_rfl) (fun _ _ _ h => h) rfl (fun V hV => ex_load_lprog _ rfl (w.heap.size + 1) rfl _ a1 n1 c1 O1 (KR1.at hV)) (Below.refl _ _).drew ?_
  simp only [List.getElem_toArray, List.getElem_cons_zero, List.getElem_cons_succ, Act.put, List.setIfInBounds_toArray, List.set_cons_zero, List.set_cons_succ]
  have KQ137 := kp_start w136; have hdKQ137 := below_drew w136
  replace KB := KB.on hdKQ137
  replace KH0 := KH0.on hdKQ137
  replace KH1 := KH1.on hdKQ137
  replace KR0 := KR0.on hdKQ137
  replace KR1 := KR1.on hdKQ137
  replace KR84 := KR84.on hdKQ137
  replace KW87 := KW87.on hdKQ137
  replace KX91 := KX91.on hdKQ137
  replace KO92 := KO92.on hdKQ137
  replace KR97 := KR97.on hdKQ137
  replace KX103 := KX103.on hdKQ137
  replace KO104 := KO104.on hdKQ137
  replace KR109 := KR109.on hdKQ137
  replace KG120 := KG120.on hdKQ137
  replace KR125 := KR125.on hdKQ137
  replace KX134 := KX134.on hdKQ137
  clear hdKQ137
  refine step_call 2 8 #[.agg (pc a1 n1 c1 O1)] (by kernel_rfl) rfl rfl (by simp [go_sem]) ?_
  refine (toProgramme_kp a1 n1 c1 F1 T1 O1 _ (by omega) (KH1.here)).mono ?_
  rintro e w139 ⟨b140, rfl, hb138, KX141⟩
  replace KB := KB.on hb138
  replace KH0 := KH0.on hb138
  replace KH1 := KH1.on hb138
  replace KR0 := KR0.on hb138
  replace KR1 := KR1.on hb138
  replace KR84 := KR84.on hb138
  replace KW87 := KW87.on hb138
  replace KX91 := KX91.on hb138
  replace KO92 := KO92.on hb138
  replace KR97 := KR97.on hb138
  replace KX103 := KX103.on hb138
  replace KO104 := KO104.on hb138
  replace KR109 := KR109.on hb138
  replace KG120 := KG120.on hb138
  replace KR125 := KR125.on hb138
  replace KX134 := KX134.on hb138
  replace KQ137 := KQ137.on hb138
  refine ⟨_, rfl, KQ137.here, ?_⟩
  simp only [List.getElem_toArray, List.getElem_cons_zero, List.getElem_cons_succ, Act.put, List.setIfInBounds_toArray, List.set_cons_zero, List.set_cons_succ]
  refine step_call 3 10 #[.agg (pc b102 n1 n1 O1), .agg (pc b140 n1 n1 O1)] (by kernel_rfl) rfl rfl (by simp [go_sem]) ?_
  refine (eqProgramme_kp _ _ n1 n1 n1 F1 T1 O1 _ (by omega) (KX103.here) (KX141.here)).mono ?_
  rintro e w143 ⟨rfl, hb142⟩
  replace KB := KB.on hb142
  replace KH0 := KH0.on hb142
  replace KH1 := KH1.on hb142
  replace KR0 := KR0.on hb142
  replace KR1 := KR1.on hb142
  replace KR84 := KR84.on hb142
  replace KW87 := KW87.on hb142
  replace KX91 := KX91.on hb142
  replace KO92 := KO92.on hb142
  replace KR97 := KR97.on hb142
  replace KX103 := KX103.on hb142
  replace KO104 := KO104.on hb142
  replace KR109 := KR109.on hb142
  replace KG120 := KG120.on hb142
  replace KR125 := KR125.on hb142
  replace KX134 := KX134.on hb142
  replace KQ137 := KQ137.on hb142
  replace KX141 := KX141.on hb142
  refine ⟨_, rfl, KQ137.here, ?_⟩
  simp only [List.getElem_toArray, List.getElem_cons_zero, List.getElem_cons_succ, Act.put, List.setIfInBounds_toArray, List.set_cons_zero, List.set_cons_succ]
  refine take_val 4 (.bool false) rfl (by kernel_rfl) (by kernel_rfl) (by kernel_rfl) (fun _ _ _ h => h) rfl (fun V _ => by simp [go_sem]) KQ137.here ?_
  simp only [List.getElem_toArray, List.getElem_cons_zero, List.getElem_cons_succ, Act.put, List.setIfInBounds_toArray, List.set_cons_zero, List.set_cons_succ]
  refine wpAnyH_done (by kernel_rfl) ?_ _
  clear KQ137
  go_wp2_with (first | (with_reducible refine load_lframe rfl _ rfl (w.heap.size) rfl _ s0 a0 n0 c0 KR0.here ?_) | (with_reducible refine load_lprog rfl _ rfl (w.heap.size + 1) rfl _ a1 n1 c1 O1 KR1.here ?_) | (with_reducible refine load_iprog rfl _ rfl g81 rfl _ b85 r0.length c86 rs0 KR84.here ?_) | (with_reducible refine load_GfU (ex_load_iprog _ rfl g81 rfl _ b85 r0.length c86 rs0 KR84.here) rfl ?_) | (with_reducible refine load_iframe rfl _ rfl (w89.heap.size) rfl _ s0 b90 n0 n0 KR97.here ?_) | (with_reducible refine load_iprog rfl _ rfl (w101.heap.size) rfl _ b102 n1 n1 O1 KR109.here ?_) | (with_reducible refine load_iprog rfl _ rfl (w113.heap.size) rfl _ b114 r0.length c115 rs0 KR125.here ?_) | (with_reducible refine load_GfU (ex_load_iprog _ rfl (w113.heap.size) rfl _ b114 r0.length c115 rs0 KR125.here) rfl ?_))
  refine (markFrame_own V82.heap.size s0 b90 n0 n0 _ 1 _ (by omega) (by omega) (KO92.here)).mono ?_
  rintro e w145 ⟨rfl, hg146, _⟩
  obtain ⟨q148, hq148⟩ : ∃ q : Nat, 1 + n0 * 2 = q := ⟨_, rfl⟩
  rw [hq148]; have hq148b : q148 ≤ 110000000 := by omega
  clear hq148
  replace KB := KB.grown hg146 (fun k hk => by have := hlt93 k hk; omega)
  replace KH0 := KH0.grown hg146 (fun k hk => by have := hlt93 k hk; omega)
  replace KH1 := KH1.grown hg146 (fun k hk => by have := hlt93 k hk; omega)
  replace KR0 := KR0.grown hg146 (fun k hk => by have := hlt93 k hk; omega)
  replace KR1 := KR1.grown hg146 (fun k hk => by have := hlt93 k hk; omega)
  replace KR84 := KR84.grown hg146 (fun k hk => by have := hlt93 k hk; omega)
  replace KW87 := KW87.grown hg146 (fun k hk => by have := hlt93 k hk; omega)
  have hr := own_grown (KO104.here) hg146 (fun k hk => by have := hlt93 k hk; omega); replace KO104 := kp_ownR hr; clear hr
  have hr := row_grown (KR109.here) hg146 (fun k hk => by have := hlt93 k hk; omega); replace KR109 := kp_row hr; clear hr
  have hr := own_grown (KG120.here) hg146 (fun k hk => by have := hlt93 k hk; omega); replace KG120 := kp_OwnS hr; clear hr
  have hr := row_grown (KR125.here) hg146 (fun k hk => by have := hlt93 k hk; omega); replace KR125 := kp_row hr; clear hr
  clear KX91 KO92 KR97 KX103 KX134 KX141
  clear hg146
  go_wp2_with (first | (with_reducible refine load_lframe rfl _ rfl (w.heap.size) rfl _ s0 a0 n0 c0 KR0.here ?_) | (with_reducible refine load_lprog rfl _ rfl (w.heap.size + 1) rfl _ a1 n1 c1 O1 KR1.here ?_) | (with_reducible refine load_iprog rfl _ rfl g81 rfl _ b85 r0.length c86 rs0 KR84.here ?_) | (with_reducible refine load_GfU (ex_load_iprog _ rfl g81 rfl _ b85 r0.length c86 rs0 KR84.here) rfl ?_) | (with_reducible refine load_iprog rfl _ rfl (w101.heap.size) rfl _ b102 n1 n1 O1 KR109.here ?_) | (with_reducible refine load_iprog rfl _ rfl (w113.heap.size) rfl _ b114 r0.length c115 rs0 KR125.here ?_) | (with_reducible refine load_GfU (ex_load_iprog _ rfl (w113.heap.size) rfl _ b114 r0.length c115 rs0 KR125.here) rfl ?_))
  refine (markProgramme_own w99.heap.size b102 n1 n1 O1 _ q148 _ (by omega) (by omega) (KO104.here)).mono ?_
  rintro e w150 ⟨rfl, hg151, _⟩
  obtain ⟨q153, hq153⟩ : ∃ q : Nat, q148 + n1 * 2 = q := ⟨_, rfl⟩
  rw [hq153]; have hq153b : q153 ≤ 220000000 := by omega
  clear hq153
  replace KB := KB.grown hg151 (fun k hk => by have := hlt105 k hk; omega)
  replace KH0 := KH0.grown hg151 (fun k hk => by have := hlt105 k hk; omega)
  replace KH1 := KH1.grown hg151 (fun k hk => by have := hlt105 k hk; omega)
  replace KR0 := KR0.grown hg151 (fun k hk => by have := hlt105 k hk; omega)
  replace KR1 := KR1.grown hg151 (fun k hk => by have := hlt105 k hk; omega)
  replace KR84 := KR84.grown hg151 (fun k hk => by have := hlt105 k hk; omega)
  replace KW87 := KW87.grown hg151 (fun k hk => by have := hlt105 k hk; omega)
  have hr := own_grown (KG120.here) hg151 (fun k hk => by have := hlt105 k hk; omega); replace KG120 := kp_OwnS hr; clear hr
  have hr := row_grown (KR125.here) hg151 (fun k hk => by have := hlt105 k hk; omega); replace KR125 := kp_row hr; clear hr
  clear KO104 KR109
  clear hg151
  go_wp2_with (first | (with_reducible refine load_lframe rfl _ rfl (w.heap.size) rfl _ s0 a0 n0 c0 KR0.here ?_) | (with_reducible refine load_lprog rfl _ rfl (w.heap.size + 1) rfl _ a1 n1 c1 O1 KR1.here ?_) | (with_reducible refine load_iprog rfl _ rfl g81 rfl _ b85 r0.length c86 rs0 KR84.here ?_) | (with_reducible refine load_GfU (ex_load_iprog _ rfl g81 rfl _ b85 r0.length c86 rs0 KR84.here) rfl ?_) | (with_reducible refine load_iprog rfl _ rfl (w113.heap.size) rfl _ b114 r0.length c115 rs0 KR125.here ?_) | (with_reducible refine load_GfU (ex_load_iprog _ rfl (w113.heap.size) rfl _ b114 r0.length c115 rs0 KR125.here) rfl ?_))
  refine (eqProgramme_kp b114 b85 r0.length c115 c86 (fun i => (r0.getD i (0, 0)).1) (fun i => (r0.getD i (0, 0)).2) rs0 _ (by omega) (KG120.here).readAt (KW87.here)).mono ?_
  rintro e w155 ⟨rfl, hb154⟩
  replace KB := KB.on hb154
  replace KH0 := KH0.on hb154
  replace KH1 := KH1.on hb154
  replace KR0 := KR0.on hb154
  replace KR1 := KR1.on hb154
  replace KR84 := KR84.on hb154
  replace KW87 := KW87.on hb154
  replace KG120 := KG120.on hb154
  replace KR125 := KR125.on hb154
  go_wp2_with (first | (with_reducible refine load_lframe rfl _ rfl (w.heap.size) rfl _ s0 a0 n0 c0 KR0.here ?_) | (with_reducible refine load_lprog rfl _ rfl (w.heap.size + 1) rfl _ a1 n1 c1 O1 KR1.here ?_) | (with_reducible refine load_iprog rfl _ rfl g81 rfl _ b85 r0.length c86 rs0 KR84.here ?_) | (with_reducible refine load_GfU (ex_load_iprog _ rfl g81 rfl _ b85 r0.length c86 rs0 KR84.here) rfl ?_) | (with_reducible refine load_iprog rfl _ rfl (w113.heap.size) rfl _ b114 r0.length c115 rs0 KR125.here ?_) | (with_reducible refine load_GfU (ex_load_iprog _ rfl (w113.heap.size) rfl _ b114 r0.length c115 rs0 KR125.here) rfl ?_))
  refine (markProgramme_own w110.heap.size b114 r0.length c115 rs0 _ 1 _ (by omega) (by omega) (KG120.here)).mono ?_
  rintro e w157 ⟨rfl, hg158, ho159⟩
  obtain ⟨q160, hq160⟩ : ∃ q : Nat, 1 + r0.length * 2 = q := ⟨_, rfl⟩
  rw [hq160]; have HQ161 := Lib.hid hq160; have hq160b : q160 ≤ 5000000 := by omega
  clear hq160
  replace KB := KB.grown hg158 (fun k hk => by have := hlt121 k hk; omega)
  replace KH0 := KH0.grown hg158 (fun k hk => by have := hlt121 k hk; omega)
  replace KH1 := KH1.grown hg158 (fun k hk => by have := hlt121 k hk; omega)
  replace KR0 := KR0.grown hg158 (fun k hk => by have := hlt121 k hk; omega)
  replace KR1 := KR1.grown hg158 (fun k hk => by have := hlt121 k hk; omega)
  replace KR84 := KR84.grown hg158 (fun k hk => by have := hlt121 k hk; omega)
  replace KW87 := KW87.grown hg158 (fun k hk => by have := hlt121 k hk; omega)
  have hr := row_grown (KR125.here) hg158 (fun k hk => by have := hlt121 k hk; omega); replace KR125 := kp_row hr; clear hr
  have KG120m := kp_ownR ho159; clear ho159 hg158
  go_wp2_with (first | (with_reducible refine load_lframe rfl _ rfl (w.heap.size) rfl _ s0 a0 n0 c0 KR0.here ?_) | (with_reducible refine load_lprog rfl _ rfl (w.heap.size + 1) rfl _ a1 n1 c1 O1 KR1.here ?_) | (with_reducible refine load_iprog rfl _ rfl g81 rfl _ b85 r0.length c86 rs0 KR84.here ?_) | (with_reducible refine load_GfU (ex_load_iprog _ rfl g81 rfl _ b85 r0.length c86 rs0 KR84.here) rfl ?_) | (with_reducible refine load_iprog rfl _ rfl (w113.heap.size) rfl _ b114 r0.length c115 rs0 KR125.here ?_) | (with_reducible refine load_GfU (ex_load_iprog _ rfl (w113.heap.size) rfl _ b114 r0.length c115 rs0 KR125.here) rfl ?_))
  refine (heldProgramme_own w110.heap.size b114 r0.length c115 rs0 1 _ (by omega) (by omega) (KG120m.here)).mono ?_
  rintro e w163 ⟨rfl, hb162⟩
  rw [HQ161.out]
  replace KB := KB.on hb162
  replace KH0 := KH0.on hb162
  replace KH1 := KH1.on hb162
  replace KR0 := KR0.on hb162
  replace KR1 := KR1.on hb162
  replace KR84 := KR84.on hb162
  replace KW87 := KW87.on hb162
  replace KR125 := KR125.on hb162
  replace KG120m := KG120m.on hb162
  go_wp2_with (first | (with_reducible refine load_lframe rfl _ rfl (w.heap.size) rfl _ s0 a0 n0 c0 KR0.here ?_) | (with_reducible refine load_lprog rfl _ rfl (w.heap.size + 1) rfl _ a1 n1 c1 O1 KR1.here ?_) | (with_reducible refine load_iprog rfl _ rfl g81 rfl _ b85 r0.length c86 rs0 KR84.here ?_) | (with_reducible refine load_GfU (ex_load_iprog _ rfl g81 rfl _ b85 r0.length c86 rs0 KR84.here) rfl ?_) | (with_reducible refine load_iprog rfl _ rfl (w113.heap.size) rfl _ b114 r0.length c115 rs0 KR125.here ?_) | (with_reducible refine load_GfU (ex_load_iprog _ rfl (w113.heap.size) rfl _ b114 r0.length c115 rs0 KR125.here) rfl ?_))
  refine wp_region_S (fun V => Below w163.heap.size w163 V) (by kernel_rfl) (Below.refl _ _).drew ?_
  refine take_val 0 (.agg #[.int .i16 s0, .slice a0 n0 c0]) rfl (by kernel_rfl) (by kernel_rfl) (by kernel_rfl) (fun _ _ _ h => h) rfl (fun V hV => ex_load_lframe _ rfl (w.heap.size) rfl _ s0 a0 n0 c0 (KR0.at hV)) (Below.refl _ _).drew ?_
  simp only [List.getElem_toArray, List.getElem_cons_zero, List.getElem_cons_succ, Act.put, List.setIfInBounds_toArray, List.set_cons_zero, List.set_cons_succ]
  refine take_val 2 (.agg (pc a1 n1 c1 O1)) rfl (by kernel_rfl) (by kernel_rfl) (by kernel_rfl) (fun _ _ _ h => h) rfl (fun V hV => ex_load_lprog _ rfl (w.heap.size + 1) rfl _ a1 n1 c1 O1 (KR1.at hV)) (Below.refl _ _).drew ?_
  simp only [List.getElem_toArray, List.getElem_cons_zero, List.getElem_cons_succ, Act.put, List.setIfInBounds_toArray, List.set_cons_zero, List.set_cons_succ]
  refine take_val 4 (.int .i64 x2) rfl (by kernel_rfl) (by kernel_rfl) (by kernel_rfl) (fun _ _ _ h => h) rfl (fun V _ => by simp [go_sem]) (Below.refl _ _).drew ?_
  simp only [List.getElem_toArray, List.getElem_cons_zero, List.getElem_cons_succ, Act.put, List.setIfInBounds_toArray, List.set_cons_zero, List.set_cons_succ]
  refine' cut_with (A := ∀ (g : Nat) (V : World) (b_0 b_1 : Option Addr) (bz : Option Addr) (cz : Nat), Below w163.heap.size w163 V → V.heap[g]? = some (.cells (pc bz r0.length cz rs0) 35 (0, 0)) → SecAt V bz r0.length (fun i => (r0.getD i (0, 0)).1) (fun i => (r0.getD i (0, 0)).2) → (_ : Nat → World → Option Addr → Option Addr → Option Addr → Nat → Prop) g V b_0 b_1 bz cz) (fun hcont => ?_) ?_
  rotate_left
  · have KQ165 := kp_start w163; have hdKQ165 := below_drew w163
    replace KB := KB.on hdKQ165
    replace KH0 := KH0.on hdKQ165
    replace KH1 := KH1.on hdKQ165
    replace KR0 := KR0.on hdKQ165
    replace KR1 := KR1.on hdKQ165
    replace KR84 := KR84.on hdKQ165
    replace KW87 := KW87.on hdKQ165
    replace KR125 := KR125.on hdKQ165
    replace KG120m := KG120m.on hdKQ165
    clear hdKQ165
    generalize w163.drew = w166 at KB KH0 KH1 KR0 KR1 KR84 KW87 KR125 KG120m KQ165 ⊢
    refine step_call_or 1 9 7 #[.agg #[.int .i16 s0, .slice a0 n0 c0]] (.pointer (some ⟨w166.heap.size, 0, none⟩)) (w166.alloc (.cells (pc none 0 0 fun _ => 0) 35)) (by kernel_rfl) rfl rfl rfl rfl (by simp [go_sem]) (ex_alloc_prog rfl) (KQ165.alloc _).here ?_ ?_
    · refine (toFrame_kp s0 a0 n0 c0 P0 R0 _ (by omega) hs0 (KH0.here)).mono ?_
      rintro e w168 ⟨b169, rfl, hb167, KX170⟩
      replace KB := KB.on hb167
      replace KH0 := KH0.on hb167
      replace KH1 := KH1.on hb167
      replace KR0 := KR0.on hb167
      replace KR1 := KR1.on hb167
      replace KR84 := KR84.on hb167
      replace KW87 := KW87.on hb167
      replace KR125 := KR125.on hb167
      replace KG120m := KG120m.on hb167
      replace KQ165 := KQ165.on hb167
      refine ⟨_, rfl, KQ165.here, ?_⟩
      simp only [List.getElem_toArray, List.getElem_cons_zero, List.getElem_cons_succ, Act.put, List.setIfInBounds_toArray, List.set_cons_zero, List.set_cons_succ]
      refine step_call_or 3 9 8 #[.agg (pc a1 n1 c1 O1)] (.pointer (some ⟨w168.heap.size, 0, none⟩)) (w168.alloc (.cells (pc none 0 0 fun _ => 0) 35)) (by kernel_rfl) rfl rfl rfl rfl (by simp [go_sem]) (ex_alloc_prog rfl) (KQ165.alloc _).here ?_ ?_
      · refine (toProgramme_kp a1 n1 c1 F1 T1 O1 _ (by omega) (KH1.here)).mono ?_
        rintro e w172 ⟨b173, rfl, hb171, KX174⟩
        replace KB := KB.on hb171
        replace KH0 := KH0.on hb171
        replace KH1 := KH1.on hb171
        replace KR0 := KR0.on hb171
        replace KR1 := KR1.on hb171
        replace KR84 := KR84.on hb171
        replace KW87 := KW87.on hb171
        replace KR125 := KR125.on hb171
        replace KG120m := KG120m.on hb171
        replace KQ165 := KQ165.on hb171
        replace KX170 := KX170.on hb171
        refine ⟨_, rfl, KQ165.here, ?_⟩
        simp only [List.getElem_toArray, List.getElem_cons_zero, List.getElem_cons_succ, Act.put, List.setIfInBounds_toArray, List.set_cons_zero, List.set_cons_succ]
        refine step_call_or 5 9 9 #[.agg #[.int .i16 s0, .slice b169 n0 n0], .agg (pc b173 n1 n1 O1), .int .i64 x2] (.pointer (some ⟨w172.heap.size, 0, none⟩)) (w172.alloc (.cells (pc none 0 0 fun _ => 0) 35)) (by kernel_rfl) rfl rfl rfl rfl (by simp [go_sem]) (ex_alloc_prog rfl) (KQ165.alloc _).here ?_ ?_
        · refine (implTurnProgramme_any s0 b169 n0 n0 P0 R0 b173 n1 n1 F1 T1 O1 x2 _ hs0 (by omega) HP0.out HR0.out (KX170.here) (by omega) HF1.out HT1.out HO1.out (KX174.here) hx2).mono ?_
          rw [← HR_0.out, ← HR_1.out, ← HRS_0.out]
          rintro e w176 ⟨b177, c178, rfl, hb175, ho179⟩
          have hz182 := OwnS.readAt ho179
          have KW183 := kp_sec hz182; clear hz182 ho179
          replace KB := KB.on hb175
          replace KH0 := KH0.on hb175
          replace KH1 := KH1.on hb175
          replace KR0 := KR0.on hb175
          replace KR1 := KR1.on hb175
          replace KR84 := KR84.on hb175
          replace KW87 := KW87.on hb175
          replace KR125 := KR125.on hb175
          replace KG120m := KG120m.on hb175
          replace KQ165 := KQ165.on hb175
          replace KX170 := KX170.on hb175
          replace KX174 := KX174.on hb175
          refine ⟨_, rfl, KQ165.here, ?_⟩
          simp only [List.getElem_toArray, List.getElem_cons_zero, List.getElem_cons_succ, Act.put, List.setIfInBounds_toArray, List.set_cons_zero, List.set_cons_succ]
          refine take_val 6 (.tuple #[.agg (pc b177 r0.length c178 rs0), .int .i64 r1]) rfl (by kernel_rfl) (by kernel_rfl) (by kernel_rfl) (fun _ _ _ h => h) rfl (fun V _ => by simp [go_sem]) KQ165.here ?_
          simp only [List.getElem_toArray, List.getElem_cons_zero, List.getElem_cons_succ, Act.put, List.setIfInBounds_toArray, List.set_cons_zero, List.set_cons_succ]
          refine take_val 7 (.agg (pc b177 r0.length c178 rs0)) rfl (by kernel_rfl) (by kernel_rfl) (by kernel_rfl) (fun _ _ _ h => h) rfl (fun V _ => by simp [go_sem]) KQ165.here ?_
          simp only [List.getElem_toArray, List.getElem_cons_zero, List.getElem_cons_succ, Act.put, List.setIfInBounds_toArray, List.set_cons_zero, List.set_cons_succ]
          refine take_val 8 (.int .i64 r1) rfl (by kernel_rfl) (by kernel_rfl) (by kernel_rfl) (fun _ _ _ h => h) rfl (fun V _ => by simp [go_sem]) KQ165.here ?_
          simp only [List.getElem_toArray, List.getElem_cons_zero, List.getElem_cons_succ, Act.put, List.setIfInBounds_toArray, List.set_cons_zero, List.set_cons_succ]
          refine step_val 9 (.pointer (some ⟨w176.heap.size, 0, none⟩)) (w176.alloc (.cells (pc none 0 0 fun _ => 0) 35)) (by kernel_rfl) rfl rfl (ex_alloc_prog rfl) (KQ165.alloc _).here ?_
          simp only [List.getElem_toArray, List.getElem_cons_zero, List.getElem_cons_succ, Act.put, List.setIfInBounds_toArray, List.set_cons_zero, List.set_cons_succ]
          have KZ186h := heap_alloc_new w176 (.cells (pc none 0 0 fun _ => 0) 35)
          have KZ186l := (KQ165.here).size
          replace KB := KB.alloc (.cells (pc none 0 0 fun _ => 0) 35)
          replace KH0 := KH0.alloc (.cells (pc none 0 0 fun _ => 0) 35)
          replace KH1 := KH1.alloc (.cells (pc none 0 0 fun _ => 0) 35)
          replace KR0 := KR0.alloc (.cells (pc none 0 0 fun _ => 0) 35)
          replace KR1 := KR1.alloc (.cells (pc none 0 0 fun _ => 0) 35)
          replace KR84 := KR84.alloc (.cells (pc none 0 0 fun _ => 0) 35)
          replace KW87 := KW87.alloc (.cells (pc none 0 0 fun _ => 0) 35)
          replace KR125 := KR125.alloc (.cells (pc none 0 0 fun _ => 0) 35)
          replace KG120m := KG120m.alloc (.cells (pc none 0 0 fun _ => 0) 35)
          replace KQ165 := KQ165.alloc (.cells (pc none 0 0 fun _ => 0) 35)
          replace KX170 := KX170.alloc (.cells (pc none 0 0 fun _ => 0) 35)
          replace KX174 := KX174.alloc (.cells (pc none 0 0 fun _ => 0) 35)
          replace KW183 := KW183.alloc (.cells (pc none 0 0 fun _ => 0) 35)
          obtain ⟨g184, g184w⟩ : ∃ g, w176.heap.size = g := ⟨_, rfl⟩
          rw [g184w] at KZ186h KZ186l ⊢; clear g184w
          generalize w176.alloc (.cells (pc none 0 0 fun _ => 0) 35) = w185 at KZ186h KB KH0 KH1 KR0 KR1 KR84 KW87 KR125 KG120m KQ165 KX170 KX174 KW183 ⊢
          have KZ186 := kp_row KZ186h; clear KZ186h
          have hbV187 := below_setRow KQ165.here KZ186l (pc b177 r0.length c178 rs0); have hdV187 := setRow_heap _ g184 _ (pc b177 r0.length c178 rs0) _ _ KZ186.here
          have hsV187 := sec_setRow KW183.here KZ186.here (pc b177 r0.length c178 rs0)
          refine step_skip 10 (w185.setRow g184 (pc b177 r0.length c178 rs0)) (by kernel_rfl) rfl rfl (ex_store_prog _ _ rfl b177 r0.length c178 rs0 g184 rfl rfl _ _ _ _ _ KZ186.here) hbV187 ?_
          simp only [List.getElem_toArray, List.getElem_cons_zero, List.getElem_cons_succ, Act.put, List.setIfInBounds_toArray, List.set_cons_zero, List.set_cons_succ]
          generalize w185.setRow g184 (pc b177 r0.length c178 rs0) = V187 at hbV187 hdV187 hsV187 ⊢
          refine take_val 11 (.int .i64 r1) rfl (by kernel_rfl) (by kernel_rfl) (by kernel_rfl) (fun _ _ _ h => h) rfl (fun V _ => by simp [go_sem]) hbV187 ?_
          simp only [List.getElem_toArray, List.getElem_cons_zero, List.getElem_cons_succ, Act.put, List.setIfInBounds_toArray, List.set_cons_zero, List.set_cons_succ]
          refine wpAnyH_done (by kernel_rfl) ?_ _
          exact hcont g184 V187 b169 b173 b177 c178 hbV187 hdV187 hsV187
        · simp only [List.getElem_toArray, List.getElem_cons_zero, List.getElem_cons_succ, Act.put, List.setIfInBounds_toArray, List.set_cons_zero, List.set_cons_succ]
          have KZ190h := heap_alloc_new w172 (.cells (pc none 0 0 fun _ => 0) 35)
          have KZ190l := (KQ165.here).size
          replace KB := KB.alloc (.cells (pc none 0 0 fun _ => 0) 35)
          replace KH0 := KH0.alloc (.cells (pc none 0 0 fun _ => 0) 35)
          replace KH1 := KH1.alloc (.cells (pc none 0 0 fun _ => 0) 35)
          replace KR0 := KR0.alloc (.cells (pc none 0 0 fun _ => 0) 35)
          replace KR1 := KR1.alloc (.cells (pc none 0 0 fun _ => 0) 35)
          replace KR84 := KR84.alloc (.cells (pc none 0 0 fun _ => 0) 35)
          replace KW87 := KW87.alloc (.cells (pc none 0 0 fun _ => 0) 35)
          replace KR125 := KR125.alloc (.cells (pc none 0 0 fun _ => 0) 35)
          replace KG120m := KG120m.alloc (.cells (pc none 0 0 fun _ => 0) 35)
          replace KQ165 := KQ165.alloc (.cells (pc none 0 0 fun _ => 0) 35)
          replace KX170 := KX170.alloc (.cells (pc none 0 0 fun _ => 0) 35)
          replace KX174 := KX174.alloc (.cells (pc none 0 0 fun _ => 0) 35)
          obtain ⟨g188, g188w⟩ : ∃ g, w172.heap.size = g := ⟨_, rfl⟩
          rw [g188w] at KZ190h KZ190l ⊢; clear g188w
          generalize w172.alloc (.cells (pc none 0 0 fun _ => 0) 35) = w189 at KZ190h KB KH0 KH1 KR0 KR1 KR84 KW87 KR125 KG120m KQ165 KX170 KX174 ⊢
          have KZ190 := kp_row KZ190h; clear KZ190h
          refine step_call 5 9 #[.agg #[.int .i16 s0, .slice b169 n0 n0], .agg (pc b173 n1 n1 O1), .int .i64 x2] (by kernel_rfl) rfl rfl (by simp [go_sem]) ?_
          refine (implTurnProgramme_any s0 b169 n0 n0 P0 R0 b173 n1 n1 F1 T1 O1 x2 _ hs0 (by omega) HP0.out HR0.out (KX170.here) (by omega) HF1.out HT1.out HO1.out (KX174.here) hx2).mono ?_
          rw [← HR_0.out, ← HR_1.out, ← HRS_0.out]
          rintro e w192 ⟨b193, c194, rfl, hb191, ho195⟩
          have hz198 := OwnS.readAt ho195
          have KW199 := kp_sec hz198; clear hz198 ho195
          replace KB := KB.on hb191
          replace KH0 := KH0.on hb191
          replace KH1 := KH1.on hb191
          replace KR0 := KR0.on hb191
          replace KR1 := KR1.on hb191
          replace KR84 := KR84.on hb191
          replace KW87 := KW87.on hb191
          replace KR125 := KR125.on hb191
          replace KG120m := KG120m.on hb191
          replace KQ165 := KQ165.on hb191
          replace KX170 := KX170.on hb191
          replace KX174 := KX174.on hb191
          replace KZ190 := KZ190.on hb191
          refine ⟨_, rfl, KQ165.here, ?_⟩
          simp only [List.getElem_toArray, List.getElem_cons_zero, List.getElem_cons_succ, Act.put, List.setIfInBounds_toArray, List.set_cons_zero, List.set_cons_succ]
          refine take_val 6 (.tuple #[.agg (pc b193 r0.length c194 rs0), .int .i64 r1]) rfl (by kernel_rfl) (by kernel_rfl) (by kernel_rfl) (fun _ _ _ h => h) rfl (fun V _ => by simp [go_sem]) KQ165.here ?_
          simp only [List.getElem_toArray, List.getElem_cons_zero, List.getElem_cons_succ, Act.put, List.setIfInBounds_toArray, List.set_cons_zero, List.set_cons_succ]
          refine take_val 7 (.agg (pc b193 r0.length c194 rs0)) rfl (by kernel_rfl) (by kernel_rfl) (by kernel_rfl) (fun _ _ _ h => h) rfl (fun V _ => by simp [go_sem]) KQ165.here ?_
          simp only [List.getElem_toArray, List.getElem_cons_zero, List.getElem_cons_succ, Act.put, List.setIfInBounds_toArray, List.set_cons_zero, List.set_cons_succ]
          refine take_val 8 (.int .i64 r1) rfl (by kernel_rfl) (by kernel_rfl) (by kernel_rfl) (fun _ _ _ h => h) rfl (fun V _ => by simp [go_sem]) KQ165.here ?_
          simp only [List.getElem_toArray, List.getElem_cons_zero, List.getElem_cons_succ, Act.put, List.setIfInBounds_toArray, List.set_cons_zero, List.set_cons_succ]
          have hbV200 := below_setRow KQ165.here KZ190l (pc b193 r0.length c194 rs0); have hdV200 := setRow_heap _ g188 _ (pc b193 r0.length c194 rs0) _ _ KZ190.here
          have hsV200 := sec_setRow KW199.here KZ190.here (pc b193 r0.length c194 rs0)
          refine step_skip 10 (w192.setRow g188 (pc b193 r0.length c194 rs0)) (by kernel_rfl) rfl rfl (ex_store_prog _ _ rfl b193 r0.length c194 rs0 g188 rfl rfl _ _ _ _ _ KZ190.here) hbV200 ?_
          simp only [List.getElem_toArray, List.getElem_cons_zero, List.getElem_cons_succ, Act.put, List.setIfInBounds_toArray, List.set_cons_zero, List.set_cons_succ]
          generalize w192.setRow g188 (pc b193 r0.length c194 rs0) = V200 at hbV200 hdV200 hsV200 ⊢
          refine take_val 11 (.int .i64 r1) rfl (by kernel_rfl) (by kernel_rfl) (by kernel_rfl) (fun _ _ _ h => h) rfl (fun V _ => by simp [go_sem]) hbV200 ?_
          simp only [List.getElem_toArray, List.getElem_cons_zero, List.getElem_cons_succ, Act.put, List.setIfInBounds_toArray, List.set_cons_zero, List.set_cons_succ]
          refine wpAnyH_done (by kernel_rfl) ?_ _
          exact hcont g188 V200 b169 b173 b193 c194 hbV200 hdV200 hsV200
      · simp only [List.getElem_toArray, List.getElem_cons_zero, List.getElem_cons_succ, Act.put, List.setIfInBounds_toArray, List.set_cons_zero, List.set_cons_succ]
        have KZ203h := heap_alloc_new w168 (.cells (pc none 0 0 fun _ => 0) 35)
        have KZ203l := (KQ165.here).size
        replace KB := KB.alloc (.cells (pc none 0 0 fun _ => 0) 35)
        replace KH0 := KH0.alloc (.cells (pc none 0 0 fun _ => 0) 35)
        replace KH1 := KH1.alloc (.cells (pc none 0 0 fun _ => 0) 35)
        replace KR0 := KR0.alloc (.cells (pc none 0 0 fun _ => 0) 35)
        replace KR1 := KR1.alloc (.cells (pc none 0 0 fun _ => 0) 35)
        replace KR84 := KR84.alloc (.cells (pc none 0 0 fun _ => 0) 35)
        replace KW87 := KW87.alloc (.cells (pc none 0 0 fun _ => 0) 35)
        replace KR125 := KR125.alloc (.cells (pc none 0 0 fun _ => 0) 35)
        replace KG120m := KG120m.alloc (.cells (pc none 0 0 fun _ => 0) 35)
        replace KQ165 := KQ165.alloc (.cells (pc none 0 0 fun _ => 0) 35)
        replace KX170 := KX170.alloc (.cells (pc none 0 0 fun _ => 0) 35)
        obtain ⟨g201, g201w⟩ : ∃ g, w168.heap.size = g := ⟨_, rfl⟩
        rw [g201w] at KZ203h KZ203l ⊢; clear g201w
        generalize w168.alloc (.cells (pc none 0 0 fun _ => 0) 35) = w202 at KZ203h KB KH0 KH1 KR0 KR1 KR84 KW87 KR125 KG120m KQ165 KX170 ⊢
        have KZ203 := kp_row KZ203h; clear KZ203h
        refine step_call 3 8 #[.agg (pc a1 n1 c1 O1)] (by kernel_rfl) rfl rfl (by simp [go_sem]) ?_
        refine (toProgramme_kp a1 n1 c1 F1 T1 O1 _ (by omega) (KH1.here)).mono ?_
        rintro e w205 ⟨b206, rfl, hb204, KX207⟩
        replace KB := KB.on hb204
        replace KH0 := KH0.on hb204
        replace KH1 := KH1.on hb204
        replace KR0 := KR0.on hb204
        replace KR1 := KR1.on hb204
        replace KR84 := KR84.on hb204
        replace KW87 := KW87.on hb204
        replace KR125 := KR125.on hb204
        replace KG120m := KG120m.on hb204
        replace KQ165 := KQ165.on hb204
        replace KX170 := KX170.on hb204
        replace KZ203 := KZ203.on hb204
        refine ⟨_, rfl, KQ165.here, ?_⟩
        simp only [List.getElem_toArray, List.getElem_cons_zero, List.getElem_cons_succ, Act.put, List.setIfInBounds_toArray, List.set_cons_zero, List.set_cons_succ]
        refine step_call 5 9 #[.agg #[.int .i16 s0, .slice b169 n0 n0], .agg (pc b206 n1 n1 O1), .int .i64 x2] (by kernel_rfl) rfl rfl (by simp [go_sem]) ?_
        refine (implTurnProgramme_any s0 b169 n0 n0 P0 R0 b206 n1 n1 F1 T1 O1 x2 _ hs0 (by omega) HP0.out HR0.out (KX170.here) (by omega) HF1.out HT1.out HO1.out (KX207.here) hx2).mono ?_
        rw [← HR_0.out, ← HR_1.out, ← HRS_0.out]
        rintro e w209 ⟨b210, c211, rfl, hb208, ho212⟩
        have hz215 := OwnS.readAt ho212
        have KW216 := kp_sec hz215; clear hz215 ho212
        replace KB := KB.on hb208
        replace KH0 := KH0.on hb208
        replace KH1 := KH1.on hb208
        replace KR0 := KR0.on hb208
        replace KR1 := KR1.on hb208
        replace KR84 := KR84.on hb208
        replace KW87 := KW87.on hb208
        replace KR125 := KR125.on hb208
        replace KG120m := KG120m.on hb208
        replace KQ165 := KQ165.on hb208
        replace KX170 := KX170.on hb208
        replace KZ203 := KZ203.on hb208
        replace KX207 := KX207.on hb208
        refine ⟨_, rfl, KQ165.here, ?_⟩
        simp only [List.getElem_toArray, List.getElem_cons_zero, List.getElem_cons_succ, Act.put, List.setIfInBounds_toArray, List.set_cons_zero, List.set_cons_succ]
        refine take_val 6 (.tuple #[.agg (pc b210 r0.length c211 rs0), .int .i64 r1]) rfl (by kernel_rfl) (by kernel_rfl) (by kernel_rfl) (fun _ _ _ h => h) rfl (fun V _ => by simp [go_sem]) KQ165.here ?_
        simp only [List.getElem_toArray, List.getElem_cons_zero, List.getElem_cons_succ, Act.put, List.setIfInBounds_toArray, List.set_cons_zero, List.set_cons_succ]
        refine take_val 7 (.agg (pc b210 r0.length c211 rs0)) rfl (by kernel_rfl) (by kernel_rfl) (by kernel_rfl) (fun _ _ _ h => h) rfl (fun V _ => by simp [go_sem]) KQ165.here ?_
        simp only [List.getElem_toArray, List.getElem_cons_zero, List.getElem_cons_succ, Act.put, List.setIfInBounds_toArray, List.set_cons_zero, List.set_cons_succ]
        refine take_val 8 (.int .i64 r1) rfl (by kernel_rfl) (by kernel_rfl) (by kernel_rfl) (fun _ _ _ h => h) rfl (fun V _ => by simp [go_sem]) KQ165.here ?_
        simp only [List.getElem_toArray, List.getElem_cons_zero, List.getElem_cons_succ, Act.put, List.setIfInBounds_toArray, List.set_cons_zero, List.set_cons_succ]
        have hbV217 := below_setRow KQ165.here KZ203l (pc b210 r0.length c211 rs0); have hdV217 := setRow_heap _ g201 _ (pc b210 r0.length c211 rs0) _ _ KZ203.here
        have hsV217 := sec_setRow KW216.here KZ203.here (pc b210 r0.length c211 rs0)
        refine step_skip 10 (w209.setRow g201 (pc b210 r0.length c211 rs0)) (by kernel_rfl) rfl rfl (ex_store_prog _ _ rfl b210 r0.length c211 rs0 g201 rfl rfl _ _ _ _ _ KZ203.here) hbV217 ?_
        simp only [List.getElem_toArray, List.getElem_cons_zero, List.getElem_cons_succ, Act.put, List.setIfInBounds_toArray, List.set_cons_zero, List.set_cons_succ]
        generalize w209.setRow g201 (pc b210 r0.length c211 rs0) = V217 at hbV217 hdV217 hsV217 ⊢
        refine take_val 11 (.int .i64 r1) rfl (by kernel_rfl) (by kernel_rfl) (by kernel_rfl) (fun _ _ _ h => h) rfl (fun V _ => by simp [go_sem]) hbV217 ?_
        simp only [List.getElem_toArray, List.getElem_cons_zero, List.getElem_cons_succ, Act.put, List.setIfInBounds_toArray, List.set_cons_zero, List.set_cons_succ]
        refine wpAnyH_done (by kernel_rfl) ?_ _
        exact hcont g201 V217 b169 b206 b210 c211 hbV217 hdV217 hsV217
    · simp only [List.getElem_toArray, List.getElem_cons_zero, List.getElem_cons_succ, Act.put, List.setIfInBounds_toArray, List.set_cons_zero, List.set_cons_succ]
      have KZ220h := heap_alloc_new w166 (.cells (pc none 0 0 fun _ => 0) 35)
      have KZ220l := (KQ165.here).size
      replace KB := KB.alloc (.cells (pc none 0 0 fun _ => 0) 35)
      replace KH0 := KH0.alloc (.cells (pc none 0 0 fun _ => 0) 35)
      replace KH1 := KH1.alloc (.cells (pc none 0 0 fun _ => 0) 35)
      replace KR0 := KR0.alloc (.cells (pc none 0 0 fun _ => 0) 35)
      replace KR1 := KR1.alloc (.cells (pc none 0 0 fun _ => 0) 35)
      replace KR84 := KR84.alloc (.cells (pc none 0 0 fun _ => 0) 35)
      replace KW87 := KW87.alloc (.cells (pc none 0 0 fun _ => 0) 35)
      replace KR125 := KR125.alloc (.cells (pc none 0 0 fun _ => 0) 35)
      replace KG120m := KG120m.alloc (.cells (pc none 0 0 fun _ => 0) 35)
      replace KQ165 := KQ165.alloc (.cells (pc none 0 0 fun _ => 0) 35)
      obtain ⟨g218, g218w⟩ : ∃ g, w166.heap.size = g := ⟨_, rfl⟩
      rw [g218w] at KZ220h KZ220l ⊢; clear g218w
      generalize w166.alloc (.cells (pc none 0 0 fun _ => 0) 35) = w219 at KZ220h KB KH0 KH1 KR0 KR1 KR84 KW87 KR125 KG120m KQ165 ⊢
      have KZ220 := kp_row KZ220h; clear KZ220h
      refine step_call 1 7 #[.agg #[.int .i16 s0, .slice a0 n0 c0]] (by kernel_rfl) rfl rfl (by simp [go_sem]) ?_
      refine (toFrame_kp s0 a0 n0 c0 P0 R0 _ (by omega) hs0 (KH0.here)).mono ?_
      rintro e w222 ⟨b223, rfl, hb221, KX224⟩
      replace KB := KB.on hb221
      replace KH0 := KH0.on hb221
      replace KH1 := KH1.on hb221
      replace KR0 := KR0.on hb221
      replace KR1 := KR1.on hb221
      replace KR84 := KR84.on hb221
      replace KW87 := KW87.on hb221
      replace KR125 := KR125.on hb221
      replace KG120m := KG120m.on hb221
      replace KQ165 := KQ165.on hb221
      replace KZ220 := KZ220.on hb221
      refine ⟨_, rfl, KQ165.here, ?_⟩
      simp only [List.getElem_toArray, List.getElem_cons_zero, List.getElem_cons_succ, Act.put, List.setIfInBounds_toArray, List.set_cons_zero, List.set_cons_succ]
      refine step_call 3 8 #[.agg (pc a1 n1 c1 O1)] (by kernel_rfl) rfl rfl (by simp [go_sem]) ?_
      refine (toProgramme_kp a1 n1 c1 F1 T1 O1 _ (by omega) (KH1.here)).mono ?_
      rintro e w226 ⟨b227, rfl, hb225, KX228⟩
      replace KB := KB.on hb225
      replace KH0 := KH0.on hb225
      replace KH1 := KH1.on hb225
      replace KR0 := KR0.on hb225
      replace KR1 := KR1.on hb225
      replace KR84 := KR84.on hb225
      replace KW87 := KW87.on hb225
      replace KR125 := KR125.on hb225
      replace KG120m := KG120m.on hb225
      replace KQ165 := KQ165.on hb225
      replace KZ220 := KZ220.on hb225
      replace KX224 := KX224.on hb225
      refine ⟨_, rfl, KQ165.here, ?_⟩
      simp only [List.getElem_toArray, List.getElem_cons_zero, List.getElem_cons_succ, Act.put, List.setIfInBounds_toArray, List.set_cons_zero, List.set_cons_succ]
      refine step_call 5 9 #[.agg #[.int .i16 s0, .slice b223 n0 n0], .agg (pc b227 n1 n1 O1), .int .i64 x2] (by kernel_rfl) rfl rfl (by simp [go_sem]) ?_
      refine (implTurnProgramme_any s0 b223 n0 n0 P0 R0 b227 n1 n1 F1 T1 O1 x2 _ hs0 (by omega) HP0.out HR0.out (KX224.here) (by omega) HF1.out HT1.out HO1.out (KX228.here) hx2).mono ?_
      rw [← HR_0.out, ← HR_1.out, ← HRS_0.out]
      rintro e w230 ⟨b231, c232, rfl, hb229, ho233⟩
      have hz236 := OwnS.readAt ho233
      have KW237 := kp_sec hz236; clear hz236 ho233
      replace KB := KB.on hb229
      replace KH0 := KH0.on hb229
      replace KH1 := KH1.on hb229
      replace KR0 := KR0.on hb229
      replace KR1 := KR1.on hb229
      replace KR84 := KR84.on hb229
      replace KW87 := KW87.on hb229
      replace KR125 := KR125.on hb229
      replace KG120m := KG120m.on hb229
      replace KQ165 := KQ165.on hb229
      replace KZ220 := KZ220.on hb229
      replace KX224 := KX224.on hb229
      replace KX228 := KX228.on hb229
      refine ⟨_, rfl, KQ165.here, ?_⟩
      simp only [List.getElem_toArray, List.getElem_cons_zero, List.getElem_cons_succ, Act.put, List.setIfInBounds_toArray, List.set_cons_zero, List.set_cons_succ]
      refine take_val 6 (.tuple #[.agg (pc b231 r0.length c232 rs0), .int .i64 r1]) rfl (by kernel_rfl) (by kernel_rfl) (by kernel_rfl) (fun _ _ _ h => h) rfl (fun V _ => by simp [go_sem]) KQ165.here ?_
      simp only [List.getElem_toArray, List.getElem_cons_zero, List.getElem_cons_succ, Act.put, List.setIfInBounds_toArray, List.set_cons_zero, List.set_cons_succ]
      refine take_val 7 (.agg (pc b231 r0.length c232 rs0)) rfl (by kernel_rfl) (by kernel_rfl) (by kernel_rfl) (fun _ _ _ h => h) rfl (fun V _ => by simp [go_sem]) KQ165.here ?_
      simp only [List.getElem_toArray, List.getElem_cons_zero, List.getElem_cons_succ, Act.put, List.setIfInBounds_toArray, List.set_cons_zero, List.set_cons_succ]
      refine take_val 8 (.int .i64 r1) rfl (by kernel_rfl) (by kernel_rfl) (by kernel_rfl) (fun _ _ _ h => h) rfl (fun V _ => by simp [go_sem]) KQ165.here ?_
      simp only [List.getElem_toArray, List.getElem_cons_zero, List.getElem_cons_succ, Act.put, List.setIfInBounds_toArray, List.set_cons_zero, List.set_cons_succ]
      have hbV238 := below_setRow KQ165.here KZ220l (pc b231 r0.length c232 rs0); have hdV238 := setRow_heap _ g218 _ (pc b231 r0.length c232 rs0) _ _ KZ220.here
      have hsV238 := sec_setRow KW237.here KZ220.here (pc b231 r0.length c232 rs0)
      refine step_skip 10 (w230.setRow g218 (pc b231 r0.length c232 rs0)) (by kernel_rfl) rfl rfl (ex_store_prog _ _ rfl b231 r0.length c232 rs0 g218 rfl rfl _ _ _ _ _ KZ220.here) hbV238 ?_
      simp only [List.getElem_toArray, List.getElem_cons_zero, List.getElem_cons_succ, Act.put, List.setIfInBounds_toArray, List.set_cons_zero, List.set_cons_succ]
      generalize w230.setRow g218 (pc b231 r0.length c232 rs0) = V238 at hbV238 hdV238 hsV238 ⊢
      refine take_val 11 (.int .i64 r1) rfl (by kernel_rfl) (by kernel_rfl) (by kernel_rfl) (fun _ _ _ h => h) rfl (fun V _ => by simp [go_sem]) hbV238 ?_
      simp only [List.getElem_toArray, List.getElem_cons_zero, List.getElem_cons_succ, Act.put, List.setIfInBounds_toArray, List.set_cons_zero, List.set_cons_succ]
      refine wpAnyH_done (by kernel_rfl) ?_ _
      exact hcont g218 V238 b223 b227 b231 c232 hbV238 hdV238 hsV238
  intro g239 V240 _ _ b243 c244 hb241 hb241d hb241s
  replace KB := KB.on hb241
  replace KH0 := KH0.on hb241
  replace KH1 := KH1.on hb241
  replace KR0 := KR0.on hb241
  replace KR1 := KR1.on hb241
  replace KR84 := KR84.on hb241
  replace KW87 := KW87.on hb241
  replace KR125 := KR125.on hb241
  replace KG120m := KG120m.on hb241
  have KR242 := kp_row hb241d; have KW245 := kp_sec hb241s; clear hb241d hb241 hb241s
  go_wp2_with (first | (with_reducible refine load_lframe rfl _ rfl (w.heap.size) rfl _ s0 a0 n0 c0 KR0.here ?_) | (with_reducible refine load_lprog rfl _ rfl (w.heap.size + 1) rfl _ a1 n1 c1 O1 KR1.here ?_) | (with_reducible refine load_iprog rfl _ rfl g81 rfl _ b85 r0.length c86 rs0 KR84.here ?_) | (with_reducible refine load_GfU (ex_load_iprog _ rfl g81 rfl _ b85 r0.length c86 rs0 KR84.here) rfl ?_) | (with_reducible refine load_iprog rfl _ rfl (w113.heap.size) rfl _ b114 r0.length c115 rs0 KR125.here ?_) | (with_reducible refine load_GfU (ex_load_iprog _ rfl (w113.heap.size) rfl _ b114 r0.length c115 rs0 KR125.here) rfl ?_) | (with_reducible refine load_iprog rfl _ rfl g239 rfl _ b243 r0.length c244 rs0 KR242.here ?_) | (with_reducible refine load_GfU (ex_load_iprog _ rfl g239 rfl _ b243 r0.length c244 rs0 KR242.here) rfl ?_))
  refine (eqProgramme_kp b243 b85 r0.length c244 c86 (fun i => (r0.getD i (0, 0)).1) (fun i => (r0.getD i (0, 0)).2) rs0 _ (by omega) (KW245.here) (KW87.here)).mono ?_
  rintro e w247 ⟨rfl, hb246⟩
  replace KB := KB.on hb246
  replace KH0 := KH0.on hb246
  replace KH1 := KH1.on hb246
  replace KR0 := KR0.on hb246
  replace KR1 := KR1.on hb246
  replace KR84 := KR84.on hb246
  replace KW87 := KW87.on hb246
  replace KR125 := KR125.on hb246
  replace KG120m := KG120m.on hb246
  replace KR242 := KR242.on hb246
  replace KW245 := KW245.on hb246
  go_wp2_with (first | (with_reducible refine load_lframe rfl _ rfl (w.heap.size) rfl _ s0 a0 n0 c0 KR0.here ?_) | (with_reducible refine load_lprog rfl _ rfl (w.heap.size + 1) rfl _ a1 n1 c1 O1 KR1.here ?_) | (with_reducible refine load_iprog rfl _ rfl g81 rfl _ b85 r0.length c86 rs0 KR84.here ?_) | (with_reducible refine load_GfU (ex_load_iprog _ rfl g81 rfl _ b85 r0.length c86 rs0 KR84.here) rfl ?_) | (with_reducible refine load_iprog rfl _ rfl (w113.heap.size) rfl _ b114 r0.length c115 rs0 KR125.here ?_) | (with_reducible refine load_GfU (ex_load_iprog _ rfl (w113.heap.size) rfl _ b114 r0.length c115 rs0 KR125.here) rfl ?_) | (with_reducible refine load_iprog rfl _ rfl g239 rfl _ b243 r0.length c244 rs0 KR242.here ?_) | (with_reducible refine load_GfU (ex_load_iprog _ rfl g239 rfl _ b243 r0.length c244 rs0 KR242.here) rfl ?_))
  refine (heldProgramme_own w110.heap.size b114 r0.length c115 rs0 1 _ (by omega) (by omega) (KG120m.here)).mono ?_
  rintro e w249 ⟨rfl, hb248⟩
  rw [HQ161.out]
  replace KB := KB.on hb248
  replace KH0 := KH0.on hb248
  replace KH1 := KH1.on hb248
  replace KR0 := KR0.on hb248
  replace KR1 := KR1.on hb248
  replace KR84 := KR84.on hb248
  replace KW87 := KW87.on hb248
  replace KR125 := KR125.on hb248
  replace KG120m := KG120m.on hb248
  replace KR242 := KR242.on hb248
  replace KW245 := KW245.on hb248
  go_wp2_with fail
  go_ret
  exact ⟨rfl, KB.here⟩
end Go.Proofs.Ytfefclngfeihiaa
