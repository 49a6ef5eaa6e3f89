/- The law FnExactApplyMoves: the walk, printed by lawgen.py. No conditions. -/
import Derived.Test.YtmmneedmhmppoaaKp
import Derived.Test.YtmmneedmhmppoaaAp2
import Derived.Test.YtmmneedmhmppoaaHeld2
import Derived.Outline
namespace Go.Proofs.Ytmmneedmhmppoaa
open Go.RowKit
set_option linter.unusedVariables false
set_option linter.unusedSimpArgs false

set_option maxRecDepth 100000 in
set_option maxHeartbeats 4000000 in
theorem lawApplyMoves (s0 : Int) (a0 : Option Addr) (n0 c0 : Nat) (P0 R0 : Nat → Int) (D1 : Nat → Nat) (a2 : Option Addr) (n2 c2 : Nat) (A2 B2 : Nat → Int) (a3 : Option Addr) (n3 c3 : Nat) (A3 B3 : Nat → Int) (w : World) (hn0 : n0 ≤ 9223372036854775807) (hs0 : -32768 ≤ s0 ∧ s0 ≤ 32767) (hP0 : I8 P0) (hR0 : I8 R0) (hh0 : HamIn w a0 n0 P0 R0) (hD1 : D32 D1) (hn2 : n2 ≤ 9223372036854775807) (hA2 : I64 A2) (hB2 : I64 B2) (hh2 : PairIn w a2 n2 A2 B2) (hn3 : n3 ≤ 9223372036854775807) (hA3 : I64 A3) (hB3 : I64 B3) (hh3 : PairIn w a3 n3 A3 B3) :
    Calls Try.prog 8 #[.agg #[.int .i16 s0, .slice a0 n0 c0], .agg (dc D1), .slice a2 n2 c2, .slice a3 n3 c3] w fun e w' => e = .returned (.bool true) ∧ Below w.heap.size w w' := by
  have HP0 := Lib.hid hP0; clear hP0
  have HR0 := Lib.hid hR0; clear hR0
  have HD1 := Lib.hid hD1; clear hD1
  have HA2 := Lib.hid hA2; clear hA2
  have HB2 := Lib.hid hB2; clear hB2
  have HA3 := Lib.hid hA3; clear hA3
  have HB3 := Lib.hid hB3; clear hB3
  have KB := Kp.base w
  have KH0 := kp_hamIn hh0; clear hh0
  have KH2 := kp_pairIn hh2; clear hh2
  have KH3 := kp_pairIn hh3; clear hh3
  replace KB := KB.alloc (.cells #[.int .i16 s0, .slice a0 n0 c0] 34)
  replace KH0 := KH0.alloc (.cells #[.int .i16 s0, .slice a0 n0 c0] 34)
  replace KH2 := KH2.alloc (.cells #[.int .i16 s0, .slice a0 n0 c0] 34)
  replace KH3 := KH3.alloc (.cells #[.int .i16 s0, .slice a0 n0 c0] 34)
  have KR0 := kp_new1 w #[.int .i16 s0, .slice a0 n0 c0] 34 (g := w.heap.size) (by simp)
  replace KB := KB.alloc (.cells (dc D1) 36)
  replace KH0 := KH0.alloc (.cells (dc D1) 36)
  replace KH2 := KH2.alloc (.cells (dc D1) 36)
  replace KH3 := KH3.alloc (.cells (dc D1) 36)
  replace KR0 := KR0.alloc (.cells (dc D1) 36)
  have KR1 := kp_newd (w.alloc (.cells #[.int .i16 s0, .slice a0 n0 c0] 34)) D1 36 (g := w.heap.size + 1) (by simp)
  go_enter Try.func8, Try.ntmps8
  go_wp2_with (first | (with_reducible refine load_lframe rfl _ rfl (w.heap.size) rfl _ s0 a0 n0 c0 KR0.here ?_) | (with_reducible refine load_arr rfl _ rfl (w.heap.size + 1) rfl _ D1 KR1.here ?_))
  generalize ((w.alloc (.cells #[.int .i16 s0, .slice a0 n0 c0] 34)).alloc (.cells (dc D1) 36)) = w1 at KB KH0 KH2 KH3 KR0 KR1 ⊢
  refine (szFrame_kp s0 a0 n0 c0 (1048576) _ (by omega) (by omega)).mono ?_
  rintro e w3 ⟨rfl, hb2⟩
  replace KB := KB.on hb2
  replace KH0 := KH0.on hb2
  replace KH2 := KH2.on hb2
  replace KH3 := KH3.on hb2
  replace KR0 := KR0.on hb2
  replace KR1 := KR1.on hb2
  by_cases hlw3 : (1048576 : Int) < n0
  · rw [szOf_lt hlw3]
    go_wp2_with (first | (with_reducible refine load_lframe rfl _ rfl (w.heap.size) rfl _ s0 a0 n0 c0 KR0.here ?_) | (with_reducible refine load_arr rfl _ rfl (w.heap.size + 1) rfl _ D1 KR1.here ?_))
    go_ret
    exact ⟨rfl, KB.here⟩
  rw [szOf_ge (by omega)]
  go_wp2_with (first | (with_reducible refine load_lframe rfl _ rfl (w.heap.size) rfl _ s0 a0 n0 c0 KR0.here ?_) | (with_reducible refine load_arr rfl _ rfl (w.heap.size + 1) rfl _ D1 KR1.here ?_))
  refine (szInt64A2S_kp a2 n2 c2 (1048576 - (n0 : Int)) _ (by omega) (by omega)).mono ?_
  rintro e w5 ⟨rfl, hb4⟩
  replace KB := KB.on hb4
  replace KH0 := KH0.on hb4
  replace KH2 := KH2.on hb4
  replace KH3 := KH3.on hb4
  replace KR0 := KR0.on hb4
  replace KR1 := KR1.on hb4
  by_cases hlw5 : (1048576 - (n0 : Int) : Int) < n2
  · rw [szOf_lt hlw5]
    go_wp2_with (first | (with_reducible refine load_lframe rfl _ rfl (w.heap.size) rfl _ s0 a0 n0 c0 KR0.here ?_) | (with_reducible refine load_arr rfl _ rfl (w.heap.size + 1) rfl _ D1 KR1.here ?_))
    go_ret
    exact ⟨rfl, KB.here⟩
  rw [szOf_ge (by omega)]
  go_wp2_with (first | (with_reducible refine load_lframe rfl _ rfl (w.heap.size) rfl _ s0 a0 n0 c0 KR0.here ?_) | (with_reducible refine load_arr rfl _ rfl (w.heap.size + 1) rfl _ D1 KR1.here ?_))
  refine (szInt64A2S_kp a3 n3 c3 (1048576 - (n0 : Int) - (n2 : Int)) _ (by omega) (by omega)).mono ?_
  rintro e w7 ⟨rfl, hb6⟩
  replace KB := KB.on hb6
  replace KH0 := KH0.on hb6
  replace KH2 := KH2.on hb6
  replace KH3 := KH3.on hb6
  replace KR0 := KR0.on hb6
  replace KR1 := KR1.on hb6
  by_cases hlw7 : (1048576 - (n0 : Int) - (n2 : Int) : Int) < n3
  · rw [szOf_lt hlw7]
    go_wp2_with (first | (with_reducible refine load_lframe rfl _ rfl (w.heap.size) rfl _ s0 a0 n0 c0 KR0.here ?_) | (with_reducible refine load_arr rfl _ rfl (w.heap.size + 1) rfl _ D1 KR1.here ?_))
    go_ret
    exact ⟨rfl, KB.here⟩
  rw [szOf_ge (by omega)]
  go_wp2_with (first | (with_reducible refine load_lframe rfl _ rfl (w.heap.size) rfl _ s0 a0 n0 c0 KR0.here ?_) | (with_reducible refine load_arr rfl _ rfl (w.heap.size + 1) rfl _ D1 KR1.here ?_))
  refine wp_region_S (fun V => Below w7.heap.size w7 V) (by kernel_rfl) (Below.refl _ _).drew ?_
  refine take_val 0 (.agg #[.int .i16 s0, .slice a0 n0 c0]) rfl (by kernel_rfl) (by kernel_rfl) (by kernel_rfl) (fun _ _ _ h => h) rfl (fun V hV => ex_load_lframe _ rfl (w.heap.size) rfl _ s0 a0 n0 c0 (KR0.at hV)) (Below.refl _ _).drew ?_
  simp only [List.getElem_toArray, List.getElem_cons_zero, List.getElem_cons_succ, Act.put, List.setIfInBounds_toArray, List.set_cons_zero, List.set_cons_succ]
  refine take_val 2 (.agg (dc D1)) rfl (by kernel_rfl) (by kernel_rfl) (by kernel_rfl) (fun _ _ _ h => h) rfl (fun V hV => ex_load_arr _ rfl (w.heap.size + 1) rfl _ D1 (KR1.at hV)) (Below.refl _ _).drew ?_
  simp only [List.getElem_toArray, List.getElem_cons_zero, List.getElem_cons_succ, Act.put, List.setIfInBounds_toArray, List.set_cons_zero, List.set_cons_succ]
  refine take_val 4 (.slice a2 n2 c2) rfl (by kernel_rfl) (by kernel_rfl) (by kernel_rfl) (fun _ _ _ h => h) rfl (fun V _ => by simp [go_sem]) (Below.refl _ _).drew ?_
  simp only [List.getElem_toArray, List.getElem_cons_zero, List.getElem_cons_succ, Act.put, List.setIfInBounds_toArray, List.set_cons_zero, List.set_cons_succ]
  refine take_val 6 (.slice a3 n3 c3) rfl (by kernel_rfl) (by kernel_rfl) (by kernel_rfl) (fun _ _ _ h => h) rfl (fun V _ => by simp [go_sem]) (Below.refl _ _).drew ?_
  simp only [List.getElem_toArray, List.getElem_cons_zero, List.getElem_cons_succ, Act.put, List.setIfInBounds_toArray, List.set_cons_zero, List.set_cons_succ]
  obtain ⟨r0, hr0⟩ : ∃ r, r = amR s0 n0 P0 R0 D1 n2 A2 B2 n3 A3 B3 := ⟨_, rfl⟩
  have HR_0 := Lib.hid hr0; clear hr0
  obtain ⟨r1, hr1⟩ : ∃ r, r = amCode s0 n0 P0 R0 D1 n2 A2 B2 n3 A3 B3 := ⟨_, rfl⟩
  have HR_1 := Lib.hid hr1; clear hr1
  refine' cut_with (A := ∀ (g : Nat) (V : World) (b_0 b_1 b_2 : Option Addr), Below w7.heap.size w7 V → DrumAt V 45 g r0 → (_ : Nat → World → Option Addr → Option Addr → Option Addr → Prop) g V b_0 b_1 b_2) (fun hcont => ?_) ?_
  rotate_left
  · have KQ9 := kp_start w7; have hdKQ9 := below_drew w7
    replace KB := KB.on hdKQ9
    replace KH0 := KH0.on hdKQ9
    replace KH2 := KH2.on hdKQ9
    replace KH3 := KH3.on hdKQ9
    replace KR0 := KR0.on hdKQ9
    replace KR1 := KR1.on hdKQ9
    clear hdKQ9
    generalize w7.drew = w10 at KB KH0 KH2 KH3 KR0 KR1 KQ9 ⊢
    refine step_call_or 1 12 24 #[.agg #[.int .i16 s0, .slice a0 n0 c0]] (.pointer (some ⟨w10.heap.size, 0, none⟩)) (w10.alloc (.cells (dc fun _ => 0) 45)) (by kernel_rfl) rfl rfl rfl rfl (by simp [go_sem]) (ex_alloc_drum rfl) (KQ9.alloc _).here ?_ ?_
    · refine (toFrame_kp s0 a0 n0 c0 P0 R0 _ (by omega) hs0 (KH0.here)).mono ?_
      rintro e w12 ⟨b13, rfl, hb11, KX14⟩
      replace KB := KB.on hb11
      replace KH0 := KH0.on hb11
      replace KH2 := KH2.on hb11
      replace KH3 := KH3.on hb11
      replace KR0 := KR0.on hb11
      replace KR1 := KR1.on hb11
      replace KQ9 := KQ9.on hb11
      refine ⟨_, rfl, KQ9.here, ?_⟩
      simp only [List.getElem_toArray, List.getElem_cons_zero, List.getElem_cons_succ, Act.put, List.setIfInBounds_toArray, List.set_cons_zero, List.set_cons_succ]
      refine step_call_or 3 12 25 #[.agg (dc D1)] (.pointer (some ⟨w12.heap.size, 0, none⟩)) (w12.alloc (.cells (dc fun _ => 0) 45)) (by kernel_rfl) rfl rfl rfl rfl (by simp [go_sem]) (ex_alloc_drum rfl) (KQ9.alloc _).here ?_ ?_
      · refine (toDrum_any D1 _).mono ?_
        rintro e w16 ⟨rfl, hb15⟩
        replace KB := KB.on hb15
        replace KH0 := KH0.on hb15
        replace KH2 := KH2.on hb15
        replace KH3 := KH3.on hb15
        replace KR0 := KR0.on hb15
        replace KR1 := KR1.on hb15
        replace KQ9 := KQ9.on hb15
        replace KX14 := KX14.on hb15
        refine ⟨_, rfl, KQ9.here, ?_⟩
        simp only [List.getElem_toArray, List.getElem_cons_zero, List.getElem_cons_succ, Act.put, List.setIfInBounds_toArray, List.set_cons_zero, List.set_cons_succ]
        refine step_call_or 5 12 47 #[.slice a2 n2 c2] (.pointer (some ⟨w16.heap.size, 0, none⟩)) (w16.alloc (.cells (dc fun _ => 0) 45)) (by kernel_rfl) rfl rfl rfl rfl (by simp [go_sem]) (ex_alloc_drum rfl) (KQ9.alloc _).here ?_ ?_
        · refine (toInt64A2S_kp a2 n2 c2 A2 B2 _ (by omega) (KH2.here)).mono ?_
          rintro e w18 ⟨b19, rfl, hb17, KX20⟩
          replace KB := KB.on hb17
          replace KH0 := KH0.on hb17
          replace KH2 := KH2.on hb17
          replace KH3 := KH3.on hb17
          replace KR0 := KR0.on hb17
          replace KR1 := KR1.on hb17
          replace KQ9 := KQ9.on hb17
          replace KX14 := KX14.on hb17
          refine ⟨_, rfl, KQ9.here, ?_⟩
          simp only [List.getElem_toArray, List.getElem_cons_zero, List.getElem_cons_succ, Act.put, List.setIfInBounds_toArray, List.set_cons_zero, List.set_cons_succ]
          refine step_call_or 7 12 47 #[.slice a3 n3 c3] (.pointer (some ⟨w18.heap.size, 0, none⟩)) (w18.alloc (.cells (dc fun _ => 0) 45)) (by kernel_rfl) rfl rfl rfl rfl (by simp [go_sem]) (ex_alloc_drum rfl) (KQ9.alloc _).here ?_ ?_
          · refine (toInt64A2S_kp a3 n3 c3 A3 B3 _ (by omega) (KH3.here)).mono ?_
            rintro e w22 ⟨b23, rfl, hb21, KX24⟩
            replace KB := KB.on hb21
            replace KH0 := KH0.on hb21
            replace KH2 := KH2.on hb21
            replace KH3 := KH3.on hb21
            replace KR0 := KR0.on hb21
            replace KR1 := KR1.on hb21
            replace KQ9 := KQ9.on hb21
            replace KX14 := KX14.on hb21
            replace KX20 := KX20.on hb21
            refine ⟨_, rfl, KQ9.here, ?_⟩
            simp only [List.getElem_toArray, List.getElem_cons_zero, List.getElem_cons_succ, Act.put, List.setIfInBounds_toArray, List.set_cons_zero, List.set_cons_succ]
            refine step_call_or 8 12 46 #[.agg #[.int .i16 s0, .slice b13 n0 n0], .agg (dc D1), .slice b19 n2 n2, .slice b23 n3 n3] (.pointer (some ⟨w22.heap.size, 0, none⟩)) (w22.alloc (.cells (dc fun _ => 0) 45)) (by kernel_rfl) rfl rfl rfl rfl (by simp [go_sem]) (ex_alloc_drum rfl) (KQ9.alloc _).here ?_ ?_
            · refine (specApplyMoves_any s0 b13 n0 n0 P0 R0 D1 b19 n2 n2 A2 B2 b23 n3 n3 A3 B3 _ hs0 (by omega) HP0.out HR0.out (KX14.here) HD1.out (by omega) HA2.out HB2.out (KX20.here) (by omega) HA3.out HB3.out (KX24.here)).mono ?_
              rw [← HR_0.out, ← HR_1.out]
              rintro e w26 ⟨rfl, hb25⟩
              replace KB := KB.on hb25
              replace KH0 := KH0.on hb25
              replace KH2 := KH2.on hb25
              replace KH3 := KH3.on hb25
              replace KR0 := KR0.on hb25
              replace KR1 := KR1.on hb25
              replace KQ9 := KQ9.on hb25
              replace KX14 := KX14.on hb25
              replace KX20 := KX20.on hb25
              replace KX24 := KX24.on hb25
              refine ⟨_, rfl, KQ9.here, ?_⟩
              simp only [List.getElem_toArray, List.getElem_cons_zero, List.getElem_cons_succ, Act.put, List.setIfInBounds_toArray, List.set_cons_zero, List.set_cons_succ]
              refine take_val 9 (.tuple #[.agg (dc r0), .int .i64 r1]) rfl (by kernel_rfl) (by kernel_rfl) (by kernel_rfl) (fun _ _ _ h => h) rfl (fun V _ => by simp [go_sem]) KQ9.here ?_
              simp only [List.getElem_toArray, List.getElem_cons_zero, List.getElem_cons_succ, Act.put, List.setIfInBounds_toArray, List.set_cons_zero, List.set_cons_succ]
              refine take_val 10 (.agg (dc r0)) rfl (by kernel_rfl) (by kernel_rfl) (by kernel_rfl) (fun _ _ _ h => h) rfl (fun V _ => by simp [go_sem]) KQ9.here ?_
              simp only [List.getElem_toArray, List.getElem_cons_zero, List.getElem_cons_succ, Act.put, List.setIfInBounds_toArray, List.set_cons_zero, List.set_cons_succ]
              refine take_val 11 (.int .i64 r1) rfl (by kernel_rfl) (by kernel_rfl) (by kernel_rfl) (fun _ _ _ h => h) rfl (fun V _ => by simp [go_sem]) KQ9.here ?_
              simp only [List.getElem_toArray, List.getElem_cons_zero, List.getElem_cons_succ, Act.put, List.setIfInBounds_toArray, List.set_cons_zero, List.set_cons_succ]
              refine step_val 12 (.pointer (some ⟨w26.heap.size, 0, none⟩)) (w26.alloc (.cells (dc fun _ => 0) 45)) (by kernel_rfl) rfl rfl (ex_alloc_drum rfl) (KQ9.alloc _).here ?_
              simp only [List.getElem_toArray, List.getElem_cons_zero, List.getElem_cons_succ, Act.put, List.setIfInBounds_toArray, List.set_cons_zero, List.set_cons_succ]
              have KZ29h := DrumAt.new w26 45 (fun _ => 0)
              have KZ29l := (KQ9.here).size
              replace KB := KB.alloc (.cells (dc fun _ => 0) 45)
              replace KH0 := KH0.alloc (.cells (dc fun _ => 0) 45)
              replace KH2 := KH2.alloc (.cells (dc fun _ => 0) 45)
              replace KH3 := KH3.alloc (.cells (dc fun _ => 0) 45)
              replace KR0 := KR0.alloc (.cells (dc fun _ => 0) 45)
              replace KR1 := KR1.alloc (.cells (dc fun _ => 0) 45)
              replace KQ9 := KQ9.alloc (.cells (dc fun _ => 0) 45)
              replace KX14 := KX14.alloc (.cells (dc fun _ => 0) 45)
              replace KX20 := KX20.alloc (.cells (dc fun _ => 0) 45)
              replace KX24 := KX24.alloc (.cells (dc fun _ => 0) 45)
              obtain ⟨g27, g27w⟩ : ∃ g, w26.heap.size = g := ⟨_, rfl⟩
              rw [g27w] at KZ29h KZ29l ⊢; clear g27w
              generalize w26.alloc (.cells (dc fun _ => 0) 45) = w28 at KZ29h KB KH0 KH2 KH3 KR0 KR1 KQ9 KX14 KX20 KX24 ⊢
              have KZ29 := kp_drum KZ29h; clear KZ29h
              have hbV30 := below_setRow KQ9.here KZ29l (dc r0); have hdV30 := DrumAt.setRow KZ29.here r0
              refine step_skip 13 (w28.setRow g27 (dc r0)) (by kernel_rfl) rfl rfl (ex_store_drum _ _ rfl g27 r0 rfl rfl _ _ KZ29.here) hbV30 ?_
              simp only [List.getElem_toArray, List.getElem_cons_zero, List.getElem_cons_succ, Act.put, List.setIfInBounds_toArray, List.set_cons_zero, List.set_cons_succ]
              generalize w28.setRow g27 (dc r0) = V30 at hbV30 hdV30 ⊢
              refine take_val 14 (.int .i64 r1) rfl (by kernel_rfl) (by kernel_rfl) (by kernel_rfl) (fun _ _ _ h => h) rfl (fun V _ => by simp [go_sem]) hbV30 ?_
              simp only [List.getElem_toArray, List.getElem_cons_zero, List.getElem_cons_succ, Act.put, List.setIfInBounds_toArray, List.set_cons_zero, List.set_cons_succ]
              refine wpAnyH_done (by kernel_rfl) ?_ _
              exact hcont g27 V30 b13 b19 b23 hbV30 hdV30
            · simp only [List.getElem_toArray, List.getElem_cons_zero, List.getElem_cons_succ, Act.put, List.setIfInBounds_toArray, List.set_cons_zero, List.set_cons_succ]
              have KZ33h := DrumAt.new w22 45 (fun _ => 0)
              have KZ33l := (KQ9.here).size
              replace KB := KB.alloc (.cells (dc fun _ => 0) 45)
              replace KH0 := KH0.alloc (.cells (dc fun _ => 0) 45)
              replace KH2 := KH2.alloc (.cells (dc fun _ => 0) 45)
              replace KH3 := KH3.alloc (.cells (dc fun _ => 0) 45)
              replace KR0 := KR0.alloc (.cells (dc fun _ => 0) 45)
              replace KR1 := KR1.alloc (.cells (dc fun _ => 0) 45)
              replace KQ9 := KQ9.alloc (.cells (dc fun _ => 0) 45)
              replace KX14 := KX14.alloc (.cells (dc fun _ => 0) 45)
              replace KX20 := KX20.alloc (.cells (dc fun _ => 0) 45)
              replace KX24 := KX24.alloc (.cells (dc fun _ => 0) 45)
              obtain ⟨g31, g31w⟩ : ∃ g, w22.heap.size = g := ⟨_, rfl⟩
              rw [g31w] at KZ33h KZ33l ⊢; clear g31w
              generalize w22.alloc (.cells (dc fun _ => 0) 45) = w32 at KZ33h KB KH0 KH2 KH3 KR0 KR1 KQ9 KX14 KX20 KX24 ⊢
              have KZ33 := kp_drum KZ33h; clear KZ33h
              refine step_call 8 46 #[.agg #[.int .i16 s0, .slice b13 n0 n0], .agg (dc D1), .slice b19 n2 n2, .slice b23 n3 n3] (by kernel_rfl) rfl rfl (by simp [go_sem]) ?_
              refine (specApplyMoves_any s0 b13 n0 n0 P0 R0 D1 b19 n2 n2 A2 B2 b23 n3 n3 A3 B3 _ hs0 (by omega) HP0.out HR0.out (KX14.here) HD1.out (by omega) HA2.out HB2.out (KX20.here) (by omega) HA3.out HB3.out (KX24.here)).mono ?_
              rw [← HR_0.out, ← HR_1.out]
              rintro e w35 ⟨rfl, hb34⟩
              replace KB := KB.on hb34
              replace KH0 := KH0.on hb34
              replace KH2 := KH2.on hb34
              replace KH3 := KH3.on hb34
              replace KR0 := KR0.on hb34
              replace KR1 := KR1.on hb34
              replace KQ9 := KQ9.on hb34
              replace KX14 := KX14.on hb34
              replace KX20 := KX20.on hb34
              replace KX24 := KX24.on hb34
              replace KZ33 := KZ33.on hb34
              refine ⟨_, rfl, KQ9.here, ?_⟩
              simp only [List.getElem_toArray, List.getElem_cons_zero, List.getElem_cons_succ, Act.put, List.setIfInBounds_toArray, List.set_cons_zero, List.set_cons_succ]
              refine take_val 9 (.tuple #[.agg (dc r0), .int .i64 r1]) rfl (by kernel_rfl) (by kernel_rfl) (by kernel_rfl) (fun _ _ _ h => h) rfl (fun V _ => by simp [go_sem]) KQ9.here ?_
              simp only [List.getElem_toArray, List.getElem_cons_zero, List.getElem_cons_succ, Act.put, List.setIfInBounds_toArray, List.set_cons_zero, List.set_cons_succ]
              refine take_val 10 (.agg (dc r0)) rfl (by kernel_rfl) (by kernel_rfl) (by kernel_rfl) (fun _ _ _ h => h) rfl (fun V _ => by simp [go_sem]) KQ9.here ?_
              simp only [List.getElem_toArray, List.getElem_cons_zero, List.getElem_cons_succ, Act.put, List.setIfInBounds_toArray, List.set_cons_zero, List.set_cons_succ]
              refine take_val 11 (.int .i64 r1) rfl (by kernel_rfl) (by kernel_rfl) (by kernel_rfl) (fun _ _ _ h => h) rfl (fun V _ => by simp [go_sem]) KQ9.here ?_
              simp only [List.getElem_toArray, List.getElem_cons_zero, List.getElem_cons_succ, Act.put, List.setIfInBounds_toArray, List.set_cons_zero, List.set_cons_succ]
              have hbV36 := below_setRow KQ9.here KZ33l (dc r0); have hdV36 := DrumAt.setRow KZ33.here r0
              refine step_skip 13 (w35.setRow g31 (dc r0)) (by kernel_rfl) rfl rfl (ex_store_drum _ _ rfl g31 r0 rfl rfl _ _ KZ33.here) hbV36 ?_
              simp only [List.getElem_toArray, List.getElem_cons_zero, List.getElem_cons_succ, Act.put, List.setIfInBounds_toArray, List.set_cons_zero, List.set_cons_succ]
              generalize w35.setRow g31 (dc r0) = V36 at hbV36 hdV36 ⊢
              refine take_val 14 (.int .i64 r1) rfl (by kernel_rfl) (by kernel_rfl) (by kernel_rfl) (fun _ _ _ h => h) rfl (fun V _ => by simp [go_sem]) hbV36 ?_
              simp only [List.getElem_toArray, List.getElem_cons_zero, List.getElem_cons_succ, Act.put, List.setIfInBounds_toArray, List.set_cons_zero, List.set_cons_succ]
              refine wpAnyH_done (by kernel_rfl) ?_ _
              exact hcont g31 V36 b13 b19 b23 hbV36 hdV36
          · simp only [List.getElem_toArray, List.getElem_cons_zero, List.getElem_cons_succ, Act.put, List.setIfInBounds_toArray, List.set_cons_zero, List.set_cons_succ]
            have KZ39h := DrumAt.new w18 45 (fun _ => 0)
            have KZ39l := (KQ9.here).size
            replace KB := KB.alloc (.cells (dc fun _ => 0) 45)
            replace KH0 := KH0.alloc (.cells (dc fun _ => 0) 45)
            replace KH2 := KH2.alloc (.cells (dc fun _ => 0) 45)
            replace KH3 := KH3.alloc (.cells (dc fun _ => 0) 45)
            replace KR0 := KR0.alloc (.cells (dc fun _ => 0) 45)
            replace KR1 := KR1.alloc (.cells (dc fun _ => 0) 45)
            replace KQ9 := KQ9.alloc (.cells (dc fun _ => 0) 45)
            replace KX14 := KX14.alloc (.cells (dc fun _ => 0) 45)
            replace KX20 := KX20.alloc (.cells (dc fun _ => 0) 45)
            obtain ⟨g37, g37w⟩ : ∃ g, w18.heap.size = g := ⟨_, rfl⟩
            rw [g37w] at KZ39h KZ39l ⊢; clear g37w
            generalize w18.alloc (.cells (dc fun _ => 0) 45) = w38 at KZ39h KB KH0 KH2 KH3 KR0 KR1 KQ9 KX14 KX20 ⊢
            have KZ39 := kp_drum KZ39h; clear KZ39h
            refine step_call 7 47 #[.slice a3 n3 c3] (by kernel_rfl) rfl rfl (by simp [go_sem]) ?_
            refine (toInt64A2S_kp a3 n3 c3 A3 B3 _ (by omega) (KH3.here)).mono ?_
            rintro e w41 ⟨b42, rfl, hb40, KX43⟩
            replace KB := KB.on hb40
            replace KH0 := KH0.on hb40
            replace KH2 := KH2.on hb40
            replace KH3 := KH3.on hb40
            replace KR0 := KR0.on hb40
            replace KR1 := KR1.on hb40
            replace KQ9 := KQ9.on hb40
            replace KX14 := KX14.on hb40
            replace KX20 := KX20.on hb40
            replace KZ39 := KZ39.on hb40
            refine ⟨_, rfl, KQ9.here, ?_⟩
            simp only [List.getElem_toArray, List.getElem_cons_zero, List.getElem_cons_succ, Act.put, List.setIfInBounds_toArray, List.set_cons_zero, List.set_cons_succ]
            refine step_call 8 46 #[.agg #[.int .i16 s0, .slice b13 n0 n0], .agg (dc D1), .slice b19 n2 n2, .slice b42 n3 n3] (by kernel_rfl) rfl rfl (by simp [go_sem]) ?_
            refine (specApplyMoves_any s0 b13 n0 n0 P0 R0 D1 b19 n2 n2 A2 B2 b42 n3 n3 A3 B3 _ hs0 (by omega) HP0.out HR0.out (KX14.here) HD1.out (by omega) HA2.out HB2.out (KX20.here) (by omega) HA3.out HB3.out (KX43.here)).mono ?_
            rw [← HR_0.out, ← HR_1.out]
            rintro e w45 ⟨rfl, hb44⟩
            replace KB := KB.on hb44
            replace KH0 := KH0.on hb44
            replace KH2 := KH2.on hb44
            replace KH3 := KH3.on hb44
            replace KR0 := KR0.on hb44
            replace KR1 := KR1.on hb44
            replace KQ9 := KQ9.on hb44
            replace KX14 := KX14.on hb44
            replace KX20 := KX20.on hb44
            replace KZ39 := KZ39.on hb44
            replace KX43 := KX43.on hb44
            refine ⟨_, rfl, KQ9.here, ?_⟩
            simp only [List.getElem_toArray, List.getElem_cons_zero, List.getElem_cons_succ, Act.put, List.setIfInBounds_toArray, List.set_cons_zero, List.set_cons_succ]
            refine take_val 9 (.tuple #[.agg (dc r0), .int .i64 r1]) rfl (by kernel_rfl) (by kernel_rfl) (by kernel_rfl) (fun _ _ _ h => h) rfl (fun V _ => by simp [go_sem]) KQ9.here ?_
            simp only [List.getElem_toArray, List.getElem_cons_zero, List.getElem_cons_succ, Act.put, List.setIfInBounds_toArray, List.set_cons_zero, List.set_cons_succ]
            refine take_val 10 (.agg (dc r0)) rfl (by kernel_rfl) (by kernel_rfl) (by kernel_rfl) (fun _ _ _ h => h) rfl (fun V _ => by simp [go_sem]) KQ9.here ?_
            simp only [List.getElem_toArray, List.getElem_cons_zero, List.getElem_cons_succ, Act.put, List.setIfInBounds_toArray, List.set_cons_zero, List.set_cons_succ]
            refine take_val 11 (.int .i64 r1) rfl (by kernel_rfl) (by kernel_rfl) (by kernel_rfl) (fun _ _ _ h => h) rfl (fun V _ => by simp [go_sem]) KQ9.here ?_
            simp only [List.getElem_toArray, List.getElem_cons_zero, List.getElem_cons_succ, Act.put, List.setIfInBounds_toArray, List.set_cons_zero, List.set_cons_succ]
            have hbV46 := below_setRow KQ9.here KZ39l (dc r0); have hdV46 := DrumAt.setRow KZ39.here r0
            refine step_skip 13 (w45.setRow g37 (dc r0)) (by kernel_rfl) rfl rfl (ex_store_drum _ _ rfl g37 r0 rfl rfl _ _ KZ39.here) hbV46 ?_
            simp only [List.getElem_toArray, List.getElem_cons_zero, List.getElem_cons_succ, Act.put, List.setIfInBounds_toArray, List.set_cons_zero, List.set_cons_succ]
            generalize w45.setRow g37 (dc r0) = V46 at hbV46 hdV46 ⊢
            refine take_val 14 (.int .i64 r1) rfl (by kernel_rfl) (by kernel_rfl) (by kernel_rfl) (fun _ _ _ h => h) rfl (fun V _ => by simp [go_sem]) hbV46 ?_
            simp only [List.getElem_toArray, List.getElem_cons_zero, List.getElem_cons_succ, Act.put, List.setIfInBounds_toArray, List.set_cons_zero, List.set_cons_succ]
            refine wpAnyH_done (by kernel_rfl) ?_ _
            exact hcont g37 V46 b13 b19 b42 hbV46 hdV46
        · simp only [List.getElem_toArray, List.getElem_cons_zero, List.getElem_cons_succ, Act.put, List.setIfInBounds_toArray, List.set_cons_zero, List.set_cons_succ]
          have KZ49h := DrumAt.new w16 45 (fun _ => 0)
          have KZ49l := (KQ9.here).size
          replace KB := KB.alloc (.cells (dc fun _ => 0) 45)
          replace KH0 := KH0.alloc (.cells (dc fun _ => 0) 45)
          replace KH2 := KH2.alloc (.cells (dc fun _ => 0) 45)
          replace KH3 := KH3.alloc (.cells (dc fun _ => 0) 45)
          replace KR0 := KR0.alloc (.cells (dc fun _ => 0) 45)
          replace KR1 := KR1.alloc (.cells (dc fun _ => 0) 45)
          replace KQ9 := KQ9.alloc (.cells (dc fun _ => 0) 45)
          replace KX14 := KX14.alloc (.cells (dc fun _ => 0) 45)
          obtain ⟨g47, g47w⟩ : ∃ g, w16.heap.size = g := ⟨_, rfl⟩
          rw [g47w] at KZ49h KZ49l ⊢; clear g47w
          generalize w16.alloc (.cells (dc fun _ => 0) 45) = w48 at KZ49h KB KH0 KH2 KH3 KR0 KR1 KQ9 KX14 ⊢
          have KZ49 := kp_drum KZ49h; clear KZ49h
          refine step_call 5 47 #[.slice a2 n2 c2] (by kernel_rfl) rfl rfl (by simp [go_sem]) ?_
          refine (toInt64A2S_kp a2 n2 c2 A2 B2 _ (by omega) (KH2.here)).mono ?_
          rintro e w51 ⟨b52, rfl, hb50, KX53⟩
          replace KB := KB.on hb50
          replace KH0 := KH0.on hb50
          replace KH2 := KH2.on hb50
          replace KH3 := KH3.on hb50
          replace KR0 := KR0.on hb50
          replace KR1 := KR1.on hb50
          replace KQ9 := KQ9.on hb50
          replace KX14 := KX14.on hb50
          replace KZ49 := KZ49.on hb50
          refine ⟨_, rfl, KQ9.here, ?_⟩
          simp only [List.getElem_toArray, List.getElem_cons_zero, List.getElem_cons_succ, Act.put, List.setIfInBounds_toArray, List.set_cons_zero, List.set_cons_succ]
          refine step_call 7 47 #[.slice a3 n3 c3] (by kernel_rfl) rfl rfl (by simp [go_sem]) ?_
          refine (toInt64A2S_kp a3 n3 c3 A3 B3 _ (by omega) (KH3.here)).mono ?_
          rintro e w55 ⟨b56, rfl, hb54, KX57⟩
          replace KB := KB.on hb54
          replace KH0 := KH0.on hb54
          replace KH2 := KH2.on hb54
          replace KH3 := KH3.on hb54
          replace KR0 := KR0.on hb54
          replace KR1 := KR1.on hb54
          replace KQ9 := KQ9.on hb54
          replace KX14 := KX14.on hb54
          replace KZ49 := KZ49.on hb54
          replace KX53 := KX53.on hb54
          refine ⟨_, rfl, KQ9.here, ?_⟩
          simp only [List.getElem_toArray, List.getElem_cons_zero, List.getElem_cons_succ, Act.put, List.setIfInBounds_toArray, List.set_cons_zero, List.set_cons_succ]
          refine step_call 8 46 #[.agg #[.int .i16 s0, .slice b13 n0 n0], .agg (dc D1), .slice b52 n2 n2, .slice b56 n3 n3] (by kernel_rfl) rfl rfl (by simp [go_sem]) ?_
          refine (specApplyMoves_any s0 b13 n0 n0 P0 R0 D1 b52 n2 n2 A2 B2 b56 n3 n3 A3 B3 _ hs0 (by omega) HP0.out HR0.out (KX14.here) HD1.out (by omega) HA2.out HB2.out (KX53.here) (by omega) HA3.out HB3.out (KX57.here)).mono ?_
          rw [← HR_0.out, ← HR_1.out]
          rintro e w59 ⟨rfl, hb58⟩
          replace KB := KB.on hb58
          replace KH0 := KH0.on hb58
          replace KH2 := KH2.on hb58
          replace KH3 := KH3.on hb58
          replace KR0 := KR0.on hb58
          replace KR1 := KR1.on hb58
          replace KQ9 := KQ9.on hb58
          replace KX14 := KX14.on hb58
          replace KZ49 := KZ49.on hb58
          replace KX53 := KX53.on hb58
          replace KX57 := KX57.on hb58
          refine ⟨_, rfl, KQ9.here, ?_⟩
          simp only [List.getElem_toArray, List.getElem_cons_zero, List.getElem_cons_succ, Act.put, List.setIfInBounds_toArray, List.set_cons_zero, List.set_cons_succ]
          refine take_val 9 (.tuple #[.agg (dc r0), .int .i64 r1]) rfl (by kernel_rfl) (by kernel_rfl) (by kernel_rfl) (fun _ _ _ h => h) rfl (fun V _ => by simp [go_sem]) KQ9.here ?_
          simp only [List.getElem_toArray, List.getElem_cons_zero, List.getElem_cons_succ, Act.put, List.setIfInBounds_toArray, List.set_cons_zero, List.set_cons_succ]
          refine take_val 10 (.agg (dc r0)) rfl (by kernel_rfl) (by kernel_rfl) (by kernel_rfl) (fun _ _ _ h => h) rfl (fun V _ => by simp [go_sem]) KQ9.here ?_
          simp only [List.getElem_toArray, List.getElem_cons_zero, List.getElem_cons_succ, Act.put, List.setIfInBounds_toArray, List.set_cons_zero, List.set_cons_succ]
          refine take_val 11 (.int .i64 r1) rfl (by kernel_rfl) (by kernel_rfl) (by kernel_rfl) (fun _ _ _ h => h) rfl (fun V _ => by simp [go_sem]) KQ9.here ?_
          simp only [List.getElem_toArray, List.getElem_cons_zero, List.getElem_cons_succ, Act.put, List.setIfInBounds_toArray, List.set_cons_zero, List.set_cons_succ]
          have hbV60 := below_setRow KQ9.here KZ49l (dc r0); have hdV60 := DrumAt.setRow KZ49.here r0
          refine step_skip 13 (w59.setRow g47 (dc r0)) (by kernel_rfl) rfl rfl (ex_store_drum _ _ rfl g47 r0 rfl rfl _ _ KZ49.here) hbV60 ?_
          simp only [List.getElem_toArray, List.getElem_cons_zero, List.getElem_cons_succ, Act.put, List.setIfInBounds_toArray, List.set_cons_zero, List.set_cons_succ]
          generalize w59.setRow g47 (dc r0) = V60 at hbV60 hdV60 ⊢
          refine take_val 14 (.int .i64 r1) rfl (by kernel_rfl) (by kernel_rfl) (by kernel_rfl) (fun _ _ _ h => h) rfl (fun V _ => by simp [go_sem]) hbV60 ?_
          simp only [List.getElem_toArray, List.getElem_cons_zero, List.getElem_cons_succ, Act.put, List.setIfInBounds_toArray, List.set_cons_zero, List.set_cons_succ]
          refine wpAnyH_done (by kernel_rfl) ?_ _
          exact hcont g47 V60 b13 b52 b56 hbV60 hdV60
      · simp only [List.getElem_toArray, List.getElem_cons_zero, List.getElem_cons_succ, Act.put, List.setIfInBounds_toArray, List.set_cons_zero, List.set_cons_succ]
        have KZ63h := DrumAt.new w12 45 (fun _ => 0)
        have KZ63l := (KQ9.here).size
        replace KB := KB.alloc (.cells (dc fun _ => 0) 45)
        replace KH0 := KH0.alloc (.cells (dc fun _ => 0) 45)
        replace KH2 := KH2.alloc (.cells (dc fun _ => 0) 45)
        replace KH3 := KH3.alloc (.cells (dc fun _ => 0) 45)
        replace KR0 := KR0.alloc (.cells (dc fun _ => 0) 45)
        replace KR1 := KR1.alloc (.cells (dc fun _ => 0) 45)
        replace KQ9 := KQ9.alloc (.cells (dc fun _ => 0) 45)
        replace KX14 := KX14.alloc (.cells (dc fun _ => 0) 45)
        obtain ⟨g61, g61w⟩ : ∃ g, w12.heap.size = g := ⟨_, rfl⟩
        rw [g61w] at KZ63h KZ63l ⊢; clear g61w
        generalize w12.alloc (.cells (dc fun _ => 0) 45) = w62 at KZ63h KB KH0 KH2 KH3 KR0 KR1 KQ9 KX14 ⊢
        have KZ63 := kp_drum KZ63h; clear KZ63h
        refine step_call 3 25 #[.agg (dc D1)] (by kernel_rfl) rfl rfl (by simp [go_sem]) ?_
        refine (toDrum_any D1 _).mono ?_
        rintro e w65 ⟨rfl, hb64⟩
        replace KB := KB.on hb64
        replace KH0 := KH0.on hb64
        replace KH2 := KH2.on hb64
        replace KH3 := KH3.on hb64
        replace KR0 := KR0.on hb64
        replace KR1 := KR1.on hb64
        replace KQ9 := KQ9.on hb64
        replace KX14 := KX14.on hb64
        replace KZ63 := KZ63.on hb64
        refine ⟨_, rfl, KQ9.here, ?_⟩
        simp only [List.getElem_toArray, List.getElem_cons_zero, List.getElem_cons_succ, Act.put, List.setIfInBounds_toArray, List.set_cons_zero, List.set_cons_succ]
        refine step_call 5 47 #[.slice a2 n2 c2] (by kernel_rfl) rfl rfl (by simp [go_sem]) ?_
        refine (toInt64A2S_kp a2 n2 c2 A2 B2 _ (by omega) (KH2.here)).mono ?_
        rintro e w67 ⟨b68, rfl, hb66, KX69⟩
        replace KB := KB.on hb66
        replace KH0 := KH0.on hb66
        replace KH2 := KH2.on hb66
        replace KH3 := KH3.on hb66
        replace KR0 := KR0.on hb66
        replace KR1 := KR1.on hb66
        replace KQ9 := KQ9.on hb66
        replace KX14 := KX14.on hb66
        replace KZ63 := KZ63.on hb66
        refine ⟨_, rfl, KQ9.here, ?_⟩
        simp only [List.getElem_toArray, List.getElem_cons_zero, List.getElem_cons_succ, Act.put, List.setIfInBounds_toArray, List.set_cons_zero, List.set_cons_succ]
        refine step_call 7 47 #[.slice a3 n3 c3] (by kernel_rfl) rfl rfl (by simp [go_sem]) ?_
        refine (toInt64A2S_kp a3 n3 c3 A3 B3 _ (by omega) (KH3.here)).mono ?_
        rintro e w71 ⟨b72, rfl, hb70, KX73⟩
        replace KB := KB.on hb70
        replace KH0 := KH0.on hb70
        replace KH2 := KH2.on hb70
        replace KH3 := KH3.on hb70
        replace KR0 := KR0.on hb70
        replace KR1 := KR1.on hb70
        replace KQ9 := KQ9.on hb70
        replace KX14 := KX14.on hb70
        replace KZ63 := KZ63.on hb70
        replace KX69 := KX69.on hb70
        refine ⟨_, rfl, KQ9.here, ?_⟩
        simp only [List.getElem_toArray, List.getElem_cons_zero, List.getElem_cons_succ, Act.put, List.setIfInBounds_toArray, List.set_cons_zero, List.set_cons_succ]
        refine step_call 8 46 #[.agg #[.int .i16 s0, .slice b13 n0 n0], .agg (dc D1), .slice b68 n2 n2, .slice b72 n3 n3] (by kernel_rfl) rfl rfl (by simp [go_sem]) ?_
        refine (specApplyMoves_any s0 b13 n0 n0 P0 R0 D1 b68 n2 n2 A2 B2 b72 n3 n3 A3 B3 _ hs0 (by omega) HP0.out HR0.out (KX14.here) HD1.out (by omega) HA2.out HB2.out (KX69.here) (by omega) HA3.out HB3.out (KX73.here)).mono ?_
        rw [← HR_0.out, ← HR_1.out]
        rintro e w75 ⟨rfl, hb74⟩
        replace KB := KB.on hb74
        replace KH0 := KH0.on hb74
        replace KH2 := KH2.on hb74
        replace KH3 := KH3.on hb74
        replace KR0 := KR0.on hb74
        replace KR1 := KR1.on hb74
        replace KQ9 := KQ9.on hb74
        replace KX14 := KX14.on hb74
        replace KZ63 := KZ63.on hb74
        replace KX69 := KX69.on hb74
        replace KX73 := KX73.on hb74
        refine ⟨_, rfl, KQ9.here, ?_⟩
        simp only [List.getElem_toArray, List.getElem_cons_zero, List.getElem_cons_succ, Act.put, List.setIfInBounds_toArray, List.set_cons_zero, List.set_cons_succ]
        refine take_val 9 (.tuple #[.agg (dc r0), .int .i64 r1]) rfl (by kernel_rfl) (by kernel_rfl) (by kernel_rfl) (fun _ _ _ h => h) rfl (fun V _ => by simp [go_sem]) KQ9.here ?_
        simp only [List.getElem_toArray, List.getElem_cons_zero, List.getElem_cons_succ, Act.put, List.setIfInBounds_toArray, List.set_cons_zero, List.set_cons_succ]
        refine take_val 10 (.agg (dc r0)) rfl (by kernel_rfl) (by kernel_rfl) (by kernel_rfl) (fun _ _ _ h => h) rfl (fun V _ => by simp [go_sem]) KQ9.here ?_
        simp only [List.getElem_toArray, List.getElem_cons_zero, List.getElem_cons_succ, Act.put, List.setIfInBounds_toArray, List.set_cons_zero, List.set_cons_succ]
        refine take_val 11 (.int .i64 r1) rfl (by kernel_rfl) (by kernel_rfl) (by kernel_rfl) (fun _ _ _ h => h) rfl (fun V _ => by simp [go_sem]) KQ9.here ?_
        simp only [List.getElem_toArray, List.getElem_cons_zero, List.getElem_cons_succ, Act.put, List.setIfInBounds_toArray, List.set_cons_zero, List.set_cons_succ]
        have hbV76 := below_setRow KQ9.here KZ63l (dc r0); have hdV76 := DrumAt.setRow KZ63.here r0
        refine step_skip 13 (w75.setRow g61 (dc r0)) (by kernel_rfl) rfl rfl (ex_store_drum _ _ rfl g61 r0 rfl rfl _ _ KZ63.here) hbV76 ?_
        simp only [List.getElem_toArray, List.getElem_cons_zero, List.getElem_cons_succ, Act.put, List.setIfInBounds_toArray, List.set_cons_zero, List.set_cons_succ]
        generalize w75.setRow g61 (dc r0) = V76 at hbV76 hdV76 ⊢
        refine take_val 14 (.int .i64 r1) rfl (by kernel_rfl) (by kernel_rfl) (by kernel_rfl) (fun _ _ _ h => h) rfl (fun V _ => by simp [go_sem]) hbV76 ?_
        simp only [List.getElem_toArray, List.getElem_cons_zero, List.getElem_cons_succ, Act.put, List.setIfInBounds_toArray, List.set_cons_zero, List.set_cons_succ]
        refine wpAnyH_done (by kernel_rfl) ?_ _
        exact hcont g61 V76 b13 b68 b72 hbV76 hdV76
    · simp only [List.getElem_toArray, List.getElem_cons_zero, List.getElem_cons_succ, Act.put, List.setIfInBounds_toArray, List.set_cons_zero, List.set_cons_succ]
      have KZ79h := DrumAt.new w10 45 (fun _ => 0)
      have KZ79l := (KQ9.here).size
      replace KB := KB.alloc (.cells (dc fun _ => 0) 45)
      replace KH0 := KH0.alloc (.cells (dc fun _ => 0) 45)
      replace KH2 := KH2.alloc (.cells (dc fun _ => 0) 45)
      replace KH3 := KH3.alloc (.cells (dc fun _ => 0) 45)
      replace KR0 := KR0.alloc (.cells (dc fun _ => 0) 45)
      replace KR1 := KR1.alloc (.cells (dc fun _ => 0) 45)
      replace KQ9 := KQ9.alloc (.cells (dc fun _ => 0) 45)
      obtain ⟨g77, g77w⟩ : ∃ g, w10.heap.size = g := ⟨_, rfl⟩
      rw [g77w] at KZ79h KZ79l ⊢; clear g77w
      generalize w10.alloc (.cells (dc fun _ => 0) 45) = w78 at KZ79h KB KH0 KH2 KH3 KR0 KR1 KQ9 ⊢
      have KZ79 := kp_drum KZ79h; clear KZ79h
      refine step_call 1 24 #[.agg #[.int .i16 s0, .slice a0 n0 c0]] (by kernel_rfl) rfl rfl (by simp [go_sem]) ?_
      refine (toFrame_kp s0 a0 n0 c0 P0 R0 _ (by omega) hs0 (KH0.here)).mono ?_
      rintro e w81 ⟨b82, rfl, hb80, KX83⟩
      replace KB := KB.on hb80
      replace KH0 := KH0.on hb80
      replace KH2 := KH2.on hb80
      replace KH3 := KH3.on hb80
      replace KR0 := KR0.on hb80
      replace KR1 := KR1.on hb80
      replace KQ9 := KQ9.on hb80
      replace KZ79 := KZ79.on hb80
      refine ⟨_, rfl, KQ9.here, ?_⟩
      simp only [List.getElem_toArray, List.getElem_cons_zero, List.getElem_cons_succ, Act.put, List.setIfInBounds_toArray, List.set_cons_zero, List.set_cons_succ]
      refine step_call 3 25 #[.agg (dc D1)] (by kernel_rfl) rfl rfl (by simp [go_sem]) ?_
      refine (toDrum_any D1 _).mono ?_
      rintro e w85 ⟨rfl, hb84⟩
      replace KB := KB.on hb84
      replace KH0 := KH0.on hb84
      replace KH2 := KH2.on hb84
      replace KH3 := KH3.on hb84
      replace KR0 := KR0.on hb84
      replace KR1 := KR1.on hb84
      replace KQ9 := KQ9.on hb84
      replace KZ79 := KZ79.on hb84
      replace KX83 := KX83.on hb84
      refine ⟨_, rfl, KQ9.here, ?_⟩
      simp only [List.getElem_toArray, List.getElem_cons_zero, List.getElem_cons_succ, Act.put, List.setIfInBounds_toArray, List.set_cons_zero, List.set_cons_succ]
      refine step_call 5 47 #[.slice a2 n2 c2] (by kernel_rfl) rfl rfl (by simp [go_sem]) ?_
      refine (toInt64A2S_kp a2 n2 c2 A2 B2 _ (by omega) (KH2.here)).mono ?_
      rintro e w87 ⟨b88, rfl, hb86, KX89⟩
      replace KB := KB.on hb86
      replace KH0 := KH0.on hb86
      replace KH2 := KH2.on hb86
      replace KH3 := KH3.on hb86
      replace KR0 := KR0.on hb86
      replace KR1 := KR1.on hb86
      replace KQ9 := KQ9.on hb86
      replace KZ79 := KZ79.on hb86
      replace KX83 := KX83.on hb86
      refine ⟨_, rfl, KQ9.here, ?_⟩
      simp only [List.getElem_toArray, List.getElem_cons_zero, List.getElem_cons_succ, Act.put, List.setIfInBounds_toArray, List.set_cons_zero, List.set_cons_succ]
      refine step_call 7 47 #[.slice a3 n3 c3] (by kernel_rfl) rfl rfl (by simp [go_sem]) ?_
      refine (toInt64A2S_kp a3 n3 c3 A3 B3 _ (by omega) (KH3.here)).mono ?_
      rintro e w91 ⟨b92, rfl, hb90, KX93⟩
      replace KB := KB.on hb90
      replace KH0 := KH0.on hb90
      replace KH2 := KH2.on hb90
      replace KH3 := KH3.on hb90
      replace KR0 := KR0.on hb90
      replace KR1 := KR1.on hb90
      replace KQ9 := KQ9.on hb90
      replace KZ79 := KZ79.on hb90
      replace KX83 := KX83.on hb90
      replace KX89 := KX89.on hb90
      refine ⟨_, rfl, KQ9.here, ?_⟩
      simp only [List.getElem_toArray, List.getElem_cons_zero, List.getElem_cons_succ, Act.put, List.setIfInBounds_toArray, List.set_cons_zero, List.set_cons_succ]
      refine step_call 8 46 #[.agg #[.int .i16 s0, .slice b82 n0 n0], .agg (dc D1), .slice b88 n2 n2, .slice b92 n3 n3] (by kernel_rfl) rfl rfl (by simp [go_sem]) ?_
      refine (specApplyMoves_any s0 b82 n0 n0 P0 R0 D1 b88 n2 n2 A2 B2 b92 n3 n3 A3 B3 _ hs0 (by omega) HP0.out HR0.out (KX83.here) HD1.out (by omega) HA2.out HB2.out (KX89.here) (by omega) HA3.out HB3.out (KX93.here)).mono ?_
      rw [← HR_0.out, ← HR_1.out]
      rintro e w95 ⟨rfl, hb94⟩
      replace KB := KB.on hb94
      replace KH0 := KH0.on hb94
      replace KH2 := KH2.on hb94
      replace KH3 := KH3.on hb94
      replace KR0 := KR0.on hb94
      replace KR1 := KR1.on hb94
      replace KQ9 := KQ9.on hb94
      replace KZ79 := KZ79.on hb94
      replace KX83 := KX83.on hb94
      replace KX89 := KX89.on hb94
      replace KX93 := KX93.on hb94
      refine ⟨_, rfl, KQ9.here, ?_⟩
      simp only [List.getElem_toArray, List.getElem_cons_zero, List.getElem_cons_succ, Act.put, List.setIfInBounds_toArray, List.set_cons_zero, List.set_cons_succ]
      refine take_val 9 (.tuple #[.agg (dc r0), .int .i64 r1]) rfl (by kernel_rfl) (by kernel_rfl) (by kernel_rfl) (fun _ _ _ h => h) rfl (fun V _ => by simp [go_sem]) KQ9.here ?_
      simp only [List.getElem_toArray, List.getElem_cons_zero, List.getElem_cons_succ, Act.put, List.setIfInBounds_toArray, List.set_cons_zero, List.set_cons_succ]
      refine take_val 10 (.agg (dc r0)) rfl (by kernel_rfl) (by kernel_rfl) (by kernel_rfl) (fun _ _ _ h => h) rfl (fun V _ => by simp [go_sem]) KQ9.here ?_
      simp only [List.getElem_toArray, List.getElem_cons_zero, List.getElem_cons_succ, Act.put, List.setIfInBounds_toArray, List.set_cons_zero, List.set_cons_succ]
      refine take_val 11 (.int .i64 r1) rfl (by kernel_rfl) (by kernel_rfl) (by kernel_rfl) (fun _ _ _ h => h) rfl (fun V _ => by simp [go_sem]) KQ9.here ?_
      simp only [List.getElem_toArray, List.getElem_cons_zero, List.getElem_cons_succ, Act.put, List.setIfInBounds_toArray, List.set_cons_zero, List.set_cons_succ]
      have hbV96 := below_setRow KQ9.here KZ79l (dc r0); have hdV96 := DrumAt.setRow KZ79.here r0
      refine step_skip 13 (w95.setRow g77 (dc r0)) (by kernel_rfl) rfl rfl (ex_store_drum _ _ rfl g77 r0 rfl rfl _ _ KZ79.here) hbV96 ?_
      simp only [List.getElem_toArray, List.getElem_cons_zero, List.getElem_cons_succ, Act.put, List.setIfInBounds_toArray, List.set_cons_zero, List.set_cons_succ]
      generalize w95.setRow g77 (dc r0) = V96 at hbV96 hdV96 ⊢
      refine take_val 14 (.int .i64 r1) rfl (by kernel_rfl) (by kernel_rfl) (by kernel_rfl) (fun _ _ _ h => h) rfl (fun V _ => by simp [go_sem]) hbV96 ?_
      simp only [List.getElem_toArray, List.getElem_cons_zero, List.getElem_cons_succ, Act.put, List.setIfInBounds_toArray, List.set_cons_zero, List.set_cons_succ]
      refine wpAnyH_done (by kernel_rfl) ?_ _
      exact hcont g77 V96 b82 b88 b92 hbV96 hdV96
  intro g97 V98 _ _ _ hb99 hb99d
  replace KB := KB.on hb99
  replace KH0 := KH0.on hb99
  replace KH2 := KH2.on hb99
  replace KH3 := KH3.on hb99
  replace KR0 := KR0.on hb99
  replace KR1 := KR1.on hb99
  have KR100 := kp_drum hb99d; clear hb99d hb99
  go_wp2_with (first | (with_reducible refine load_lframe rfl _ rfl (w.heap.size) rfl _ s0 a0 n0 c0 KR0.here ?_) | (with_reducible refine load_arr rfl _ rfl (w.heap.size + 1) rfl _ D1 KR1.here ?_) | (with_reducible refine load_drum rfl _ rfl g97 rfl _ r0 KR100.here ?_))
  refine (toFrame_kp s0 a0 n0 c0 P0 R0 _ (by omega) hs0 (KH0.here)).mono ?_
  rintro e w102 ⟨b103, rfl, hb101, KX104⟩
  replace KB := KB.on hb101
  replace KH0 := KH0.on hb101
  replace KH2 := KH2.on hb101
  replace KH3 := KH3.on hb101
  replace KR0 := KR0.on hb101
  replace KR1 := KR1.on hb101
  replace KR100 := KR100.on hb101
  replace KB := KB.alloc (.cells #[.int .i16 s0, .slice b103 n0 n0] 43)
  replace KH0 := KH0.alloc (.cells #[.int .i16 s0, .slice b103 n0 n0] 43)
  replace KH2 := KH2.alloc (.cells #[.int .i16 s0, .slice b103 n0 n0] 43)
  replace KH3 := KH3.alloc (.cells #[.int .i16 s0, .slice b103 n0 n0] 43)
  replace KR0 := KR0.alloc (.cells #[.int .i16 s0, .slice b103 n0 n0] 43)
  replace KR1 := KR1.alloc (.cells #[.int .i16 s0, .slice b103 n0 n0] 43)
  replace KR100 := KR100.alloc (.cells #[.int .i16 s0, .slice b103 n0 n0] 43)
  replace KX104 := KX104.alloc (.cells #[.int .i16 s0, .slice b103 n0 n0] 43)
  have KR106 := kp_new1 w102 #[.int .i16 s0, .slice b103 n0 n0] 43 (g := w102.heap.size) rfl
  go_wp2_with (first | (with_reducible refine load_lframe rfl _ rfl (w.heap.size) rfl _ s0 a0 n0 c0 KR0.here ?_) | (with_reducible refine load_arr rfl _ rfl (w.heap.size + 1) rfl _ D1 KR1.here ?_) | (with_reducible refine load_drum rfl _ rfl g97 rfl _ r0 KR100.here ?_) | (with_reducible refine load_iframe rfl _ rfl (w102.heap.size) rfl _ s0 b103 n0 n0 KR106.here ?_))
  generalize (w102.alloc (.cells #[.int .i16 s0, .slice b103 n0 n0] 43)) = w107 at KB KH0 KH2 KH3 KR0 KR1 KR100 KX104 KR106 ⊢
  refine (toInt64A2S_kp a2 n2 c2 A2 B2 _ (by omega) (KH2.here)).mono ?_
  rintro e w109 ⟨b110, rfl, hb108, KX111⟩
  replace KB := KB.on hb108
  replace KH0 := KH0.on hb108
  replace KH2 := KH2.on hb108
  replace KH3 := KH3.on hb108
  replace KR0 := KR0.on hb108
  replace KR1 := KR1.on hb108
  replace KR100 := KR100.on hb108
  replace KX104 := KX104.on hb108
  replace KR106 := KR106.on hb108
  go_wp2_with (first | (with_reducible refine load_lframe rfl _ rfl (w.heap.size) rfl _ s0 a0 n0 c0 KR0.here ?_) | (with_reducible refine load_arr rfl _ rfl (w.heap.size + 1) rfl _ D1 KR1.here ?_) | (with_reducible refine load_drum rfl _ rfl g97 rfl _ r0 KR100.here ?_) | (with_reducible refine load_iframe rfl _ rfl (w102.heap.size) rfl _ s0 b103 n0 n0 KR106.here ?_))
  refine (toInt64A2S_kp a3 n3 c3 A3 B3 _ (by omega) (KH3.here)).mono ?_
  rintro e w113 ⟨b114, rfl, hb112, KX115⟩
  replace KB := KB.on hb112
  replace KH0 := KH0.on hb112
  replace KH2 := KH2.on hb112
  replace KH3 := KH3.on hb112
  replace KR0 := KR0.on hb112
  replace KR1 := KR1.on hb112
  replace KR100 := KR100.on hb112
  replace KX104 := KX104.on hb112
  replace KR106 := KR106.on hb112
  replace KX111 := KX111.on hb112
  go_wp2_with (first | (with_reducible refine load_lframe rfl _ rfl (w.heap.size) rfl _ s0 a0 n0 c0 KR0.here ?_) | (with_reducible refine load_arr rfl _ rfl (w.heap.size + 1) rfl _ D1 KR1.here ?_) | (with_reducible refine load_drum rfl _ rfl g97 rfl _ r0 KR100.here ?_) | (with_reducible refine load_iframe rfl _ rfl (w102.heap.size) rfl _ s0 b103 n0 n0 KR106.here ?_))
  refine wp_region_S (fun V => Below w113.heap.size w113 V) (by kernel_rfl) (Below.refl _ _).drew ?_
  refine take_val 0 (.agg #[.int .i16 s0, .slice b103 n0 n0]) rfl (by kernel_rfl) (by kernel_rfl) (by kernel_rfl) (fun _ _ _ h => h) rfl (fun V hV => ex_load_iframe _ rfl (w102.heap.size) rfl _ s0 b103 n0 n0 (KR106.at hV)) (Below.refl _ _).drew ?_
  simp only [List.getElem_toArray, List.getElem_cons_zero, List.getElem_cons_succ, Act.put, List.setIfInBounds_toArray, List.set_cons_zero, List.set_cons_succ]
  refine take_val 1 (.agg (dc D1)) rfl (by kernel_rfl) (by kernel_rfl) (by kernel_rfl) (fun _ _ _ h => h) rfl (fun V hV => ex_load_arr _ rfl (w.heap.size + 1) rfl _ D1 (KR1.at hV)) (Below.refl _ _).drew ?_
  simp only [List.getElem_toArray, List.getElem_cons_zero, List.getElem_cons_succ, Act.put, List.setIfInBounds_toArray, List.set_cons_zero, List.set_cons_succ]
  refine take_val 3 (.slice b110 n2 n2) rfl (by kernel_rfl) (by kernel_rfl) (by kernel_rfl) (fun _ _ _ h => h) rfl (fun V _ => by simp [go_sem]) (Below.refl _ _).drew ?_
  simp only [List.getElem_toArray, List.getElem_cons_zero, List.getElem_cons_succ, Act.put, List.setIfInBounds_toArray, List.set_cons_zero, List.set_cons_succ]
  refine take_val 4 (.slice b114 n3 n3) rfl (by kernel_rfl) (by kernel_rfl) (by kernel_rfl) (fun _ _ _ h => h) rfl (fun V _ => by simp [go_sem]) (Below.refl _ _).drew ?_
  simp only [List.getElem_toArray, List.getElem_cons_zero, List.getElem_cons_succ, Act.put, List.setIfInBounds_toArray, List.set_cons_zero, List.set_cons_succ]
  refine' cut_with (A := ∀ (g : Nat) (V : World), Below w113.heap.size w113 V → DrumAt V 45 g r0 → (_ : Nat → World → Prop) g V ) (fun hcont => ?_) ?_
  rotate_left
  · have KQ117 := kp_start w113; have hdKQ117 := below_drew w113
    replace KB := KB.on hdKQ117
    replace KH0 := KH0.on hdKQ117
    replace KH2 := KH2.on hdKQ117
    replace KH3 := KH3.on hdKQ117
    replace KR0 := KR0.on hdKQ117
    replace KR1 := KR1.on hdKQ117
    replace KR100 := KR100.on hdKQ117
    replace KX104 := KX104.on hdKQ117
    replace KR106 := KR106.on hdKQ117
    replace KX111 := KX111.on hdKQ117
    replace KX115 := KX115.on hdKQ117
    clear hdKQ117
    generalize w113.drew = w118 at KB KH0 KH2 KH3 KR0 KR1 KR100 KX104 KR106 KX111 KX115 KQ117 ⊢
    refine step_call_or 2 9 25 #[.agg (dc D1)] (.pointer (some ⟨w118.heap.size, 0, none⟩)) (w118.alloc (.cells (dc fun _ => 0) 45)) (by kernel_rfl) rfl rfl rfl rfl (by simp [go_sem]) (ex_alloc_drum rfl) (KQ117.alloc _).here ?_ ?_
    · refine (toDrum_any D1 _).mono ?_
      rintro e w120 ⟨rfl, hb119⟩
      replace KB := KB.on hb119
      replace KH0 := KH0.on hb119
      replace KH2 := KH2.on hb119
      replace KH3 := KH3.on hb119
      replace KR0 := KR0.on hb119
      replace KR1 := KR1.on hb119
      replace KR100 := KR100.on hb119
      replace KX104 := KX104.on hb119
      replace KR106 := KR106.on hb119
      replace KX111 := KX111.on hb119
      replace KX115 := KX115.on hb119
      replace KQ117 := KQ117.on hb119
      refine ⟨_, rfl, KQ117.here, ?_⟩
      simp only [List.getElem_toArray, List.getElem_cons_zero, List.getElem_cons_succ, Act.put, List.setIfInBounds_toArray, List.set_cons_zero, List.set_cons_succ]
      refine step_call_or 5 9 48 #[.agg #[.int .i16 s0, .slice b103 n0 n0], .agg (dc D1), .slice b110 n2 n2, .slice b114 n3 n3] (.pointer (some ⟨w120.heap.size, 0, none⟩)) (w120.alloc (.cells (dc fun _ => 0) 45)) (by kernel_rfl) rfl rfl rfl rfl (by simp [go_sem]) (ex_alloc_drum rfl) (KQ117.alloc _).here ?_ ?_
      · refine (implApplyMoves_any s0 b103 n0 n0 P0 R0 D1 b110 n2 n2 A2 B2 b114 n3 n3 A3 B3 _ hs0 (by omega) HP0.out HR0.out (KX104.here) HD1.out (by omega) HA2.out HB2.out (KX111.here) (by omega) HA3.out HB3.out (KX115.here)).mono ?_
        rw [← HR_0.out, ← HR_1.out]
        rintro e w122 ⟨rfl, hb121⟩
        replace KB := KB.on hb121
        replace KH0 := KH0.on hb121
        replace KH2 := KH2.on hb121
        replace KH3 := KH3.on hb121
        replace KR0 := KR0.on hb121
        replace KR1 := KR1.on hb121
        replace KR100 := KR100.on hb121
        replace KX104 := KX104.on hb121
        replace KR106 := KR106.on hb121
        replace KX111 := KX111.on hb121
        replace KX115 := KX115.on hb121
        replace KQ117 := KQ117.on hb121
        refine ⟨_, rfl, KQ117.here, ?_⟩
        simp only [List.getElem_toArray, List.getElem_cons_zero, List.getElem_cons_succ, Act.put, List.setIfInBounds_toArray, List.set_cons_zero, List.set_cons_succ]
        refine take_val 6 (.tuple #[.agg (dc r0), .int .i64 r1]) rfl (by kernel_rfl) (by kernel_rfl) (by kernel_rfl) (fun _ _ _ h => h) rfl (fun V _ => by simp [go_sem]) KQ117.here ?_
        simp only [List.getElem_toArray, List.getElem_cons_zero, List.getElem_cons_succ, Act.put, List.setIfInBounds_toArray, List.set_cons_zero, List.set_cons_succ]
        refine take_val 7 (.agg (dc r0)) rfl (by kernel_rfl) (by kernel_rfl) (by kernel_rfl) (fun _ _ _ h => h) rfl (fun V _ => by simp [go_sem]) KQ117.here ?_
        simp only [List.getElem_toArray, List.getElem_cons_zero, List.getElem_cons_succ, Act.put, List.setIfInBounds_toArray, List.set_cons_zero, List.set_cons_succ]
        refine take_val 8 (.int .i64 r1) rfl (by kernel_rfl) (by kernel_rfl) (by kernel_rfl) (fun _ _ _ h => h) rfl (fun V _ => by simp [go_sem]) KQ117.here ?_
        simp only [List.getElem_toArray, List.getElem_cons_zero, List.getElem_cons_succ, Act.put, List.setIfInBounds_toArray, List.set_cons_zero, List.set_cons_succ]
        refine step_val 9 (.pointer (some ⟨w122.heap.size, 0, none⟩)) (w122.alloc (.cells (dc fun _ => 0) 45)) (by kernel_rfl) rfl rfl (ex_alloc_drum rfl) (KQ117.alloc _).here ?_
        simp only [List.getElem_toArray, List.getElem_cons_zero, List.getElem_cons_succ, Act.put, List.setIfInBounds_toArray, List.set_cons_zero, List.set_cons_succ]
        have KZ125h := DrumAt.new w122 45 (fun _ => 0)
        have KZ125l := (KQ117.here).size
        replace KB := KB.alloc (.cells (dc fun _ => 0) 45)
        replace KH0 := KH0.alloc (.cells (dc fun _ => 0) 45)
        replace KH2 := KH2.alloc (.cells (dc fun _ => 0) 45)
        replace KH3 := KH3.alloc (.cells (dc fun _ => 0) 45)
        replace KR0 := KR0.alloc (.cells (dc fun _ => 0) 45)
        replace KR1 := KR1.alloc (.cells (dc fun _ => 0) 45)
        replace KR100 := KR100.alloc (.cells (dc fun _ => 0) 45)
        replace KX104 := KX104.alloc (.cells (dc fun _ => 0) 45)
        replace KR106 := KR106.alloc (.cells (dc fun _ => 0) 45)
        replace KX111 := KX111.alloc (.cells (dc fun _ => 0) 45)
        replace KX115 := KX115.alloc (.cells (dc fun _ => 0) 45)
        replace KQ117 := KQ117.alloc (.cells (dc fun _ => 0) 45)
        obtain ⟨g123, g123w⟩ : ∃ g, w122.heap.size = g := ⟨_, rfl⟩
        rw [g123w] at KZ125h KZ125l ⊢; clear g123w
        generalize w122.alloc (.cells (dc fun _ => 0) 45) = w124 at KZ125h KB KH0 KH2 KH3 KR0 KR1 KR100 KX104 KR106 KX111 KX115 KQ117 ⊢
        have KZ125 := kp_drum KZ125h; clear KZ125h
        have hbV126 := below_setRow KQ117.here KZ125l (dc r0); have hdV126 := DrumAt.setRow KZ125.here r0
        refine step_skip 10 (w124.setRow g123 (dc r0)) (by kernel_rfl) rfl rfl (ex_store_drum _ _ rfl g123 r0 rfl rfl _ _ KZ125.here) hbV126 ?_
        simp only [List.getElem_toArray, List.getElem_cons_zero, List.getElem_cons_succ, Act.put, List.setIfInBounds_toArray, List.set_cons_zero, List.set_cons_succ]
        generalize w124.setRow g123 (dc r0) = V126 at hbV126 hdV126 ⊢
        refine take_val 11 (.int .i64 r1) rfl (by kernel_rfl) (by kernel_rfl) (by kernel_rfl) (fun _ _ _ h => h) rfl (fun V _ => by simp [go_sem]) hbV126 ?_
        simp only [List.getElem_toArray, List.getElem_cons_zero, List.getElem_cons_succ, Act.put, List.setIfInBounds_toArray, List.set_cons_zero, List.set_cons_succ]
        refine wpAnyH_done (by kernel_rfl) ?_ _
        exact hcont g123 V126  hbV126 hdV126
      · simp only [List.getElem_toArray, List.getElem_cons_zero, List.getElem_cons_succ, Act.put, List.setIfInBounds_toArray, List.set_cons_zero, List.set_cons_succ]
        have KZ129h := DrumAt.new w120 45 (fun _ => 0)
        have KZ129l := (KQ117.here).size
        replace KB := KB.alloc (.cells (dc fun _ => 0) 45)
        replace KH0 := KH0.alloc (.cells (dc fun _ => 0) 45)
        replace KH2 := KH2.alloc (.cells (dc fun _ => 0) 45)
        replace KH3 := KH3.alloc (.cells (dc fun _ => 0) 45)
        replace KR0 := KR0.alloc (.cells (dc fun _ => 0) 45)
        replace KR1 := KR1.alloc (.cells (dc fun _ => 0) 45)
        replace KR100 := KR100.alloc (.cells (dc fun _ => 0) 45)
        replace KX104 := KX104.alloc (.cells (dc fun _ => 0) 45)
        replace KR106 := KR106.alloc (.cells (dc fun _ => 0) 45)
        replace KX111 := KX111.alloc (.cells (dc fun _ => 0) 45)
        replace KX115 := KX115.alloc (.cells (dc fun _ => 0) 45)
        replace KQ117 := KQ117.alloc (.cells (dc fun _ => 0) 45)
        obtain ⟨g127, g127w⟩ : ∃ g, w120.heap.size = g := ⟨_, rfl⟩
        rw [g127w] at KZ129h KZ129l ⊢; clear g127w
        generalize w120.alloc (.cells (dc fun _ => 0) 45) = w128 at KZ129h KB KH0 KH2 KH3 KR0 KR1 KR100 KX104 KR106 KX111 KX115 KQ117 ⊢
        have KZ129 := kp_drum KZ129h; clear KZ129h
        refine step_call 5 48 #[.agg #[.int .i16 s0, .slice b103 n0 n0], .agg (dc D1), .slice b110 n2 n2, .slice b114 n3 n3] (by kernel_rfl) rfl rfl (by simp [go_sem]) ?_
        refine (implApplyMoves_any s0 b103 n0 n0 P0 R0 D1 b110 n2 n2 A2 B2 b114 n3 n3 A3 B3 _ hs0 (by omega) HP0.out HR0.out (KX104.here) HD1.out (by omega) HA2.out HB2.out (KX111.here) (by omega) HA3.out HB3.out (KX115.here)).mono ?_
        rw [← HR_0.out, ← HR_1.out]
        rintro e w131 ⟨rfl, hb130⟩
        replace KB := KB.on hb130
        replace KH0 := KH0.on hb130
        replace KH2 := KH2.on hb130
        replace KH3 := KH3.on hb130
        replace KR0 := KR0.on hb130
        replace KR1 := KR1.on hb130
        replace KR100 := KR100.on hb130
        replace KX104 := KX104.on hb130
        replace KR106 := KR106.on hb130
        replace KX111 := KX111.on hb130
        replace KX115 := KX115.on hb130
        replace KQ117 := KQ117.on hb130
        replace KZ129 := KZ129.on hb130
        refine ⟨_, rfl, KQ117.here, ?_⟩
        simp only [List.getElem_toArray, List.getElem_cons_zero, List.getElem_cons_succ, Act.put, List.setIfInBounds_toArray, List.set_cons_zero, List.set_cons_succ]
        refine take_val 6 (.tuple #[.agg (dc r0), .int .i64 r1]) rfl (by kernel_rfl) (by kernel_rfl) (by kernel_rfl) (fun _ _ _ h => h) rfl (fun V _ => by simp [go_sem]) KQ117.here ?_
        simp only [List.getElem_toArray, List.getElem_cons_zero, List.getElem_cons_succ, Act.put, List.setIfInBounds_toArray, List.set_cons_zero, List.set_cons_succ]
        refine take_val 7 (.agg (dc r0)) rfl (by kernel_rfl) (by kernel_rfl) (by kernel_rfl) (fun _ _ _ h => h) rfl (fun V _ => by simp [go_sem]) KQ117.here ?_
        simp only [List.getElem_toArray, List.getElem_cons_zero, List.getElem_cons_succ, Act.put, List.setIfInBounds_toArray, List.set_cons_zero, List.set_cons_succ]
        refine take_val 8 (.int .i64 r1) rfl (by kernel_rfl) (by kernel_rfl) (by kernel_rfl) (fun _ _ _ h => h) rfl (fun V _ => by simp [go_sem]) KQ117.here ?_
        simp only [List.getElem_toArray, List.getElem_cons_zero, List.getElem_cons_succ, Act.put, List.setIfInBounds_toArray, List.set_cons_zero, List.set_cons_succ]
        have hbV132 := below_setRow KQ117.here KZ129l (dc r0); have hdV132 := DrumAt.setRow KZ129.here r0
        refine step_skip 10 (w131.setRow g127 (dc r0)) (by kernel_rfl) rfl rfl (ex_store_drum _ _ rfl g127 r0 rfl rfl _ _ KZ129.here) hbV132 ?_
        simp only [List.getElem_toArray, List.getElem_cons_zero, List.getElem_cons_succ, Act.put, List.setIfInBounds_toArray, List.set_cons_zero, List.set_cons_succ]
        generalize w131.setRow g127 (dc r0) = V132 at hbV132 hdV132 ⊢
        refine take_val 11 (.int .i64 r1) rfl (by kernel_rfl) (by kernel_rfl) (by kernel_rfl) (fun _ _ _ h => h) rfl (fun V _ => by simp [go_sem]) hbV132 ?_
        simp only [List.getElem_toArray, List.getElem_cons_zero, List.getElem_cons_succ, Act.put, List.setIfInBounds_toArray, List.set_cons_zero, List.set_cons_succ]
        refine wpAnyH_done (by kernel_rfl) ?_ _
        exact hcont g127 V132  hbV132 hdV132
    · simp only [List.getElem_toArray, List.getElem_cons_zero, List.getElem_cons_succ, Act.put, List.setIfInBounds_toArray, List.set_cons_zero, List.set_cons_succ]
      have KZ135h := DrumAt.new w118 45 (fun _ => 0)
      have KZ135l := (KQ117.here).size
      replace KB := KB.alloc (.cells (dc fun _ => 0) 45)
      replace KH0 := KH0.alloc (.cells (dc fun _ => 0) 45)
      replace KH2 := KH2.alloc (.cells (dc fun _ => 0) 45)
      replace KH3 := KH3.alloc (.cells (dc fun _ => 0) 45)
      replace KR0 := KR0.alloc (.cells (dc fun _ => 0) 45)
      replace KR1 := KR1.alloc (.cells (dc fun _ => 0) 45)
      replace KR100 := KR100.alloc (.cells (dc fun _ => 0) 45)
      replace KX104 := KX104.alloc (.cells (dc fun _ => 0) 45)
      replace KR106 := KR106.alloc (.cells (dc fun _ => 0) 45)
      replace KX111 := KX111.alloc (.cells (dc fun _ => 0) 45)
      replace KX115 := KX115.alloc (.cells (dc fun _ => 0) 45)
      replace KQ117 := KQ117.alloc (.cells (dc fun _ => 0) 45)
      obtain ⟨g133, g133w⟩ : ∃ g, w118.heap.size = g := ⟨_, rfl⟩
      rw [g133w] at KZ135h KZ135l ⊢; clear g133w
      generalize w118.alloc (.cells (dc fun _ => 0) 45) = w134 at KZ135h KB KH0 KH2 KH3 KR0 KR1 KR100 KX104 KR106 KX111 KX115 KQ117 ⊢
      have KZ135 := kp_drum KZ135h; clear KZ135h
      refine step_call 2 25 #[.agg (dc D1)] (by kernel_rfl) rfl rfl (by simp [go_sem]) ?_
      refine (toDrum_any D1 _).mono ?_
      rintro e w137 ⟨rfl, hb136⟩
      replace KB := KB.on hb136
      replace KH0 := KH0.on hb136
      replace KH2 := KH2.on hb136
      replace KH3 := KH3.on hb136
      replace KR0 := KR0.on hb136
      replace KR1 := KR1.on hb136
      replace KR100 := KR100.on hb136
      replace KX104 := KX104.on hb136
      replace KR106 := KR106.on hb136
      replace KX111 := KX111.on hb136
      replace KX115 := KX115.on hb136
      replace KQ117 := KQ117.on hb136
      replace KZ135 := KZ135.on hb136
      refine ⟨_, rfl, KQ117.here, ?_⟩
      simp only [List.getElem_toArray, List.getElem_cons_zero, List.getElem_cons_succ, Act.put, List.setIfInBounds_toArray, List.set_cons_zero, List.set_cons_succ]
      refine step_call 5 48 #[.agg #[.int .i16 s0, .slice b103 n0 n0], .agg (dc D1), .slice b110 n2 n2, .slice b114 n3 n3] (by kernel_rfl) rfl rfl (by simp [go_sem]) ?_
      refine (implApplyMoves_any s0 b103 n0 n0 P0 R0 D1 b110 n2 n2 A2 B2 b114 n3 n3 A3 B3 _ hs0 (by omega) HP0.out HR0.out (KX104.here) HD1.out (by omega) HA2.out HB2.out (KX111.here) (by omega) HA3.out HB3.out (KX115.here)).mono ?_
      rw [← HR_0.out, ← HR_1.out]
      rintro e w139 ⟨rfl, hb138⟩
      replace KB := KB.on hb138
      replace KH0 := KH0.on hb138
      replace KH2 := KH2.on hb138
      replace KH3 := KH3.on hb138
      replace KR0 := KR0.on hb138
      replace KR1 := KR1.on hb138
      replace KR100 := KR100.on hb138
      replace KX104 := KX104.on hb138
      replace KR106 := KR106.on hb138
      replace KX111 := KX111.on hb138
      replace KX115 := KX115.on hb138
      replace KQ117 := KQ117.on hb138
      replace KZ135 := KZ135.on hb138
      refine ⟨_, rfl, KQ117.here, ?_⟩
      simp only [List.getElem_toArray, List.getElem_cons_zero, List.getElem_cons_succ, Act.put, List.setIfInBounds_toArray, List.set_cons_zero, List.set_cons_succ]
      refine take_val 6 (.tuple #[.agg (dc r0), .int .i64 r1]) rfl (by kernel_rfl) (by kernel_rfl) (by kernel_rfl) (fun _ _ _ h => h) rfl (fun V _ => by simp [go_sem]) KQ117.here ?_
      simp only [List.getElem_toArray, List.getElem_cons_zero, List.getElem_cons_succ, Act.put, List.setIfInBounds_toArray, List.set_cons_zero, List.set_cons_succ]
      refine take_val 7 (.agg (dc r0)) rfl (by kernel_rfl) (by kernel_rfl) (by kernel_rfl) (fun _ _ _ h => h) rfl (fun V _ => by simp [go_sem]) KQ117.here ?_
      simp only [List.getElem_toArray, List.getElem_cons_zero, List.getElem_cons_succ, Act.put, List.setIfInBounds_toArray, List.set_cons_zero, List.set_cons_succ]
      refine take_val 8 (.int .i64 r1) rfl (by kernel_rfl) (by kernel_rfl) (by kernel_rfl) (fun _ _ _ h => h) rfl (fun V _ => by simp [go_sem]) KQ117.here ?_
      simp only [List.getElem_toArray, List.getElem_cons_zero, List.getElem_cons_succ, Act.put, List.setIfInBounds_toArray, List.set_cons_zero, List.set_cons_succ]
      have hbV140 := below_setRow KQ117.here KZ135l (dc r0); have hdV140 := DrumAt.setRow KZ135.here r0
      refine step_skip 10 (w139.setRow g133 (dc r0)) (by kernel_rfl) rfl rfl (ex_store_drum _ _ rfl g133 r0 rfl rfl _ _ KZ135.here) hbV140 ?_
      simp only [List.getElem_toArray, List.getElem_cons_zero, List.getElem_cons_succ, Act.put, List.setIfInBounds_toArray, List.set_cons_zero, List.set_cons_succ]
      generalize w139.setRow g133 (dc r0) = V140 at hbV140 hdV140 ⊢
      refine take_val 11 (.int .i64 r1) rfl (by kernel_rfl) (by kernel_rfl) (by kernel_rfl) (fun _ _ _ h => h) rfl (fun V _ => by simp [go_sem]) hbV140 ?_
      simp only [List.getElem_toArray, List.getElem_cons_zero, List.getElem_cons_succ, Act.put, List.setIfInBounds_toArray, List.set_cons_zero, List.set_cons_succ]
      refine wpAnyH_done (by kernel_rfl) ?_ _
      exact hcont g133 V140  hbV140 hdV140
  intro g141 V142  hb143 hb143d
  replace KB := KB.on hb143
  replace KH0 := KH0.on hb143
  replace KH2 := KH2.on hb143
  replace KH3 := KH3.on hb143
  replace KR0 := KR0.on hb143
  replace KR1 := KR1.on hb143
  replace KR100 := KR100.on hb143
  replace KX104 := KX104.on hb143
  replace KR106 := KR106.on hb143
  replace KX111 := KX111.on hb143
  replace KX115 := KX115.on hb143
  have KR144 := kp_drum hb143d; clear hb143d hb143
  go_wp2_with (first | (with_reducible refine load_lframe rfl _ rfl (w.heap.size) rfl _ s0 a0 n0 c0 KR0.here ?_) | (with_reducible refine load_arr rfl _ rfl (w.heap.size + 1) rfl _ D1 KR1.here ?_) | (with_reducible refine load_drum rfl _ rfl g97 rfl _ r0 KR100.here ?_) | (with_reducible refine load_iframe rfl _ rfl (w102.heap.size) rfl _ s0 b103 n0 n0 KR106.here ?_) | (with_reducible refine load_drum rfl _ rfl g141 rfl _ r0 KR144.here ?_))
  refine (eqDrum_any r0 _).mono ?_
  rintro e w146 ⟨rfl, hb145⟩
  replace KB := KB.on hb145
  replace KH0 := KH0.on hb145
  replace KH2 := KH2.on hb145
  replace KH3 := KH3.on hb145
  replace KR0 := KR0.on hb145
  replace KR1 := KR1.on hb145
  replace KR100 := KR100.on hb145
  replace KX104 := KX104.on hb145
  replace KR106 := KR106.on hb145
  replace KX111 := KX111.on hb145
  replace KX115 := KX115.on hb145
  replace KR144 := KR144.on hb145
  go_wp2_with (first | (with_reducible refine load_lframe rfl _ rfl (w.heap.size) rfl _ s0 a0 n0 c0 KR0.here ?_) | (with_reducible refine load_arr rfl _ rfl (w.heap.size + 1) rfl _ D1 KR1.here ?_) | (with_reducible refine load_drum rfl _ rfl g97 rfl _ r0 KR100.here ?_) | (with_reducible refine load_iframe rfl _ rfl (w102.heap.size) rfl _ s0 b103 n0 n0 KR106.here ?_) | (with_reducible refine load_drum rfl _ rfl g141 rfl _ r0 KR144.here ?_))
  refine wp_region_S (fun V => Below w146.heap.size w146 V) (by kernel_rfl) (Below.refl _ _).drew ?_
  refine take_val 0 (.agg #[.int .i16 s0, .slice b103 n0 n0]) rfl (by kernel_rfl) (by kernel_rfl) (by kernel_rfl) (fun _ _ _ h => h) rfl (fun V hV => ex_load_iframe _ rfl (w102.heap.size) rfl _ s0 b103 n0 n0 (KR106.at hV)) (Below.refl _ _).drew ?_
  simp only [List.getElem_toArray, List.getElem_cons_zero, List.getElem_cons_succ, Act.put, List.setIfInBounds_toArray, List.set_cons_zero, List.set_cons_succ]
  refine take_val 1 (.agg #[.int .i16 s0, .slice a0 n0 c0]) rfl (by kernel_rfl) (by kernel_rfl) (by kernel_rfl) (fun _ _ _ h => h) rfl (fun V hV => ex_load_lframe _ rfl (w.heap.size) rfl _ s0 a0 n0 c0 (KR0.at hV)) (Below.refl _ _).drew ?_
  simp only [List.getElem_toArray, List.getElem_cons_zero, List.getElem_cons_succ, Act.put, List.setIfInBounds_toArray, List.set_cons_zero, List.set_cons_succ]
  have KQ147 := kp_start w146; have hdKQ147 := below_drew w146
  replace KB := KB.on hdKQ147
  replace KH0 := KH0.on hdKQ147
  replace KH2 := KH2.on hdKQ147
  replace KH3 := KH3.on hdKQ147
  replace KR0 := KR0.on hdKQ147
  replace KR1 := KR1.on hdKQ147
  replace KR100 := KR100.on hdKQ147
  replace KX104 := KX104.on hdKQ147
  replace KR106 := KR106.on hdKQ147
  replace KX111 := KX111.on hdKQ147
  replace KX115 := KX115.on hdKQ147
  replace KR144 := KR144.on hdKQ147
  clear hdKQ147
  refine step_call 2 24 #[.agg #[.int .i16 s0, .slice a0 n0 c0]] (by kernel_rfl) rfl rfl (by simp [go_sem]) ?_
  refine (toFrame_kp s0 a0 n0 c0 P0 R0 _ (by omega) hs0 (KH0.here)).mono ?_
  rintro e w149 ⟨b150, rfl, hb148, KX151⟩
  replace KB := KB.on hb148
  replace KH0 := KH0.on hb148
  replace KH2 := KH2.on hb148
  replace KH3 := KH3.on hb148
  replace KR0 := KR0.on hb148
  replace KR1 := KR1.on hb148
  replace KR100 := KR100.on hb148
  replace KX104 := KX104.on hb148
  replace KR106 := KR106.on hb148
  replace KX111 := KX111.on hb148
  replace KX115 := KX115.on hb148
  replace KR144 := KR144.on hb148
  replace KQ147 := KQ147.on hb148
  refine ⟨_, rfl, KQ147.here, ?_⟩
  simp only [List.getElem_toArray, List.getElem_cons_zero, List.getElem_cons_succ, Act.put, List.setIfInBounds_toArray, List.set_cons_zero, List.set_cons_succ]
  refine step_call 3 28 #[.agg #[.int .i16 s0, .slice b103 n0 n0], .agg #[.int .i16 s0, .slice b150 n0 n0]] (by kernel_rfl) rfl rfl (by simp [go_sem]) ?_
  refine (eqFrame_kp s0 _ _ n0 n0 n0 P0 R0 _ (by omega) (KX104.here) (KX151.here)).mono ?_
  rintro e w153 ⟨rfl, hb152⟩
  replace KB := KB.on hb152
  replace KH0 := KH0.on hb152
  replace KH2 := KH2.on hb152
  replace KH3 := KH3.on hb152
  replace KR0 := KR0.on hb152
  replace KR1 := KR1.on hb152
  replace KR100 := KR100.on hb152
  replace KX104 := KX104.on hb152
  replace KR106 := KR106.on hb152
  replace KX111 := KX111.on hb152
  replace KX115 := KX115.on hb152
  replace KR144 := KR144.on hb152
  replace KQ147 := KQ147.on hb152
  replace KX151 := KX151.on hb152
  refine ⟨_, rfl, KQ147.here, ?_⟩
  simp only [List.getElem_toArray, List.getElem_cons_zero, List.getElem_cons_succ, Act.put, List.setIfInBounds_toArray, List.set_cons_zero, List.set_cons_succ]
  refine take_val 4 (.bool false) rfl (by kernel_rfl) (by kernel_rfl) (by kernel_rfl) (fun _ _ _ h => h) rfl (fun V _ => by simp [go_sem]) KQ147.here ?_
  simp only [List.getElem_toArray, List.getElem_cons_zero, List.getElem_cons_succ, Act.put, List.setIfInBounds_toArray, List.set_cons_zero, List.set_cons_succ]
  refine wpAnyH_done (by kernel_rfl) ?_ _
  clear KQ147
  go_wp2_with (first | (with_reducible refine load_lframe rfl _ rfl (w.heap.size) rfl _ s0 a0 n0 c0 KR0.here ?_) | (with_reducible refine load_arr rfl _ rfl (w.heap.size + 1) rfl _ D1 KR1.here ?_) | (with_reducible refine load_drum rfl _ rfl g97 rfl _ r0 KR100.here ?_) | (with_reducible refine load_iframe rfl _ rfl (w102.heap.size) rfl _ s0 b103 n0 n0 KR106.here ?_) | (with_reducible refine load_drum rfl _ rfl g141 rfl _ r0 KR144.here ?_))
  refine (toInt64A2S_kp a2 n2 c2 A2 B2 _ (by omega) (KH2.here)).mono ?_
  rintro e w155 ⟨b156, rfl, hb154, KX157⟩
  replace KB := KB.on hb154
  replace KH0 := KH0.on hb154
  replace KH2 := KH2.on hb154
  replace KH3 := KH3.on hb154
  replace KR0 := KR0.on hb154
  replace KR1 := KR1.on hb154
  replace KR100 := KR100.on hb154
  replace KX104 := KX104.on hb154
  replace KR106 := KR106.on hb154
  replace KX111 := KX111.on hb154
  replace KX115 := KX115.on hb154
  replace KR144 := KR144.on hb154
  replace KX151 := KX151.on hb154
  go_wp2_with (first | (with_reducible refine load_lframe rfl _ rfl (w.heap.size) rfl _ s0 a0 n0 c0 KR0.here ?_) | (with_reducible refine load_arr rfl _ rfl (w.heap.size + 1) rfl _ D1 KR1.here ?_) | (with_reducible refine load_drum rfl _ rfl g97 rfl _ r0 KR100.here ?_) | (with_reducible refine load_iframe rfl _ rfl (w102.heap.size) rfl _ s0 b103 n0 n0 KR106.here ?_) | (with_reducible refine load_drum rfl _ rfl g141 rfl _ r0 KR144.here ?_))
  refine (eqInt64A2S_kq _ _ n2 n2 n2 A2 B2 _ (by omega) (KX111.here) (KX157.here)).mono ?_
  rintro e w159 ⟨rfl, hb158⟩
  replace KB := KB.on hb158
  replace KH0 := KH0.on hb158
  replace KH2 := KH2.on hb158
  replace KH3 := KH3.on hb158
  replace KR0 := KR0.on hb158
  replace KR1 := KR1.on hb158
  replace KR100 := KR100.on hb158
  replace KX104 := KX104.on hb158
  replace KR106 := KR106.on hb158
  replace KX111 := KX111.on hb158
  replace KX115 := KX115.on hb158
  replace KR144 := KR144.on hb158
  replace KX151 := KX151.on hb158
  replace KX157 := KX157.on hb158
  go_wp2_with (first | (with_reducible refine load_lframe rfl _ rfl (w.heap.size) rfl _ s0 a0 n0 c0 KR0.here ?_) | (with_reducible refine load_arr rfl _ rfl (w.heap.size + 1) rfl _ D1 KR1.here ?_) | (with_reducible refine load_drum rfl _ rfl g97 rfl _ r0 KR100.here ?_) | (with_reducible refine load_iframe rfl _ rfl (w102.heap.size) rfl _ s0 b103 n0 n0 KR106.here ?_) | (with_reducible refine load_drum rfl _ rfl g141 rfl _ r0 KR144.here ?_))
  refine (toInt64A2S_kp a3 n3 c3 A3 B3 _ (by omega) (KH3.here)).mono ?_
  rintro e w161 ⟨b162, rfl, hb160, KX163⟩
  replace KB := KB.on hb160
  replace KH0 := KH0.on hb160
  replace KH2 := KH2.on hb160
  replace KH3 := KH3.on hb160
  replace KR0 := KR0.on hb160
  replace KR1 := KR1.on hb160
  replace KR100 := KR100.on hb160
  replace KX104 := KX104.on hb160
  replace KR106 := KR106.on hb160
  replace KX111 := KX111.on hb160
  replace KX115 := KX115.on hb160
  replace KR144 := KR144.on hb160
  replace KX151 := KX151.on hb160
  replace KX157 := KX157.on hb160
  go_wp2_with (first | (with_reducible refine load_lframe rfl _ rfl (w.heap.size) rfl _ s0 a0 n0 c0 KR0.here ?_) | (with_reducible refine load_arr rfl _ rfl (w.heap.size + 1) rfl _ D1 KR1.here ?_) | (with_reducible refine load_drum rfl _ rfl g97 rfl _ r0 KR100.here ?_) | (with_reducible refine load_iframe rfl _ rfl (w102.heap.size) rfl _ s0 b103 n0 n0 KR106.here ?_) | (with_reducible refine load_drum rfl _ rfl g141 rfl _ r0 KR144.here ?_))
  refine (eqInt64A2S_kq _ _ n3 n3 n3 A3 B3 _ (by omega) (KX115.here) (KX163.here)).mono ?_
  rintro e w165 ⟨rfl, hb164⟩
  replace KB := KB.on hb164
  replace KH0 := KH0.on hb164
  replace KH2 := KH2.on hb164
  replace KH3 := KH3.on hb164
  replace KR0 := KR0.on hb164
  replace KR1 := KR1.on hb164
  replace KR100 := KR100.on hb164
  replace KX104 := KX104.on hb164
  replace KR106 := KR106.on hb164
  replace KX111 := KX111.on hb164
  replace KX115 := KX115.on hb164
  replace KR144 := KR144.on hb164
  replace KX151 := KX151.on hb164
  replace KX157 := KX157.on hb164
  replace KX163 := KX163.on hb164
  go_wp2_with fail
  go_ret
  exact ⟨rfl, KB.here⟩
end Go.Proofs.Ytmmneedmhmppoaa
