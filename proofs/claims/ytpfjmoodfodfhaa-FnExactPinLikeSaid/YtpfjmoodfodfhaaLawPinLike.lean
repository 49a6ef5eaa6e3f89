/- The law FnExactPinLike: the walk, printed by lawgen.py. No conditions. -/
import Derived.Test.YtpfjmoodfodfhaaKp
import Derived.Test.YtpfjmoodfodfhaaPw
import Derived.Test.YtpfjmoodfodfhaaNote
import Derived.Test.YtpfjmoodfodfhaaHeld2
import Derived.Outline
namespace Go.Proofs.Ytpfjmoodfodfhaa
open Go.RowKit
set_option linter.unusedVariables false
set_option linter.unusedSimpArgs false

set_option maxRecDepth 100000 in
set_option maxHeartbeats 4000000 in
theorem lawPinLike (s0 : Int) (a0 : Option Addr) (n0 c0 : Nat) (P0 R0 : Nat → Int) (D1 : Nat → Nat) (a2 : Option Addr) (n2 c2 : Nat) (A2 P2 : Nat → Int) (x3 : Int) (w : World) (hn0 : n0 ≤ 9223372036854775807) (hs0 : -32768 ≤ s0 ∧ s0 ≤ 32767) (hP0 : I8 P0) (hR0 : I8 R0) (hh0 : HamIn w a0 n0 P0 R0) (hD1 : D32 D1) (hn2 : n2 ≤ 9223372036854775807) (hA2 : I16 A2) (hP2 : I8 P2) (hh2 : NoteIn w a2 n2 A2 P2) (hx3 : -9223372036854775808 ≤ x3 ∧ x3 ≤ 9223372036854775807) :
    Calls Try.prog 8 #[.agg #[.int .i16 s0, .slice a0 n0 c0], .agg (dc D1), .slice a2 n2 c2, .int .i64 x3] w fun e w' => e = .returned (.bool true) ∧ Below w.heap.size w w' := by
  have HP0 := Lib.hid hP0; clear hP0
  have HR0 := Lib.hid hR0; clear hR0
  have HD1 := Lib.hid hD1; clear hD1
  have HA2 := Lib.hid hA2; clear hA2
  have HP2 := Lib.hid hP2; clear hP2
  have KB := Kp.base w
  have KH0 := kp_hamIn hh0; clear hh0
  have KH2 := kp_noteIn hh2; clear hh2
  replace KB := KB.alloc (.cells #[.int .i16 s0, .slice a0 n0 c0] 40)
  replace KH0 := KH0.alloc (.cells #[.int .i16 s0, .slice a0 n0 c0] 40)
  replace KH2 := KH2.alloc (.cells #[.int .i16 s0, .slice a0 n0 c0] 40)
  have KR0 := kp_new1 w #[.int .i16 s0, .slice a0 n0 c0] 40 (g := w.heap.size) (by simp)
  replace KB := KB.alloc (.cells (dc D1) 70)
  replace KH0 := KH0.alloc (.cells (dc D1) 70)
  replace KH2 := KH2.alloc (.cells (dc D1) 70)
  replace KR0 := KR0.alloc (.cells (dc D1) 70)
  have KR1 := kp_newd (w.alloc (.cells #[.int .i16 s0, .slice a0 n0 c0] 40)) D1 70 (g := w.heap.size + 1) (by simp)
  go_enter Try.func8, Try.ntmps8
  go_wp2_with (first | (with_reducible refine load_lframe rfl _ rfl (w.heap.size) rfl _ s0 a0 n0 c0 KR0.here ?_) | (with_reducible refine load_arr rfl _ rfl (w.heap.size + 1) rfl _ D1 KR1.here ?_))
  generalize ((w.alloc (.cells #[.int .i16 s0, .slice a0 n0 c0] 40)).alloc (.cells (dc D1) 70)) = w1 at KB KH0 KH2 KR0 KR1 ⊢
  refine (szFrame_kp s0 a0 n0 c0 (1048576) _ (by omega) (by omega)).mono ?_
  rintro e w3 ⟨rfl, hb2⟩
  replace KB := KB.on hb2
  replace KH0 := KH0.on hb2
  replace KH2 := KH2.on hb2
  replace KR0 := KR0.on hb2
  replace KR1 := KR1.on hb2
  by_cases hlw3 : (1048576 : Int) < n0
  · rw [szOf_lt hlw3]
    go_wp2_with (first | (with_reducible refine load_lframe rfl _ rfl (w.heap.size) rfl _ s0 a0 n0 c0 KR0.here ?_) | (with_reducible refine load_arr rfl _ rfl (w.heap.size + 1) rfl _ D1 KR1.here ?_))
    go_ret
    exact ⟨rfl, KB.here⟩
  rw [szOf_ge (by omega)]
  go_wp2_with (first | (with_reducible refine load_lframe rfl _ rfl (w.heap.size) rfl _ s0 a0 n0 c0 KR0.here ?_) | (with_reducible refine load_arr rfl _ rfl (w.heap.size + 1) rfl _ D1 KR1.here ?_))
  refine (szTune_kp a2 n2 c2 (1048576 - (n0 : Int)) _ (by omega) (by omega)).mono ?_
  rintro e w5 ⟨rfl, hb4⟩
  replace KB := KB.on hb4
  replace KH0 := KH0.on hb4
  replace KH2 := KH2.on hb4
  replace KR0 := KR0.on hb4
  replace KR1 := KR1.on hb4
  by_cases hlw5 : (1048576 - (n0 : Int) : Int) < n2
  · rw [szOf_lt hlw5]
    go_wp2_with (first | (with_reducible refine load_lframe rfl _ rfl (w.heap.size) rfl _ s0 a0 n0 c0 KR0.here ?_) | (with_reducible refine load_arr rfl _ rfl (w.heap.size + 1) rfl _ D1 KR1.here ?_))
    go_ret
    exact ⟨rfl, KB.here⟩
  rw [szOf_ge (by omega)]
  go_wp2_with (first | (with_reducible refine load_lframe rfl _ rfl (w.heap.size) rfl _ s0 a0 n0 c0 KR0.here ?_) | (with_reducible refine load_arr rfl _ rfl (w.heap.size + 1) rfl _ D1 KR1.here ?_))
  refine wp_region_S (fun V => Below w5.heap.size w5 V) (by kernel_rfl) (Below.refl _ _).drew ?_
  refine take_val 0 (.agg #[.int .i16 s0, .slice a0 n0 c0]) rfl (by kernel_rfl) (by kernel_rfl) (by kernel_rfl) (fun _ _ _ h => h) rfl (fun V hV => ex_load_lframe _ rfl (w.heap.size) rfl _ s0 a0 n0 c0 (KR0.at hV)) (Below.refl _ _).drew ?_
  simp only [List.getElem_toArray, List.getElem_cons_zero, List.getElem_cons_succ, Act.put, List.setIfInBounds_toArray, List.set_cons_zero, List.set_cons_succ]
  refine take_val 2 (.agg (dc D1)) rfl (by kernel_rfl) (by kernel_rfl) (by kernel_rfl) (fun _ _ _ h => h) rfl (fun V hV => ex_load_arr _ rfl (w.heap.size + 1) rfl _ D1 (KR1.at hV)) (Below.refl _ _).drew ?_
  simp only [List.getElem_toArray, List.getElem_cons_zero, List.getElem_cons_succ, Act.put, List.setIfInBounds_toArray, List.set_cons_zero, List.set_cons_succ]
  refine take_val 4 (.slice a2 n2 c2) rfl (by kernel_rfl) (by kernel_rfl) (by kernel_rfl) (fun _ _ _ h => h) rfl (fun V _ => by simp [go_sem]) (Below.refl _ _).drew ?_
  simp only [List.getElem_toArray, List.getElem_cons_zero, List.getElem_cons_succ, Act.put, List.setIfInBounds_toArray, List.set_cons_zero, List.set_cons_succ]
  refine take_val 6 (.int .i64 x3) rfl (by kernel_rfl) (by kernel_rfl) (by kernel_rfl) (fun _ _ _ h => h) rfl (fun V _ => by simp [go_sem]) (Below.refl _ _).drew ?_
  simp only [List.getElem_toArray, List.getElem_cons_zero, List.getElem_cons_succ, Act.put, List.setIfInBounds_toArray, List.set_cons_zero, List.set_cons_succ]
  obtain ⟨r0, hr0⟩ : ∃ r, r = pkD s0 n0 P0 R0 D1 n2 A2 P2 x3 := ⟨_, rfl⟩
  have HR_0 := Lib.hid hr0; clear hr0
  obtain ⟨r1, hr1⟩ : ∃ r, r = pkM s0 n0 P0 R0 D1 n2 A2 P2 x3 := ⟨_, rfl⟩
  have HR_1 := Lib.hid hr1; clear hr1
  obtain ⟨r2, hr2⟩ : ∃ r, r = pkT s0 n0 P0 R0 D1 n2 A2 P2 x3 := ⟨_, rfl⟩
  have HR_2 := Lib.hid hr2; clear hr2
  obtain ⟨r3, hr3⟩ : ∃ r, r = pkC s0 n0 P0 R0 D1 n2 A2 P2 x3 := ⟨_, rfl⟩
  have HR_3 := Lib.hid hr3; clear hr3
  refine' cut_with (A := ∀ (g : Nat) (V : World) (b_0 b_1 : Option Addr), Below w5.heap.size w5 V → DrumAt V 71 g r0 → (_ : Nat → World → Option Addr → Option Addr → Prop) g V b_0 b_1) (fun hcont => ?_) ?_
  rotate_left
  · have KQ7 := kp_start w5; have hdKQ7 := below_drew w5
    replace KB := KB.on hdKQ7
    replace KH0 := KH0.on hdKQ7
    replace KH2 := KH2.on hdKQ7
    replace KR0 := KR0.on hdKQ7
    replace KR1 := KR1.on hdKQ7
    clear hdKQ7
    generalize w5.drew = w8 at KB KH0 KH2 KR0 KR1 KQ7 ⊢
    refine step_call_or 1 13 21 #[.agg #[.int .i16 s0, .slice a0 n0 c0]] (.pointer (some ⟨w8.heap.size, 0, none⟩)) (w8.alloc (.cells (dc fun _ => 0) 71)) (by kernel_rfl) rfl rfl rfl rfl (by simp [go_sem]) (ex_alloc_drum rfl) (KQ7.alloc _).here ?_ ?_
    · refine (toFrame_kp s0 a0 n0 c0 P0 R0 _ (by omega) hs0 (KH0.here)).mono ?_
      rintro e w10 ⟨b11, rfl, hb9, KX12⟩
      replace KB := KB.on hb9
      replace KH0 := KH0.on hb9
      replace KH2 := KH2.on hb9
      replace KR0 := KR0.on hb9
      replace KR1 := KR1.on hb9
      replace KQ7 := KQ7.on hb9
      refine ⟨_, rfl, KQ7.here, ?_⟩
      simp only [List.getElem_toArray, List.getElem_cons_zero, List.getElem_cons_succ, Act.put, List.setIfInBounds_toArray, List.set_cons_zero, List.set_cons_succ]
      refine step_call_or 3 13 49 #[.agg (dc D1)] (.pointer (some ⟨w10.heap.size, 0, none⟩)) (w10.alloc (.cells (dc fun _ => 0) 71)) (by kernel_rfl) rfl rfl rfl rfl (by simp [go_sem]) (ex_alloc_drum rfl) (KQ7.alloc _).here ?_ ?_
      · refine (toDrum_any D1 _).mono ?_
        rintro e w14 ⟨rfl, hb13⟩
        replace KB := KB.on hb13
        replace KH0 := KH0.on hb13
        replace KH2 := KH2.on hb13
        replace KR0 := KR0.on hb13
        replace KR1 := KR1.on hb13
        replace KQ7 := KQ7.on hb13
        replace KX12 := KX12.on hb13
        refine ⟨_, rfl, KQ7.here, ?_⟩
        simp only [List.getElem_toArray, List.getElem_cons_zero, List.getElem_cons_succ, Act.put, List.setIfInBounds_toArray, List.set_cons_zero, List.set_cons_succ]
        refine step_call_or 5 13 11 #[.slice a2 n2 c2] (.pointer (some ⟨w14.heap.size, 0, none⟩)) (w14.alloc (.cells (dc fun _ => 0) 71)) (by kernel_rfl) rfl rfl rfl rfl (by simp [go_sem]) (ex_alloc_drum rfl) (KQ7.alloc _).here ?_ ?_
        · refine (toTune_kp a2 n2 c2 A2 P2 _ (by omega) (KH2.here)).mono ?_
          rintro e w16 ⟨b17, rfl, hb15, KX18⟩
          replace KB := KB.on hb15
          replace KH0 := KH0.on hb15
          replace KH2 := KH2.on hb15
          replace KR0 := KR0.on hb15
          replace KR1 := KR1.on hb15
          replace KQ7 := KQ7.on hb15
          replace KX12 := KX12.on hb15
          refine ⟨_, rfl, KQ7.here, ?_⟩
          simp only [List.getElem_toArray, List.getElem_cons_zero, List.getElem_cons_succ, Act.put, List.setIfInBounds_toArray, List.set_cons_zero, List.set_cons_succ]
          refine step_call_or 7 13 48 #[.agg #[.int .i16 s0, .slice b11 n0 n0], .agg (dc D1), .slice b17 n2 n2, .int .i64 x3] (.pointer (some ⟨w16.heap.size, 0, none⟩)) (w16.alloc (.cells (dc fun _ => 0) 71)) (by kernel_rfl) rfl rfl rfl rfl (by simp [go_sem]) (ex_alloc_drum rfl) (KQ7.alloc _).here ?_ ?_
          · refine (specPinLike_any s0 b11 n0 n0 P0 R0 D1 b17 n2 n2 A2 P2 x3 _ hs0 (by omega) HP0.out HR0.out (KX12.here) HD1.out (by omega) HA2.out HP2.out (KX18.here) hx3).mono ?_
            rw [← HR_0.out, ← HR_1.out, ← HR_2.out, ← HR_3.out]
            rintro e w20 ⟨rfl, hb19⟩
            replace KB := KB.on hb19
            replace KH0 := KH0.on hb19
            replace KH2 := KH2.on hb19
            replace KR0 := KR0.on hb19
            replace KR1 := KR1.on hb19
            replace KQ7 := KQ7.on hb19
            replace KX12 := KX12.on hb19
            replace KX18 := KX18.on hb19
            refine ⟨_, rfl, KQ7.here, ?_⟩
            simp only [List.getElem_toArray, List.getElem_cons_zero, List.getElem_cons_succ, Act.put, List.setIfInBounds_toArray, List.set_cons_zero, List.set_cons_succ]
            refine take_val 8 (.tuple #[.agg (dc r0), .int .i64 r1, .int .i64 r2, .int .i64 r3]) rfl (by kernel_rfl) (by kernel_rfl) (by kernel_rfl) (fun _ _ _ h => h) rfl (fun V _ => by simp [go_sem]) KQ7.here ?_
            simp only [List.getElem_toArray, List.getElem_cons_zero, List.getElem_cons_succ, Act.put, List.setIfInBounds_toArray, List.set_cons_zero, List.set_cons_succ]
            refine take_val 9 (.agg (dc r0)) rfl (by kernel_rfl) (by kernel_rfl) (by kernel_rfl) (fun _ _ _ h => h) rfl (fun V _ => by simp [go_sem]) KQ7.here ?_
            simp only [List.getElem_toArray, List.getElem_cons_zero, List.getElem_cons_succ, Act.put, List.setIfInBounds_toArray, List.set_cons_zero, List.set_cons_succ]
            refine take_val 10 (.int .i64 r1) rfl (by kernel_rfl) (by kernel_rfl) (by kernel_rfl) (fun _ _ _ h => h) rfl (fun V _ => by simp [go_sem]) KQ7.here ?_
            simp only [List.getElem_toArray, List.getElem_cons_zero, List.getElem_cons_succ, Act.put, List.setIfInBounds_toArray, List.set_cons_zero, List.set_cons_succ]
            refine take_val 11 (.int .i64 r2) rfl (by kernel_rfl) (by kernel_rfl) (by kernel_rfl) (fun _ _ _ h => h) rfl (fun V _ => by simp [go_sem]) KQ7.here ?_
            simp only [List.getElem_toArray, List.getElem_cons_zero, List.getElem_cons_succ, Act.put, List.setIfInBounds_toArray, List.set_cons_zero, List.set_cons_succ]
            refine take_val 12 (.int .i64 r3) rfl (by kernel_rfl) (by kernel_rfl) (by kernel_rfl) (fun _ _ _ h => h) rfl (fun V _ => by simp [go_sem]) KQ7.here ?_
            simp only [List.getElem_toArray, List.getElem_cons_zero, List.getElem_cons_succ, Act.put, List.setIfInBounds_toArray, List.set_cons_zero, List.set_cons_succ]
            refine step_val 13 (.pointer (some ⟨w20.heap.size, 0, none⟩)) (w20.alloc (.cells (dc fun _ => 0) 71)) (by kernel_rfl) rfl rfl (ex_alloc_drum rfl) (KQ7.alloc _).here ?_
            simp only [List.getElem_toArray, List.getElem_cons_zero, List.getElem_cons_succ, Act.put, List.setIfInBounds_toArray, List.set_cons_zero, List.set_cons_succ]
            have KZ23h := DrumAt.new w20 71 (fun _ => 0)
            have KZ23l := (KQ7.here).size
            replace KB := KB.alloc (.cells (dc fun _ => 0) 71)
            replace KH0 := KH0.alloc (.cells (dc fun _ => 0) 71)
            replace KH2 := KH2.alloc (.cells (dc fun _ => 0) 71)
            replace KR0 := KR0.alloc (.cells (dc fun _ => 0) 71)
            replace KR1 := KR1.alloc (.cells (dc fun _ => 0) 71)
            replace KQ7 := KQ7.alloc (.cells (dc fun _ => 0) 71)
            replace KX12 := KX12.alloc (.cells (dc fun _ => 0) 71)
            replace KX18 := KX18.alloc (.cells (dc fun _ => 0) 71)
            obtain ⟨g21, g21w⟩ : ∃ g, w20.heap.size = g := ⟨_, rfl⟩
            rw [g21w] at KZ23h KZ23l ⊢; clear g21w
            generalize w20.alloc (.cells (dc fun _ => 0) 71) = w22 at KZ23h KB KH0 KH2 KR0 KR1 KQ7 KX12 KX18 ⊢
            have KZ23 := kp_drum KZ23h; clear KZ23h
            have hbV24 := below_setRow KQ7.here KZ23l (dc r0); have hdV24 := DrumAt.setRow KZ23.here r0
            refine step_skip 14 (w22.setRow g21 (dc r0)) (by kernel_rfl) rfl rfl (ex_store_drum _ _ rfl g21 r0 rfl rfl _ _ KZ23.here) hbV24 ?_
            simp only [List.getElem_toArray, List.getElem_cons_zero, List.getElem_cons_succ, Act.put, List.setIfInBounds_toArray, List.set_cons_zero, List.set_cons_succ]
            generalize w22.setRow g21 (dc r0) = V24 at hbV24 hdV24 ⊢
            refine take_val 15 (.int .i64 r1) rfl (by kernel_rfl) (by kernel_rfl) (by kernel_rfl) (fun _ _ _ h => h) rfl (fun V _ => by simp [go_sem]) hbV24 ?_
            simp only [List.getElem_toArray, List.getElem_cons_zero, List.getElem_cons_succ, Act.put, List.setIfInBounds_toArray, List.set_cons_zero, List.set_cons_succ]
            refine take_val 16 (.int .i64 r2) rfl (by kernel_rfl) (by kernel_rfl) (by kernel_rfl) (fun _ _ _ h => h) rfl (fun V _ => by simp [go_sem]) hbV24 ?_
            simp only [List.getElem_toArray, List.getElem_cons_zero, List.getElem_cons_succ, Act.put, List.setIfInBounds_toArray, List.set_cons_zero, List.set_cons_succ]
            refine take_val 17 (.int .i64 r3) rfl (by kernel_rfl) (by kernel_rfl) (by kernel_rfl) (fun _ _ _ h => h) rfl (fun V _ => by simp [go_sem]) hbV24 ?_
            simp only [List.getElem_toArray, List.getElem_cons_zero, List.getElem_cons_succ, Act.put, List.setIfInBounds_toArray, List.set_cons_zero, List.set_cons_succ]
            refine wpAnyH_done (by kernel_rfl) ?_ _
            exact hcont g21 V24 b11 b17 hbV24 hdV24
          · simp only [List.getElem_toArray, List.getElem_cons_zero, List.getElem_cons_succ, Act.put, List.setIfInBounds_toArray, List.set_cons_zero, List.set_cons_succ]
            have KZ27h := DrumAt.new w16 71 (fun _ => 0)
            have KZ27l := (KQ7.here).size
            replace KB := KB.alloc (.cells (dc fun _ => 0) 71)
            replace KH0 := KH0.alloc (.cells (dc fun _ => 0) 71)
            replace KH2 := KH2.alloc (.cells (dc fun _ => 0) 71)
            replace KR0 := KR0.alloc (.cells (dc fun _ => 0) 71)
            replace KR1 := KR1.alloc (.cells (dc fun _ => 0) 71)
            replace KQ7 := KQ7.alloc (.cells (dc fun _ => 0) 71)
            replace KX12 := KX12.alloc (.cells (dc fun _ => 0) 71)
            replace KX18 := KX18.alloc (.cells (dc fun _ => 0) 71)
            obtain ⟨g25, g25w⟩ : ∃ g, w16.heap.size = g := ⟨_, rfl⟩
            rw [g25w] at KZ27h KZ27l ⊢; clear g25w
            generalize w16.alloc (.cells (dc fun _ => 0) 71) = w26 at KZ27h KB KH0 KH2 KR0 KR1 KQ7 KX12 KX18 ⊢
            have KZ27 := kp_drum KZ27h; clear KZ27h
            refine step_call 7 48 #[.agg #[.int .i16 s0, .slice b11 n0 n0], .agg (dc D1), .slice b17 n2 n2, .int .i64 x3] (by kernel_rfl) rfl rfl (by simp [go_sem]) ?_
            refine (specPinLike_any s0 b11 n0 n0 P0 R0 D1 b17 n2 n2 A2 P2 x3 _ hs0 (by omega) HP0.out HR0.out (KX12.here) HD1.out (by omega) HA2.out HP2.out (KX18.here) hx3).mono ?_
            rw [← HR_0.out, ← HR_1.out, ← HR_2.out, ← HR_3.out]
            rintro e w29 ⟨rfl, hb28⟩
            replace KB := KB.on hb28
            replace KH0 := KH0.on hb28
            replace KH2 := KH2.on hb28
            replace KR0 := KR0.on hb28
            replace KR1 := KR1.on hb28
            replace KQ7 := KQ7.on hb28
            replace KX12 := KX12.on hb28
            replace KX18 := KX18.on hb28
            replace KZ27 := KZ27.on hb28
            refine ⟨_, rfl, KQ7.here, ?_⟩
            simp only [List.getElem_toArray, List.getElem_cons_zero, List.getElem_cons_succ, Act.put, List.setIfInBounds_toArray, List.set_cons_zero, List.set_cons_succ]
            refine take_val 8 (.tuple #[.agg (dc r0), .int .i64 r1, .int .i64 r2, .int .i64 r3]) rfl (by kernel_rfl) (by kernel_rfl) (by kernel_rfl) (fun _ _ _ h => h) rfl (fun V _ => by simp [go_sem]) KQ7.here ?_
            simp only [List.getElem_toArray, List.getElem_cons_zero, List.getElem_cons_succ, Act.put, List.setIfInBounds_toArray, List.set_cons_zero, List.set_cons_succ]
            refine take_val 9 (.agg (dc r0)) rfl (by kernel_rfl) (by kernel_rfl) (by kernel_rfl) (fun _ _ _ h => h) rfl (fun V _ => by simp [go_sem]) KQ7.here ?_
            simp only [List.getElem_toArray, List.getElem_cons_zero, List.getElem_cons_succ, Act.put, List.setIfInBounds_toArray, List.set_cons_zero, List.set_cons_succ]
            refine take_val 10 (.int .i64 r1) rfl (by kernel_rfl) (by kernel_rfl) (by kernel_rfl) (fun _ _ _ h => h) rfl (fun V _ => by simp [go_sem]) KQ7.here ?_
            simp only [List.getElem_toArray, List.getElem_cons_zero, List.getElem_cons_succ, Act.put, List.setIfInBounds_toArray, List.set_cons_zero, List.set_cons_succ]
            refine take_val 11 (.int .i64 r2) rfl (by kernel_rfl) (by kernel_rfl) (by kernel_rfl) (fun _ _ _ h => h) rfl (fun V _ => by simp [go_sem]) KQ7.here ?_
            simp only [List.getElem_toArray, List.getElem_cons_zero, List.getElem_cons_succ, Act.put, List.setIfInBounds_toArray, List.set_cons_zero, List.set_cons_succ]
            refine take_val 12 (.int .i64 r3) rfl (by kernel_rfl) (by kernel_rfl) (by kernel_rfl) (fun _ _ _ h => h) rfl (fun V _ => by simp [go_sem]) KQ7.here ?_
            simp only [List.getElem_toArray, List.getElem_cons_zero, List.getElem_cons_succ, Act.put, List.setIfInBounds_toArray, List.set_cons_zero, List.set_cons_succ]
            have hbV30 := below_setRow KQ7.here KZ27l (dc r0); have hdV30 := DrumAt.setRow KZ27.here r0
            refine step_skip 14 (w29.setRow g25 (dc r0)) (by kernel_rfl) rfl rfl (ex_store_drum _ _ rfl g25 r0 rfl rfl _ _ KZ27.here) hbV30 ?_
            simp only [List.getElem_toArray, List.getElem_cons_zero, List.getElem_cons_succ, Act.put, List.setIfInBounds_toArray, List.set_cons_zero, List.set_cons_succ]
            generalize w29.setRow g25 (dc r0) = V30 at hbV30 hdV30 ⊢
            refine take_val 15 (.int .i64 r1) rfl (by kernel_rfl) (by kernel_rfl) (by kernel_rfl) (fun _ _ _ h => h) rfl (fun V _ => by simp [go_sem]) hbV30 ?_
            simp only [List.getElem_toArray, List.getElem_cons_zero, List.getElem_cons_succ, Act.put, List.setIfInBounds_toArray, List.set_cons_zero, List.set_cons_succ]
            refine take_val 16 (.int .i64 r2) rfl (by kernel_rfl) (by kernel_rfl) (by kernel_rfl) (fun _ _ _ h => h) rfl (fun V _ => by simp [go_sem]) hbV30 ?_
            simp only [List.getElem_toArray, List.getElem_cons_zero, List.getElem_cons_succ, Act.put, List.setIfInBounds_toArray, List.set_cons_zero, List.set_cons_succ]
            refine take_val 17 (.int .i64 r3) rfl (by kernel_rfl) (by kernel_rfl) (by kernel_rfl) (fun _ _ _ h => h) rfl (fun V _ => by simp [go_sem]) hbV30 ?_
            simp only [List.getElem_toArray, List.getElem_cons_zero, List.getElem_cons_succ, Act.put, List.setIfInBounds_toArray, List.set_cons_zero, List.set_cons_succ]
            refine wpAnyH_done (by kernel_rfl) ?_ _
            exact hcont g25 V30 b11 b17 hbV30 hdV30
        · simp only [List.getElem_toArray, List.getElem_cons_zero, List.getElem_cons_succ, Act.put, List.setIfInBounds_toArray, List.set_cons_zero, List.set_cons_succ]
          have KZ33h := DrumAt.new w14 71 (fun _ => 0)
          have KZ33l := (KQ7.here).size
          replace KB := KB.alloc (.cells (dc fun _ => 0) 71)
          replace KH0 := KH0.alloc (.cells (dc fun _ => 0) 71)
          replace KH2 := KH2.alloc (.cells (dc fun _ => 0) 71)
          replace KR0 := KR0.alloc (.cells (dc fun _ => 0) 71)
          replace KR1 := KR1.alloc (.cells (dc fun _ => 0) 71)
          replace KQ7 := KQ7.alloc (.cells (dc fun _ => 0) 71)
          replace KX12 := KX12.alloc (.cells (dc fun _ => 0) 71)
          obtain ⟨g31, g31w⟩ : ∃ g, w14.heap.size = g := ⟨_, rfl⟩
          rw [g31w] at KZ33h KZ33l ⊢; clear g31w
          generalize w14.alloc (.cells (dc fun _ => 0) 71) = w32 at KZ33h KB KH0 KH2 KR0 KR1 KQ7 KX12 ⊢
          have KZ33 := kp_drum KZ33h; clear KZ33h
          refine step_call 5 11 #[.slice a2 n2 c2] (by kernel_rfl) rfl rfl (by simp [go_sem]) ?_
          refine (toTune_kp a2 n2 c2 A2 P2 _ (by omega) (KH2.here)).mono ?_
          rintro e w35 ⟨b36, rfl, hb34, KX37⟩
          replace KB := KB.on hb34
          replace KH0 := KH0.on hb34
          replace KH2 := KH2.on hb34
          replace KR0 := KR0.on hb34
          replace KR1 := KR1.on hb34
          replace KQ7 := KQ7.on hb34
          replace KX12 := KX12.on hb34
          replace KZ33 := KZ33.on hb34
          refine ⟨_, rfl, KQ7.here, ?_⟩
          simp only [List.getElem_toArray, List.getElem_cons_zero, List.getElem_cons_succ, Act.put, List.setIfInBounds_toArray, List.set_cons_zero, List.set_cons_succ]
          refine step_call 7 48 #[.agg #[.int .i16 s0, .slice b11 n0 n0], .agg (dc D1), .slice b36 n2 n2, .int .i64 x3] (by kernel_rfl) rfl rfl (by simp [go_sem]) ?_
          refine (specPinLike_any s0 b11 n0 n0 P0 R0 D1 b36 n2 n2 A2 P2 x3 _ hs0 (by omega) HP0.out HR0.out (KX12.here) HD1.out (by omega) HA2.out HP2.out (KX37.here) hx3).mono ?_
          rw [← HR_0.out, ← HR_1.out, ← HR_2.out, ← HR_3.out]
          rintro e w39 ⟨rfl, hb38⟩
          replace KB := KB.on hb38
          replace KH0 := KH0.on hb38
          replace KH2 := KH2.on hb38
          replace KR0 := KR0.on hb38
          replace KR1 := KR1.on hb38
          replace KQ7 := KQ7.on hb38
          replace KX12 := KX12.on hb38
          replace KZ33 := KZ33.on hb38
          replace KX37 := KX37.on hb38
          refine ⟨_, rfl, KQ7.here, ?_⟩
          simp only [List.getElem_toArray, List.getElem_cons_zero, List.getElem_cons_succ, Act.put, List.setIfInBounds_toArray, List.set_cons_zero, List.set_cons_succ]
          refine take_val 8 (.tuple #[.agg (dc r0), .int .i64 r1, .int .i64 r2, .int .i64 r3]) rfl (by kernel_rfl) (by kernel_rfl) (by kernel_rfl) (fun _ _ _ h => h) rfl (fun V _ => by simp [go_sem]) KQ7.here ?_
          simp only [List.getElem_toArray, List.getElem_cons_zero, List.getElem_cons_succ, Act.put, List.setIfInBounds_toArray, List.set_cons_zero, List.set_cons_succ]
          refine take_val 9 (.agg (dc r0)) rfl (by kernel_rfl) (by kernel_rfl) (by kernel_rfl) (fun _ _ _ h => h) rfl (fun V _ => by simp [go_sem]) KQ7.here ?_
          simp only [List.getElem_toArray, List.getElem_cons_zero, List.getElem_cons_succ, Act.put, List.setIfInBounds_toArray, List.set_cons_zero, List.set_cons_succ]
          refine take_val 10 (.int .i64 r1) rfl (by kernel_rfl) (by kernel_rfl) (by kernel_rfl) (fun _ _ _ h => h) rfl (fun V _ => by simp [go_sem]) KQ7.here ?_
          simp only [List.getElem_toArray, List.getElem_cons_zero, List.getElem_cons_succ, Act.put, List.setIfInBounds_toArray, List.set_cons_zero, List.set_cons_succ]
          refine take_val 11 (.int .i64 r2) rfl (by kernel_rfl) (by kernel_rfl) (by kernel_rfl) (fun _ _ _ h => h) rfl (fun V _ => by simp [go_sem]) KQ7.here ?_
          simp only [List.getElem_toArray, List.getElem_cons_zero, List.getElem_cons_succ, Act.put, List.setIfInBounds_toArray, List.set_cons_zero, List.set_cons_succ]
          refine take_val 12 (.int .i64 r3) rfl (by kernel_rfl) (by kernel_rfl) (by kernel_rfl) (fun _ _ _ h => h) rfl (fun V _ => by simp [go_sem]) KQ7.here ?_
          simp only [List.getElem_toArray, List.getElem_cons_zero, List.getElem_cons_succ, Act.put, List.setIfInBounds_toArray, List.set_cons_zero, List.set_cons_succ]
          have hbV40 := below_setRow KQ7.here KZ33l (dc r0); have hdV40 := DrumAt.setRow KZ33.here r0
          refine step_skip 14 (w39.setRow g31 (dc r0)) (by kernel_rfl) rfl rfl (ex_store_drum _ _ rfl g31 r0 rfl rfl _ _ KZ33.here) hbV40 ?_
          simp only [List.getElem_toArray, List.getElem_cons_zero, List.getElem_cons_succ, Act.put, List.setIfInBounds_toArray, List.set_cons_zero, List.set_cons_succ]
          generalize w39.setRow g31 (dc r0) = V40 at hbV40 hdV40 ⊢
          refine take_val 15 (.int .i64 r1) rfl (by kernel_rfl) (by kernel_rfl) (by kernel_rfl) (fun _ _ _ h => h) rfl (fun V _ => by simp [go_sem]) hbV40 ?_
          simp only [List.getElem_toArray, List.getElem_cons_zero, List.getElem_cons_succ, Act.put, List.setIfInBounds_toArray, List.set_cons_zero, List.set_cons_succ]
          refine take_val 16 (.int .i64 r2) rfl (by kernel_rfl) (by kernel_rfl) (by kernel_rfl) (fun _ _ _ h => h) rfl (fun V _ => by simp [go_sem]) hbV40 ?_
          simp only [List.getElem_toArray, List.getElem_cons_zero, List.getElem_cons_succ, Act.put, List.setIfInBounds_toArray, List.set_cons_zero, List.set_cons_succ]
          refine take_val 17 (.int .i64 r3) rfl (by kernel_rfl) (by kernel_rfl) (by kernel_rfl) (fun _ _ _ h => h) rfl (fun V _ => by simp [go_sem]) hbV40 ?_
          simp only [List.getElem_toArray, List.getElem_cons_zero, List.getElem_cons_succ, Act.put, List.setIfInBounds_toArray, List.set_cons_zero, List.set_cons_succ]
          refine wpAnyH_done (by kernel_rfl) ?_ _
          exact hcont g31 V40 b11 b36 hbV40 hdV40
      · simp only [List.getElem_toArray, List.getElem_cons_zero, List.getElem_cons_succ, Act.put, List.setIfInBounds_toArray, List.set_cons_zero, List.set_cons_succ]
        have KZ43h := DrumAt.new w10 71 (fun _ => 0)
        have KZ43l := (KQ7.here).size
        replace KB := KB.alloc (.cells (dc fun _ => 0) 71)
        replace KH0 := KH0.alloc (.cells (dc fun _ => 0) 71)
        replace KH2 := KH2.alloc (.cells (dc fun _ => 0) 71)
        replace KR0 := KR0.alloc (.cells (dc fun _ => 0) 71)
        replace KR1 := KR1.alloc (.cells (dc fun _ => 0) 71)
        replace KQ7 := KQ7.alloc (.cells (dc fun _ => 0) 71)
        replace KX12 := KX12.alloc (.cells (dc fun _ => 0) 71)
        obtain ⟨g41, g41w⟩ : ∃ g, w10.heap.size = g := ⟨_, rfl⟩
        rw [g41w] at KZ43h KZ43l ⊢; clear g41w
        generalize w10.alloc (.cells (dc fun _ => 0) 71) = w42 at KZ43h KB KH0 KH2 KR0 KR1 KQ7 KX12 ⊢
        have KZ43 := kp_drum KZ43h; clear KZ43h
        refine step_call 3 49 #[.agg (dc D1)] (by kernel_rfl) rfl rfl (by simp [go_sem]) ?_
        refine (toDrum_any D1 _).mono ?_
        rintro e w45 ⟨rfl, hb44⟩
        replace KB := KB.on hb44
        replace KH0 := KH0.on hb44
        replace KH2 := KH2.on hb44
        replace KR0 := KR0.on hb44
        replace KR1 := KR1.on hb44
        replace KQ7 := KQ7.on hb44
        replace KX12 := KX12.on hb44
        replace KZ43 := KZ43.on hb44
        refine ⟨_, rfl, KQ7.here, ?_⟩
        simp only [List.getElem_toArray, List.getElem_cons_zero, List.getElem_cons_succ, Act.put, List.setIfInBounds_toArray, List.set_cons_zero, List.set_cons_succ]
        refine step_call 5 11 #[.slice a2 n2 c2] (by kernel_rfl) rfl rfl (by simp [go_sem]) ?_
        refine (toTune_kp a2 n2 c2 A2 P2 _ (by omega) (KH2.here)).mono ?_
        rintro e w47 ⟨b48, rfl, hb46, KX49⟩
        replace KB := KB.on hb46
        replace KH0 := KH0.on hb46
        replace KH2 := KH2.on hb46
        replace KR0 := KR0.on hb46
        replace KR1 := KR1.on hb46
        replace KQ7 := KQ7.on hb46
        replace KX12 := KX12.on hb46
        replace KZ43 := KZ43.on hb46
        refine ⟨_, rfl, KQ7.here, ?_⟩
        simp only [List.getElem_toArray, List.getElem_cons_zero, List.getElem_cons_succ, Act.put, List.setIfInBounds_toArray, List.set_cons_zero, List.set_cons_succ]
        refine step_call 7 48 #[.agg #[.int .i16 s0, .slice b11 n0 n0], .agg (dc D1), .slice b48 n2 n2, .int .i64 x3] (by kernel_rfl) rfl rfl (by simp [go_sem]) ?_
        refine (specPinLike_any s0 b11 n0 n0 P0 R0 D1 b48 n2 n2 A2 P2 x3 _ hs0 (by omega) HP0.out HR0.out (KX12.here) HD1.out (by omega) HA2.out HP2.out (KX49.here) hx3).mono ?_
        rw [← HR_0.out, ← HR_1.out, ← HR_2.out, ← HR_3.out]
        rintro e w51 ⟨rfl, hb50⟩
        replace KB := KB.on hb50
        replace KH0 := KH0.on hb50
        replace KH2 := KH2.on hb50
        replace KR0 := KR0.on hb50
        replace KR1 := KR1.on hb50
        replace KQ7 := KQ7.on hb50
        replace KX12 := KX12.on hb50
        replace KZ43 := KZ43.on hb50
        replace KX49 := KX49.on hb50
        refine ⟨_, rfl, KQ7.here, ?_⟩
        simp only [List.getElem_toArray, List.getElem_cons_zero, List.getElem_cons_succ, Act.put, List.setIfInBounds_toArray, List.set_cons_zero, List.set_cons_succ]
        refine take_val 8 (.tuple #[.agg (dc r0), .int .i64 r1, .int .i64 r2, .int .i64 r3]) rfl (by kernel_rfl) (by kernel_rfl) (by kernel_rfl) (fun _ _ _ h => h) rfl (fun V _ => by simp [go_sem]) KQ7.here ?_
        simp only [List.getElem_toArray, List.getElem_cons_zero, List.getElem_cons_succ, Act.put, List.setIfInBounds_toArray, List.set_cons_zero, List.set_cons_succ]
        refine take_val 9 (.agg (dc r0)) rfl (by kernel_rfl) (by kernel_rfl) (by kernel_rfl) (fun _ _ _ h => h) rfl (fun V _ => by simp [go_sem]) KQ7.here ?_
        simp only [List.getElem_toArray, List.getElem_cons_zero, List.getElem_cons_succ, Act.put, List.setIfInBounds_toArray, List.set_cons_zero, List.set_cons_succ]
        refine take_val 10 (.int .i64 r1) rfl (by kernel_rfl) (by kernel_rfl) (by kernel_rfl) (fun _ _ _ h => h) rfl (fun V _ => by simp [go_sem]) KQ7.here ?_
        simp only [List.getElem_toArray, List.getElem_cons_zero, List.getElem_cons_succ, Act.put, List.setIfInBounds_toArray, List.set_cons_zero, List.set_cons_succ]
        refine take_val 11 (.int .i64 r2) rfl (by kernel_rfl) (by kernel_rfl) (by kernel_rfl) (fun _ _ _ h => h) rfl (fun V _ => by simp [go_sem]) KQ7.here ?_
        simp only [List.getElem_toArray, List.getElem_cons_zero, List.getElem_cons_succ, Act.put, List.setIfInBounds_toArray, List.set_cons_zero, List.set_cons_succ]
        refine take_val 12 (.int .i64 r3) rfl (by kernel_rfl) (by kernel_rfl) (by kernel_rfl) (fun _ _ _ h => h) rfl (fun V _ => by simp [go_sem]) KQ7.here ?_
        simp only [List.getElem_toArray, List.getElem_cons_zero, List.getElem_cons_succ, Act.put, List.setIfInBounds_toArray, List.set_cons_zero, List.set_cons_succ]
        have hbV52 := below_setRow KQ7.here KZ43l (dc r0); have hdV52 := DrumAt.setRow KZ43.here r0
        refine step_skip 14 (w51.setRow g41 (dc r0)) (by kernel_rfl) rfl rfl (ex_store_drum _ _ rfl g41 r0 rfl rfl _ _ KZ43.here) hbV52 ?_
        simp only [List.getElem_toArray, List.getElem_cons_zero, List.getElem_cons_succ, Act.put, List.setIfInBounds_toArray, List.set_cons_zero, List.set_cons_succ]
        generalize w51.setRow g41 (dc r0) = V52 at hbV52 hdV52 ⊢
        refine take_val 15 (.int .i64 r1) rfl (by kernel_rfl) (by kernel_rfl) (by kernel_rfl) (fun _ _ _ h => h) rfl (fun V _ => by simp [go_sem]) hbV52 ?_
        simp only [List.getElem_toArray, List.getElem_cons_zero, List.getElem_cons_succ, Act.put, List.setIfInBounds_toArray, List.set_cons_zero, List.set_cons_succ]
        refine take_val 16 (.int .i64 r2) rfl (by kernel_rfl) (by kernel_rfl) (by kernel_rfl) (fun _ _ _ h => h) rfl (fun V _ => by simp [go_sem]) hbV52 ?_
        simp only [List.getElem_toArray, List.getElem_cons_zero, List.getElem_cons_succ, Act.put, List.setIfInBounds_toArray, List.set_cons_zero, List.set_cons_succ]
        refine take_val 17 (.int .i64 r3) rfl (by kernel_rfl) (by kernel_rfl) (by kernel_rfl) (fun _ _ _ h => h) rfl (fun V _ => by simp [go_sem]) hbV52 ?_
        simp only [List.getElem_toArray, List.getElem_cons_zero, List.getElem_cons_succ, Act.put, List.setIfInBounds_toArray, List.set_cons_zero, List.set_cons_succ]
        refine wpAnyH_done (by kernel_rfl) ?_ _
        exact hcont g41 V52 b11 b48 hbV52 hdV52
    · simp only [List.getElem_toArray, List.getElem_cons_zero, List.getElem_cons_succ, Act.put, List.setIfInBounds_toArray, List.set_cons_zero, List.set_cons_succ]
      have KZ55h := DrumAt.new w8 71 (fun _ => 0)
      have KZ55l := (KQ7.here).size
      replace KB := KB.alloc (.cells (dc fun _ => 0) 71)
      replace KH0 := KH0.alloc (.cells (dc fun _ => 0) 71)
      replace KH2 := KH2.alloc (.cells (dc fun _ => 0) 71)
      replace KR0 := KR0.alloc (.cells (dc fun _ => 0) 71)
      replace KR1 := KR1.alloc (.cells (dc fun _ => 0) 71)
      replace KQ7 := KQ7.alloc (.cells (dc fun _ => 0) 71)
      obtain ⟨g53, g53w⟩ : ∃ g, w8.heap.size = g := ⟨_, rfl⟩
      rw [g53w] at KZ55h KZ55l ⊢; clear g53w
      generalize w8.alloc (.cells (dc fun _ => 0) 71) = w54 at KZ55h KB KH0 KH2 KR0 KR1 KQ7 ⊢
      have KZ55 := kp_drum KZ55h; clear KZ55h
      refine step_call 1 21 #[.agg #[.int .i16 s0, .slice a0 n0 c0]] (by kernel_rfl) rfl rfl (by simp [go_sem]) ?_
      refine (toFrame_kp s0 a0 n0 c0 P0 R0 _ (by omega) hs0 (KH0.here)).mono ?_
      rintro e w57 ⟨b58, rfl, hb56, KX59⟩
      replace KB := KB.on hb56
      replace KH0 := KH0.on hb56
      replace KH2 := KH2.on hb56
      replace KR0 := KR0.on hb56
      replace KR1 := KR1.on hb56
      replace KQ7 := KQ7.on hb56
      replace KZ55 := KZ55.on hb56
      refine ⟨_, rfl, KQ7.here, ?_⟩
      simp only [List.getElem_toArray, List.getElem_cons_zero, List.getElem_cons_succ, Act.put, List.setIfInBounds_toArray, List.set_cons_zero, List.set_cons_succ]
      refine step_call 3 49 #[.agg (dc D1)] (by kernel_rfl) rfl rfl (by simp [go_sem]) ?_
      refine (toDrum_any D1 _).mono ?_
      rintro e w61 ⟨rfl, hb60⟩
      replace KB := KB.on hb60
      replace KH0 := KH0.on hb60
      replace KH2 := KH2.on hb60
      replace KR0 := KR0.on hb60
      replace KR1 := KR1.on hb60
      replace KQ7 := KQ7.on hb60
      replace KZ55 := KZ55.on hb60
      replace KX59 := KX59.on hb60
      refine ⟨_, rfl, KQ7.here, ?_⟩
      simp only [List.getElem_toArray, List.getElem_cons_zero, List.getElem_cons_succ, Act.put, List.setIfInBounds_toArray, List.set_cons_zero, List.set_cons_succ]
      refine step_call 5 11 #[.slice a2 n2 c2] (by kernel_rfl) rfl rfl (by simp [go_sem]) ?_
      refine (toTune_kp a2 n2 c2 A2 P2 _ (by omega) (KH2.here)).mono ?_
      rintro e w63 ⟨b64, rfl, hb62, KX65⟩
      replace KB := KB.on hb62
      replace KH0 := KH0.on hb62
      replace KH2 := KH2.on hb62
      replace KR0 := KR0.on hb62
      replace KR1 := KR1.on hb62
      replace KQ7 := KQ7.on hb62
      replace KZ55 := KZ55.on hb62
      replace KX59 := KX59.on hb62
      refine ⟨_, rfl, KQ7.here, ?_⟩
      simp only [List.getElem_toArray, List.getElem_cons_zero, List.getElem_cons_succ, Act.put, List.setIfInBounds_toArray, List.set_cons_zero, List.set_cons_succ]
      refine step_call 7 48 #[.agg #[.int .i16 s0, .slice b58 n0 n0], .agg (dc D1), .slice b64 n2 n2, .int .i64 x3] (by kernel_rfl) rfl rfl (by simp [go_sem]) ?_
      refine (specPinLike_any s0 b58 n0 n0 P0 R0 D1 b64 n2 n2 A2 P2 x3 _ hs0 (by omega) HP0.out HR0.out (KX59.here) HD1.out (by omega) HA2.out HP2.out (KX65.here) hx3).mono ?_
      rw [← HR_0.out, ← HR_1.out, ← HR_2.out, ← HR_3.out]
      rintro e w67 ⟨rfl, hb66⟩
      replace KB := KB.on hb66
      replace KH0 := KH0.on hb66
      replace KH2 := KH2.on hb66
      replace KR0 := KR0.on hb66
      replace KR1 := KR1.on hb66
      replace KQ7 := KQ7.on hb66
      replace KZ55 := KZ55.on hb66
      replace KX59 := KX59.on hb66
      replace KX65 := KX65.on hb66
      refine ⟨_, rfl, KQ7.here, ?_⟩
      simp only [List.getElem_toArray, List.getElem_cons_zero, List.getElem_cons_succ, Act.put, List.setIfInBounds_toArray, List.set_cons_zero, List.set_cons_succ]
      refine take_val 8 (.tuple #[.agg (dc r0), .int .i64 r1, .int .i64 r2, .int .i64 r3]) rfl (by kernel_rfl) (by kernel_rfl) (by kernel_rfl) (fun _ _ _ h => h) rfl (fun V _ => by simp [go_sem]) KQ7.here ?_
      simp only [List.getElem_toArray, List.getElem_cons_zero, List.getElem_cons_succ, Act.put, List.setIfInBounds_toArray, List.set_cons_zero, List.set_cons_succ]
      refine take_val 9 (.agg (dc r0)) rfl (by kernel_rfl) (by kernel_rfl) (by kernel_rfl) (fun _ _ _ h => h) rfl (fun V _ => by simp [go_sem]) KQ7.here ?_
      simp only [List.getElem_toArray, List.getElem_cons_zero, List.getElem_cons_succ, Act.put, List.setIfInBounds_toArray, List.set_cons_zero, List.set_cons_succ]
      refine take_val 10 (.int .i64 r1) rfl (by kernel_rfl) (by kernel_rfl) (by kernel_rfl) (fun _ _ _ h => h) rfl (fun V _ => by simp [go_sem]) KQ7.here ?_
      simp only [List.getElem_toArray, List.getElem_cons_zero, List.getElem_cons_succ, Act.put, List.setIfInBounds_toArray, List.set_cons_zero, List.set_cons_succ]
      refine take_val 11 (.int .i64 r2) rfl (by kernel_rfl) (by kernel_rfl) (by kernel_rfl) (fun _ _ _ h => h) rfl (fun V _ => by simp [go_sem]) KQ7.here ?_
      simp only [List.getElem_toArray, List.getElem_cons_zero, List.getElem_cons_succ, Act.put, List.setIfInBounds_toArray, List.set_cons_zero, List.set_cons_succ]
      refine take_val 12 (.int .i64 r3) rfl (by kernel_rfl) (by kernel_rfl) (by kernel_rfl) (fun _ _ _ h => h) rfl (fun V _ => by simp [go_sem]) KQ7.here ?_
      simp only [List.getElem_toArray, List.getElem_cons_zero, List.getElem_cons_succ, Act.put, List.setIfInBounds_toArray, List.set_cons_zero, List.set_cons_succ]
      have hbV68 := below_setRow KQ7.here KZ55l (dc r0); have hdV68 := DrumAt.setRow KZ55.here r0
      refine step_skip 14 (w67.setRow g53 (dc r0)) (by kernel_rfl) rfl rfl (ex_store_drum _ _ rfl g53 r0 rfl rfl _ _ KZ55.here) hbV68 ?_
      simp only [List.getElem_toArray, List.getElem_cons_zero, List.getElem_cons_succ, Act.put, List.setIfInBounds_toArray, List.set_cons_zero, List.set_cons_succ]
      generalize w67.setRow g53 (dc r0) = V68 at hbV68 hdV68 ⊢
      refine take_val 15 (.int .i64 r1) rfl (by kernel_rfl) (by kernel_rfl) (by kernel_rfl) (fun _ _ _ h => h) rfl (fun V _ => by simp [go_sem]) hbV68 ?_
      simp only [List.getElem_toArray, List.getElem_cons_zero, List.getElem_cons_succ, Act.put, List.setIfInBounds_toArray, List.set_cons_zero, List.set_cons_succ]
      refine take_val 16 (.int .i64 r2) rfl (by kernel_rfl) (by kernel_rfl) (by kernel_rfl) (fun _ _ _ h => h) rfl (fun V _ => by simp [go_sem]) hbV68 ?_
      simp only [List.getElem_toArray, List.getElem_cons_zero, List.getElem_cons_succ, Act.put, List.setIfInBounds_toArray, List.set_cons_zero, List.set_cons_succ]
      refine take_val 17 (.int .i64 r3) rfl (by kernel_rfl) (by kernel_rfl) (by kernel_rfl) (fun _ _ _ h => h) rfl (fun V _ => by simp [go_sem]) hbV68 ?_
      simp only [List.getElem_toArray, List.getElem_cons_zero, List.getElem_cons_succ, Act.put, List.setIfInBounds_toArray, List.set_cons_zero, List.set_cons_succ]
      refine wpAnyH_done (by kernel_rfl) ?_ _
      exact hcont g53 V68 b58 b64 hbV68 hdV68
  intro g69 V70 _ _ hb71 hb71d
  replace KB := KB.on hb71
  replace KH0 := KH0.on hb71
  replace KH2 := KH2.on hb71
  replace KR0 := KR0.on hb71
  replace KR1 := KR1.on hb71
  have KR72 := kp_drum hb71d; clear hb71d hb71
  go_wp2_with (first | (with_reducible refine load_lframe rfl _ rfl (w.heap.size) rfl _ s0 a0 n0 c0 KR0.here ?_) | (with_reducible refine load_arr rfl _ rfl (w.heap.size + 1) rfl _ D1 KR1.here ?_) | (with_reducible refine load_drum rfl _ rfl g69 rfl _ r0 KR72.here ?_))
  refine (toFrame_kp s0 a0 n0 c0 P0 R0 _ (by omega) hs0 (KH0.here)).mono ?_
  rintro e w74 ⟨b75, rfl, hb73, KX76⟩
  replace KB := KB.on hb73
  replace KH0 := KH0.on hb73
  replace KH2 := KH2.on hb73
  replace KR0 := KR0.on hb73
  replace KR1 := KR1.on hb73
  replace KR72 := KR72.on hb73
  replace KB := KB.alloc (.cells #[.int .i16 s0, .slice b75 n0 n0] 27)
  replace KH0 := KH0.alloc (.cells #[.int .i16 s0, .slice b75 n0 n0] 27)
  replace KH2 := KH2.alloc (.cells #[.int .i16 s0, .slice b75 n0 n0] 27)
  replace KR0 := KR0.alloc (.cells #[.int .i16 s0, .slice b75 n0 n0] 27)
  replace KR1 := KR1.alloc (.cells #[.int .i16 s0, .slice b75 n0 n0] 27)
  replace KR72 := KR72.alloc (.cells #[.int .i16 s0, .slice b75 n0 n0] 27)
  replace KX76 := KX76.alloc (.cells #[.int .i16 s0, .slice b75 n0 n0] 27)
  have KR78 := kp_new1 w74 #[.int .i16 s0, .slice b75 n0 n0] 27 (g := w74.heap.size) rfl
  go_wp2_with (first | (with_reducible refine load_lframe rfl _ rfl (w.heap.size) rfl _ s0 a0 n0 c0 KR0.here ?_) | (with_reducible refine load_arr rfl _ rfl (w.heap.size + 1) rfl _ D1 KR1.here ?_) | (with_reducible refine load_drum rfl _ rfl g69 rfl _ r0 KR72.here ?_) | (with_reducible refine load_iframe rfl _ rfl (w74.heap.size) rfl _ s0 b75 n0 n0 KR78.here ?_))
  generalize (w74.alloc (.cells #[.int .i16 s0, .slice b75 n0 n0] 27)) = w79 at KB KH0 KH2 KR0 KR1 KR72 KX76 KR78 ⊢
  refine (toTune_kp a2 n2 c2 A2 P2 _ (by omega) (KH2.here)).mono ?_
  rintro e w81 ⟨b82, rfl, hb80, KX83⟩
  replace KB := KB.on hb80
  replace KH0 := KH0.on hb80
  replace KH2 := KH2.on hb80
  replace KR0 := KR0.on hb80
  replace KR1 := KR1.on hb80
  replace KR72 := KR72.on hb80
  replace KX76 := KX76.on hb80
  replace KR78 := KR78.on hb80
  go_wp2_with (first | (with_reducible refine load_lframe rfl _ rfl (w.heap.size) rfl _ s0 a0 n0 c0 KR0.here ?_) | (with_reducible refine load_arr rfl _ rfl (w.heap.size + 1) rfl _ D1 KR1.here ?_) | (with_reducible refine load_drum rfl _ rfl g69 rfl _ r0 KR72.here ?_) | (with_reducible refine load_iframe rfl _ rfl (w74.heap.size) rfl _ s0 b75 n0 n0 KR78.here ?_))
  refine wp_region_S (fun V => Below w81.heap.size w81 V) (by kernel_rfl) (Below.refl _ _).drew ?_
  refine take_val 0 (.agg #[.int .i16 s0, .slice b75 n0 n0]) rfl (by kernel_rfl) (by kernel_rfl) (by kernel_rfl) (fun _ _ _ h => h) rfl (fun V hV => ex_load_iframe _ rfl (w74.heap.size) rfl _ s0 b75 n0 n0 (KR78.at hV)) (Below.refl _ _).drew ?_
  simp only [List.getElem_toArray, List.getElem_cons_zero, List.getElem_cons_succ, Act.put, List.setIfInBounds_toArray, List.set_cons_zero, List.set_cons_succ]
  refine take_val 1 (.agg (dc D1)) rfl (by kernel_rfl) (by kernel_rfl) (by kernel_rfl) (fun _ _ _ h => h) rfl (fun V hV => ex_load_arr _ rfl (w.heap.size + 1) rfl _ D1 (KR1.at hV)) (Below.refl _ _).drew ?_
  simp only [List.getElem_toArray, List.getElem_cons_zero, List.getElem_cons_succ, Act.put, List.setIfInBounds_toArray, List.set_cons_zero, List.set_cons_succ]
  refine take_val 3 (.slice b82 n2 n2) rfl (by kernel_rfl) (by kernel_rfl) (by kernel_rfl) (fun _ _ _ h => h) rfl (fun V _ => by simp [go_sem]) (Below.refl _ _).drew ?_
  simp only [List.getElem_toArray, List.getElem_cons_zero, List.getElem_cons_succ, Act.put, List.setIfInBounds_toArray, List.set_cons_zero, List.set_cons_succ]
  refine take_val 4 (.int .i64 x3) rfl (by kernel_rfl) (by kernel_rfl) (by kernel_rfl) (fun _ _ _ h => h) rfl (fun V _ => by simp [go_sem]) (Below.refl _ _).drew ?_
  simp only [List.getElem_toArray, List.getElem_cons_zero, List.getElem_cons_succ, Act.put, List.setIfInBounds_toArray, List.set_cons_zero, List.set_cons_succ]
  refine' cut_with (A := ∀ (g : Nat) (V : World), Below w81.heap.size w81 V → DrumAt V 71 g r0 → (_ : Nat → World → Prop) g V ) (fun hcont => ?_) ?_
  rotate_left
  · have KQ85 := kp_start w81; have hdKQ85 := below_drew w81
    replace KB := KB.on hdKQ85
    replace KH0 := KH0.on hdKQ85
    replace KH2 := KH2.on hdKQ85
    replace KR0 := KR0.on hdKQ85
    replace KR1 := KR1.on hdKQ85
    replace KR72 := KR72.on hdKQ85
    replace KX76 := KX76.on hdKQ85
    replace KR78 := KR78.on hdKQ85
    replace KX83 := KX83.on hdKQ85
    clear hdKQ85
    generalize w81.drew = w86 at KB KH0 KH2 KR0 KR1 KR72 KX76 KR78 KX83 KQ85 ⊢
    refine step_call_or 2 11 49 #[.agg (dc D1)] (.pointer (some ⟨w86.heap.size, 0, none⟩)) (w86.alloc (.cells (dc fun _ => 0) 71)) (by kernel_rfl) rfl rfl rfl rfl (by simp [go_sem]) (ex_alloc_drum rfl) (KQ85.alloc _).here ?_ ?_
    · refine (toDrum_any D1 _).mono ?_
      rintro e w88 ⟨rfl, hb87⟩
      replace KB := KB.on hb87
      replace KH0 := KH0.on hb87
      replace KH2 := KH2.on hb87
      replace KR0 := KR0.on hb87
      replace KR1 := KR1.on hb87
      replace KR72 := KR72.on hb87
      replace KX76 := KX76.on hb87
      replace KR78 := KR78.on hb87
      replace KX83 := KX83.on hb87
      replace KQ85 := KQ85.on hb87
      refine ⟨_, rfl, KQ85.here, ?_⟩
      simp only [List.getElem_toArray, List.getElem_cons_zero, List.getElem_cons_succ, Act.put, List.setIfInBounds_toArray, List.set_cons_zero, List.set_cons_succ]
      refine step_call_or 5 11 50 #[.agg #[.int .i16 s0, .slice b75 n0 n0], .agg (dc D1), .slice b82 n2 n2, .int .i64 x3] (.pointer (some ⟨w88.heap.size, 0, none⟩)) (w88.alloc (.cells (dc fun _ => 0) 71)) (by kernel_rfl) rfl rfl rfl rfl (by simp [go_sem]) (ex_alloc_drum rfl) (KQ85.alloc _).here ?_ ?_
      · refine (implPinLike_any s0 b75 n0 n0 P0 R0 D1 b82 n2 n2 A2 P2 x3 _ hs0 (by omega) HP0.out HR0.out (KX76.here) HD1.out (by omega) HA2.out HP2.out (KX83.here) hx3).mono ?_
        rw [← HR_0.out, ← HR_1.out, ← HR_2.out, ← HR_3.out]
        rintro e w90 ⟨rfl, hb89⟩
        replace KB := KB.on hb89
        replace KH0 := KH0.on hb89
        replace KH2 := KH2.on hb89
        replace KR0 := KR0.on hb89
        replace KR1 := KR1.on hb89
        replace KR72 := KR72.on hb89
        replace KX76 := KX76.on hb89
        replace KR78 := KR78.on hb89
        replace KX83 := KX83.on hb89
        replace KQ85 := KQ85.on hb89
        refine ⟨_, rfl, KQ85.here, ?_⟩
        simp only [List.getElem_toArray, List.getElem_cons_zero, List.getElem_cons_succ, Act.put, List.setIfInBounds_toArray, List.set_cons_zero, List.set_cons_succ]
        refine take_val 6 (.tuple #[.agg (dc r0), .int .i64 r1, .int .i64 r2, .int .i64 r3]) rfl (by kernel_rfl) (by kernel_rfl) (by kernel_rfl) (fun _ _ _ h => h) rfl (fun V _ => by simp [go_sem]) KQ85.here ?_
        simp only [List.getElem_toArray, List.getElem_cons_zero, List.getElem_cons_succ, Act.put, List.setIfInBounds_toArray, List.set_cons_zero, List.set_cons_succ]
        refine take_val 7 (.agg (dc r0)) rfl (by kernel_rfl) (by kernel_rfl) (by kernel_rfl) (fun _ _ _ h => h) rfl (fun V _ => by simp [go_sem]) KQ85.here ?_
        simp only [List.getElem_toArray, List.getElem_cons_zero, List.getElem_cons_succ, Act.put, List.setIfInBounds_toArray, List.set_cons_zero, List.set_cons_succ]
        refine take_val 8 (.int .i64 r1) rfl (by kernel_rfl) (by kernel_rfl) (by kernel_rfl) (fun _ _ _ h => h) rfl (fun V _ => by simp [go_sem]) KQ85.here ?_
        simp only [List.getElem_toArray, List.getElem_cons_zero, List.getElem_cons_succ, Act.put, List.setIfInBounds_toArray, List.set_cons_zero, List.set_cons_succ]
        refine take_val 9 (.int .i64 r2) rfl (by kernel_rfl) (by kernel_rfl) (by kernel_rfl) (fun _ _ _ h => h) rfl (fun V _ => by simp [go_sem]) KQ85.here ?_
        simp only [List.getElem_toArray, List.getElem_cons_zero, List.getElem_cons_succ, Act.put, List.setIfInBounds_toArray, List.set_cons_zero, List.set_cons_succ]
        refine take_val 10 (.int .i64 r3) rfl (by kernel_rfl) (by kernel_rfl) (by kernel_rfl) (fun _ _ _ h => h) rfl (fun V _ => by simp [go_sem]) KQ85.here ?_
        simp only [List.getElem_toArray, List.getElem_cons_zero, List.getElem_cons_succ, Act.put, List.setIfInBounds_toArray, List.set_cons_zero, List.set_cons_succ]
        refine step_val 11 (.pointer (some ⟨w90.heap.size, 0, none⟩)) (w90.alloc (.cells (dc fun _ => 0) 71)) (by kernel_rfl) rfl rfl (ex_alloc_drum rfl) (KQ85.alloc _).here ?_
        simp only [List.getElem_toArray, List.getElem_cons_zero, List.getElem_cons_succ, Act.put, List.setIfInBounds_toArray, List.set_cons_zero, List.set_cons_succ]
        have KZ93h := DrumAt.new w90 71 (fun _ => 0)
        have KZ93l := (KQ85.here).size
        replace KB := KB.alloc (.cells (dc fun _ => 0) 71)
        replace KH0 := KH0.alloc (.cells (dc fun _ => 0) 71)
        replace KH2 := KH2.alloc (.cells (dc fun _ => 0) 71)
        replace KR0 := KR0.alloc (.cells (dc fun _ => 0) 71)
        replace KR1 := KR1.alloc (.cells (dc fun _ => 0) 71)
        replace KR72 := KR72.alloc (.cells (dc fun _ => 0) 71)
        replace KX76 := KX76.alloc (.cells (dc fun _ => 0) 71)
        replace KR78 := KR78.alloc (.cells (dc fun _ => 0) 71)
        replace KX83 := KX83.alloc (.cells (dc fun _ => 0) 71)
        replace KQ85 := KQ85.alloc (.cells (dc fun _ => 0) 71)
        obtain ⟨g91, g91w⟩ : ∃ g, w90.heap.size = g := ⟨_, rfl⟩
        rw [g91w] at KZ93h KZ93l ⊢; clear g91w
        generalize w90.alloc (.cells (dc fun _ => 0) 71) = w92 at KZ93h KB KH0 KH2 KR0 KR1 KR72 KX76 KR78 KX83 KQ85 ⊢
        have KZ93 := kp_drum KZ93h; clear KZ93h
        have hbV94 := below_setRow KQ85.here KZ93l (dc r0); have hdV94 := DrumAt.setRow KZ93.here r0
        refine step_skip 12 (w92.setRow g91 (dc r0)) (by kernel_rfl) rfl rfl (ex_store_drum _ _ rfl g91 r0 rfl rfl _ _ KZ93.here) hbV94 ?_
        simp only [List.getElem_toArray, List.getElem_cons_zero, List.getElem_cons_succ, Act.put, List.setIfInBounds_toArray, List.set_cons_zero, List.set_cons_succ]
        generalize w92.setRow g91 (dc r0) = V94 at hbV94 hdV94 ⊢
        refine take_val 13 (.int .i64 r1) rfl (by kernel_rfl) (by kernel_rfl) (by kernel_rfl) (fun _ _ _ h => h) rfl (fun V _ => by simp [go_sem]) hbV94 ?_
        simp only [List.getElem_toArray, List.getElem_cons_zero, List.getElem_cons_succ, Act.put, List.setIfInBounds_toArray, List.set_cons_zero, List.set_cons_succ]
        refine take_val 14 (.int .i64 r2) rfl (by kernel_rfl) (by kernel_rfl) (by kernel_rfl) (fun _ _ _ h => h) rfl (fun V _ => by simp [go_sem]) hbV94 ?_
        simp only [List.getElem_toArray, List.getElem_cons_zero, List.getElem_cons_succ, Act.put, List.setIfInBounds_toArray, List.set_cons_zero, List.set_cons_succ]
        refine take_val 15 (.int .i64 r3) rfl (by kernel_rfl) (by kernel_rfl) (by kernel_rfl) (fun _ _ _ h => h) rfl (fun V _ => by simp [go_sem]) hbV94 ?_
        simp only [List.getElem_toArray, List.getElem_cons_zero, List.getElem_cons_succ, Act.put, List.setIfInBounds_toArray, List.set_cons_zero, List.set_cons_succ]
        refine wpAnyH_done (by kernel_rfl) ?_ _
        exact hcont g91 V94  hbV94 hdV94
      · simp only [List.getElem_toArray, List.getElem_cons_zero, List.getElem_cons_succ, Act.put, List.setIfInBounds_toArray, List.set_cons_zero, List.set_cons_succ]
        have KZ97h := DrumAt.new w88 71 (fun _ => 0)
        have KZ97l := (KQ85.here).size
        replace KB := KB.alloc (.cells (dc fun _ => 0) 71)
        replace KH0 := KH0.alloc (.cells (dc fun _ => 0) 71)
        replace KH2 := KH2.alloc (.cells (dc fun _ => 0) 71)
        replace KR0 := KR0.alloc (.cells (dc fun _ => 0) 71)
        replace KR1 := KR1.alloc (.cells (dc fun _ => 0) 71)
        replace KR72 := KR72.alloc (.cells (dc fun _ => 0) 71)
        replace KX76 := KX76.alloc (.cells (dc fun _ => 0) 71)
        replace KR78 := KR78.alloc (.cells (dc fun _ => 0) 71)
        replace KX83 := KX83.alloc (.cells (dc fun _ => 0) 71)
        replace KQ85 := KQ85.alloc (.cells (dc fun _ => 0) 71)
        obtain ⟨g95, g95w⟩ : ∃ g, w88.heap.size = g := ⟨_, rfl⟩
        rw [g95w] at KZ97h KZ97l ⊢; clear g95w
        generalize w88.alloc (.cells (dc fun _ => 0) 71) = w96 at KZ97h KB KH0 KH2 KR0 KR1 KR72 KX76 KR78 KX83 KQ85 ⊢
        have KZ97 := kp_drum KZ97h; clear KZ97h
        refine step_call 5 50 #[.agg #[.int .i16 s0, .slice b75 n0 n0], .agg (dc D1), .slice b82 n2 n2, .int .i64 x3] (by kernel_rfl) rfl rfl (by simp [go_sem]) ?_
        refine (implPinLike_any s0 b75 n0 n0 P0 R0 D1 b82 n2 n2 A2 P2 x3 _ hs0 (by omega) HP0.out HR0.out (KX76.here) HD1.out (by omega) HA2.out HP2.out (KX83.here) hx3).mono ?_
        rw [← HR_0.out, ← HR_1.out, ← HR_2.out, ← HR_3.out]
        rintro e w99 ⟨rfl, hb98⟩
        replace KB := KB.on hb98
        replace KH0 := KH0.on hb98
        replace KH2 := KH2.on hb98
        replace KR0 := KR0.on hb98
        replace KR1 := KR1.on hb98
        replace KR72 := KR72.on hb98
        replace KX76 := KX76.on hb98
        replace KR78 := KR78.on hb98
        replace KX83 := KX83.on hb98
        replace KQ85 := KQ85.on hb98
        replace KZ97 := KZ97.on hb98
        refine ⟨_, rfl, KQ85.here, ?_⟩
        simp only [List.getElem_toArray, List.getElem_cons_zero, List.getElem_cons_succ, Act.put, List.setIfInBounds_toArray, List.set_cons_zero, List.set_cons_succ]
        refine take_val 6 (.tuple #[.agg (dc r0), .int .i64 r1, .int .i64 r2, .int .i64 r3]) rfl (by kernel_rfl) (by kernel_rfl) (by kernel_rfl) (fun _ _ _ h => h) rfl (fun V _ => by simp [go_sem]) KQ85.here ?_
        simp only [List.getElem_toArray, List.getElem_cons_zero, List.getElem_cons_succ, Act.put, List.setIfInBounds_toArray, List.set_cons_zero, List.set_cons_succ]
        refine take_val 7 (.agg (dc r0)) rfl (by kernel_rfl) (by kernel_rfl) (by kernel_rfl) (fun _ _ _ h => h) rfl (fun V _ => by simp [go_sem]) KQ85.here ?_
        simp only [List.getElem_toArray, List.getElem_cons_zero, List.getElem_cons_succ, Act.put, List.setIfInBounds_toArray, List.set_cons_zero, List.set_cons_succ]
        refine take_val 8 (.int .i64 r1) rfl (by kernel_rfl) (by kernel_rfl) (by kernel_rfl) (fun _ _ _ h => h) rfl (fun V _ => by simp [go_sem]) KQ85.here ?_
        simp only [List.getElem_toArray, List.getElem_cons_zero, List.getElem_cons_succ, Act.put, List.setIfInBounds_toArray, List.set_cons_zero, List.set_cons_succ]
        refine take_val 9 (.int .i64 r2) rfl (by kernel_rfl) (by kernel_rfl) (by kernel_rfl) (fun _ _ _ h => h) rfl (fun V _ => by simp [go_sem]) KQ85.here ?_
        simp only [List.getElem_toArray, List.getElem_cons_zero, List.getElem_cons_succ, Act.put, List.setIfInBounds_toArray, List.set_cons_zero, List.set_cons_succ]
        refine take_val 10 (.int .i64 r3) rfl (by kernel_rfl) (by kernel_rfl) (by kernel_rfl) (fun _ _ _ h => h) rfl (fun V _ => by simp [go_sem]) KQ85.here ?_
        simp only [List.getElem_toArray, List.getElem_cons_zero, List.getElem_cons_succ, Act.put, List.setIfInBounds_toArray, List.set_cons_zero, List.set_cons_succ]
        have hbV100 := below_setRow KQ85.here KZ97l (dc r0); have hdV100 := DrumAt.setRow KZ97.here r0
        refine step_skip 12 (w99.setRow g95 (dc r0)) (by kernel_rfl) rfl rfl (ex_store_drum _ _ rfl g95 r0 rfl rfl _ _ KZ97.here) hbV100 ?_
        simp only [List.getElem_toArray, List.getElem_cons_zero, List.getElem_cons_succ, Act.put, List.setIfInBounds_toArray, List.set_cons_zero, List.set_cons_succ]
        generalize w99.setRow g95 (dc r0) = V100 at hbV100 hdV100 ⊢
        refine take_val 13 (.int .i64 r1) rfl (by kernel_rfl) (by kernel_rfl) (by kernel_rfl) (fun _ _ _ h => h) rfl (fun V _ => by simp [go_sem]) hbV100 ?_
        simp only [List.getElem_toArray, List.getElem_cons_zero, List.getElem_cons_succ, Act.put, List.setIfInBounds_toArray, List.set_cons_zero, List.set_cons_succ]
        refine take_val 14 (.int .i64 r2) rfl (by kernel_rfl) (by kernel_rfl) (by kernel_rfl) (fun _ _ _ h => h) rfl (fun V _ => by simp [go_sem]) hbV100 ?_
        simp only [List.getElem_toArray, List.getElem_cons_zero, List.getElem_cons_succ, Act.put, List.setIfInBounds_toArray, List.set_cons_zero, List.set_cons_succ]
        refine take_val 15 (.int .i64 r3) rfl (by kernel_rfl) (by kernel_rfl) (by kernel_rfl) (fun _ _ _ h => h) rfl (fun V _ => by simp [go_sem]) hbV100 ?_
        simp only [List.getElem_toArray, List.getElem_cons_zero, List.getElem_cons_succ, Act.put, List.setIfInBounds_toArray, List.set_cons_zero, List.set_cons_succ]
        refine wpAnyH_done (by kernel_rfl) ?_ _
        exact hcont g95 V100  hbV100 hdV100
    · simp only [List.getElem_toArray, List.getElem_cons_zero, List.getElem_cons_succ, Act.put, List.setIfInBounds_toArray, List.set_cons_zero, List.set_cons_succ]
      have KZ103h := DrumAt.new w86 71 (fun _ => 0)
      have KZ103l := (KQ85.here).size
      replace KB := KB.alloc (.cells (dc fun _ => 0) 71)
      replace KH0 := KH0.alloc (.cells (dc fun _ => 0) 71)
      replace KH2 := KH2.alloc (.cells (dc fun _ => 0) 71)
      replace KR0 := KR0.alloc (.cells (dc fun _ => 0) 71)
      replace KR1 := KR1.alloc (.cells (dc fun _ => 0) 71)
      replace KR72 := KR72.alloc (.cells (dc fun _ => 0) 71)
      replace KX76 := KX76.alloc (.cells (dc fun _ => 0) 71)
      replace KR78 := KR78.alloc (.cells (dc fun _ => 0) 71)
      replace KX83 := KX83.alloc (.cells (dc fun _ => 0) 71)
      replace KQ85 := KQ85.alloc (.cells (dc fun _ => 0) 71)
      obtain ⟨g101, g101w⟩ : ∃ g, w86.heap.size = g := ⟨_, rfl⟩
      rw [g101w] at KZ103h KZ103l ⊢; clear g101w
      generalize w86.alloc (.cells (dc fun _ => 0) 71) = w102 at KZ103h KB KH0 KH2 KR0 KR1 KR72 KX76 KR78 KX83 KQ85 ⊢
      have KZ103 := kp_drum KZ103h; clear KZ103h
      refine step_call 2 49 #[.agg (dc D1)] (by kernel_rfl) rfl rfl (by simp [go_sem]) ?_
      refine (toDrum_any D1 _).mono ?_
      rintro e w105 ⟨rfl, hb104⟩
      replace KB := KB.on hb104
      replace KH0 := KH0.on hb104
      replace KH2 := KH2.on hb104
      replace KR0 := KR0.on hb104
      replace KR1 := KR1.on hb104
      replace KR72 := KR72.on hb104
      replace KX76 := KX76.on hb104
      replace KR78 := KR78.on hb104
      replace KX83 := KX83.on hb104
      replace KQ85 := KQ85.on hb104
      replace KZ103 := KZ103.on hb104
      refine ⟨_, rfl, KQ85.here, ?_⟩
      simp only [List.getElem_toArray, List.getElem_cons_zero, List.getElem_cons_succ, Act.put, List.setIfInBounds_toArray, List.set_cons_zero, List.set_cons_succ]
      refine step_call 5 50 #[.agg #[.int .i16 s0, .slice b75 n0 n0], .agg (dc D1), .slice b82 n2 n2, .int .i64 x3] (by kernel_rfl) rfl rfl (by simp [go_sem]) ?_
      refine (implPinLike_any s0 b75 n0 n0 P0 R0 D1 b82 n2 n2 A2 P2 x3 _ hs0 (by omega) HP0.out HR0.out (KX76.here) HD1.out (by omega) HA2.out HP2.out (KX83.here) hx3).mono ?_
      rw [← HR_0.out, ← HR_1.out, ← HR_2.out, ← HR_3.out]
      rintro e w107 ⟨rfl, hb106⟩
      replace KB := KB.on hb106
      replace KH0 := KH0.on hb106
      replace KH2 := KH2.on hb106
      replace KR0 := KR0.on hb106
      replace KR1 := KR1.on hb106
      replace KR72 := KR72.on hb106
      replace KX76 := KX76.on hb106
      replace KR78 := KR78.on hb106
      replace KX83 := KX83.on hb106
      replace KQ85 := KQ85.on hb106
      replace KZ103 := KZ103.on hb106
      refine ⟨_, rfl, KQ85.here, ?_⟩
      simp only [List.getElem_toArray, List.getElem_cons_zero, List.getElem_cons_succ, Act.put, List.setIfInBounds_toArray, List.set_cons_zero, List.set_cons_succ]
      refine take_val 6 (.tuple #[.agg (dc r0), .int .i64 r1, .int .i64 r2, .int .i64 r3]) rfl (by kernel_rfl) (by kernel_rfl) (by kernel_rfl) (fun _ _ _ h => h) rfl (fun V _ => by simp [go_sem]) KQ85.here ?_
      simp only [List.getElem_toArray, List.getElem_cons_zero, List.getElem_cons_succ, Act.put, List.setIfInBounds_toArray, List.set_cons_zero, List.set_cons_succ]
      refine take_val 7 (.agg (dc r0)) rfl (by kernel_rfl) (by kernel_rfl) (by kernel_rfl) (fun _ _ _ h => h) rfl (fun V _ => by simp [go_sem]) KQ85.here ?_
      simp only [List.getElem_toArray, List.getElem_cons_zero, List.getElem_cons_succ, Act.put, List.setIfInBounds_toArray, List.set_cons_zero, List.set_cons_succ]
      refine take_val 8 (.int .i64 r1) rfl (by kernel_rfl) (by kernel_rfl) (by kernel_rfl) (fun _ _ _ h => h) rfl (fun V _ => by simp [go_sem]) KQ85.here ?_
      simp only [List.getElem_toArray, List.getElem_cons_zero, List.getElem_cons_succ, Act.put, List.setIfInBounds_toArray, List.set_cons_zero, List.set_cons_succ]
      refine take_val 9 (.int .i64 r2) rfl (by kernel_rfl) (by kernel_rfl) (by kernel_rfl) (fun _ _ _ h => h) rfl (fun V _ => by simp [go_sem]) KQ85.here ?_
      simp only [List.getElem_toArray, List.getElem_cons_zero, List.getElem_cons_succ, Act.put, List.setIfInBounds_toArray, List.set_cons_zero, List.set_cons_succ]
      refine take_val 10 (.int .i64 r3) rfl (by kernel_rfl) (by kernel_rfl) (by kernel_rfl) (fun _ _ _ h => h) rfl (fun V _ => by simp [go_sem]) KQ85.here ?_
      simp only [List.getElem_toArray, List.getElem_cons_zero, List.getElem_cons_succ, Act.put, List.setIfInBounds_toArray, List.set_cons_zero, List.set_cons_succ]
      have hbV108 := below_setRow KQ85.here KZ103l (dc r0); have hdV108 := DrumAt.setRow KZ103.here r0
      refine step_skip 12 (w107.setRow g101 (dc r0)) (by kernel_rfl) rfl rfl (ex_store_drum _ _ rfl g101 r0 rfl rfl _ _ KZ103.here) hbV108 ?_
      simp only [List.getElem_toArray, List.getElem_cons_zero, List.getElem_cons_succ, Act.put, List.setIfInBounds_toArray, List.set_cons_zero, List.set_cons_succ]
      generalize w107.setRow g101 (dc r0) = V108 at hbV108 hdV108 ⊢
      refine take_val 13 (.int .i64 r1) rfl (by kernel_rfl) (by kernel_rfl) (by kernel_rfl) (fun _ _ _ h => h) rfl (fun V _ => by simp [go_sem]) hbV108 ?_
      simp only [List.getElem_toArray, List.getElem_cons_zero, List.getElem_cons_succ, Act.put, List.setIfInBounds_toArray, List.set_cons_zero, List.set_cons_succ]
      refine take_val 14 (.int .i64 r2) rfl (by kernel_rfl) (by kernel_rfl) (by kernel_rfl) (fun _ _ _ h => h) rfl (fun V _ => by simp [go_sem]) hbV108 ?_
      simp only [List.getElem_toArray, List.getElem_cons_zero, List.getElem_cons_succ, Act.put, List.setIfInBounds_toArray, List.set_cons_zero, List.set_cons_succ]
      refine take_val 15 (.int .i64 r3) rfl (by kernel_rfl) (by kernel_rfl) (by kernel_rfl) (fun _ _ _ h => h) rfl (fun V _ => by simp [go_sem]) hbV108 ?_
      simp only [List.getElem_toArray, List.getElem_cons_zero, List.getElem_cons_succ, Act.put, List.setIfInBounds_toArray, List.set_cons_zero, List.set_cons_succ]
      refine wpAnyH_done (by kernel_rfl) ?_ _
      exact hcont g101 V108  hbV108 hdV108
  intro g109 V110  hb111 hb111d
  replace KB := KB.on hb111
  replace KH0 := KH0.on hb111
  replace KH2 := KH2.on hb111
  replace KR0 := KR0.on hb111
  replace KR1 := KR1.on hb111
  replace KR72 := KR72.on hb111
  replace KX76 := KX76.on hb111
  replace KR78 := KR78.on hb111
  replace KX83 := KX83.on hb111
  have KR112 := kp_drum hb111d; clear hb111d hb111
  go_wp2_with (first | (with_reducible refine load_lframe rfl _ rfl (w.heap.size) rfl _ s0 a0 n0 c0 KR0.here ?_) | (with_reducible refine load_arr rfl _ rfl (w.heap.size + 1) rfl _ D1 KR1.here ?_) | (with_reducible refine load_drum rfl _ rfl g69 rfl _ r0 KR72.here ?_) | (with_reducible refine load_iframe rfl _ rfl (w74.heap.size) rfl _ s0 b75 n0 n0 KR78.here ?_) | (with_reducible refine load_drum rfl _ rfl g109 rfl _ r0 KR112.here ?_))
  refine (eqDrum_any r0 _).mono ?_
  rintro e w114 ⟨rfl, hb113⟩
  replace KB := KB.on hb113
  replace KH0 := KH0.on hb113
  replace KH2 := KH2.on hb113
  replace KR0 := KR0.on hb113
  replace KR1 := KR1.on hb113
  replace KR72 := KR72.on hb113
  replace KX76 := KX76.on hb113
  replace KR78 := KR78.on hb113
  replace KX83 := KX83.on hb113
  replace KR112 := KR112.on hb113
  go_wp2_with (first | (with_reducible refine load_lframe rfl _ rfl (w.heap.size) rfl _ s0 a0 n0 c0 KR0.here ?_) | (with_reducible refine load_arr rfl _ rfl (w.heap.size + 1) rfl _ D1 KR1.here ?_) | (with_reducible refine load_drum rfl _ rfl g69 rfl _ r0 KR72.here ?_) | (with_reducible refine load_iframe rfl _ rfl (w74.heap.size) rfl _ s0 b75 n0 n0 KR78.here ?_) | (with_reducible refine load_drum rfl _ rfl g109 rfl _ r0 KR112.here ?_))
  refine wp_region_S (fun V => Below w114.heap.size w114 V) (by kernel_rfl) (Below.refl _ _).drew ?_
  refine take_val 0 (.agg #[.int .i16 s0, .slice b75 n0 n0]) rfl (by kernel_rfl) (by kernel_rfl) (by kernel_rfl) (fun _ _ _ h => h) rfl (fun V hV => ex_load_iframe _ rfl (w74.heap.size) rfl _ s0 b75 n0 n0 (KR78.at hV)) (Below.refl _ _).drew ?_
  simp only [List.getElem_toArray, List.getElem_cons_zero, List.getElem_cons_succ, Act.put, List.setIfInBounds_toArray, List.set_cons_zero, List.set_cons_succ]
  refine take_val 1 (.agg #[.int .i16 s0, .slice a0 n0 c0]) rfl (by kernel_rfl) (by kernel_rfl) (by kernel_rfl) (fun _ _ _ h => h) rfl (fun V hV => ex_load_lframe _ rfl (w.heap.size) rfl _ s0 a0 n0 c0 (KR0.at hV)) (Below.refl _ _).drew ?_
  simp only [List.getElem_toArray, List.getElem_cons_zero, List.getElem_cons_succ, Act.put, List.setIfInBounds_toArray, List.set_cons_zero, List.set_cons_succ]
  have KQ115 := kp_start w114; have hdKQ115 := below_drew w114
  replace KB := KB.on hdKQ115
  replace KH0 := KH0.on hdKQ115
  replace KH2 := KH2.on hdKQ115
  replace KR0 := KR0.on hdKQ115
  replace KR1 := KR1.on hdKQ115
  replace KR72 := KR72.on hdKQ115
  replace KX76 := KX76.on hdKQ115
  replace KR78 := KR78.on hdKQ115
  replace KX83 := KX83.on hdKQ115
  replace KR112 := KR112.on hdKQ115
  clear hdKQ115
  refine step_call 2 21 #[.agg #[.int .i16 s0, .slice a0 n0 c0]] (by kernel_rfl) rfl rfl (by simp [go_sem]) ?_
  refine (toFrame_kp s0 a0 n0 c0 P0 R0 _ (by omega) hs0 (KH0.here)).mono ?_
  rintro e w117 ⟨b118, rfl, hb116, KX119⟩
  replace KB := KB.on hb116
  replace KH0 := KH0.on hb116
  replace KH2 := KH2.on hb116
  replace KR0 := KR0.on hb116
  replace KR1 := KR1.on hb116
  replace KR72 := KR72.on hb116
  replace KX76 := KX76.on hb116
  replace KR78 := KR78.on hb116
  replace KX83 := KX83.on hb116
  replace KR112 := KR112.on hb116
  replace KQ115 := KQ115.on hb116
  refine ⟨_, rfl, KQ115.here, ?_⟩
  simp only [List.getElem_toArray, List.getElem_cons_zero, List.getElem_cons_succ, Act.put, List.setIfInBounds_toArray, List.set_cons_zero, List.set_cons_succ]
  refine step_call 3 13 #[.agg #[.int .i16 s0, .slice b75 n0 n0], .agg #[.int .i16 s0, .slice b118 n0 n0]] (by kernel_rfl) rfl rfl (by simp [go_sem]) ?_
  refine (eqFrame_kp s0 _ _ n0 n0 n0 P0 R0 _ (by omega) (KX76.here) (KX119.here)).mono ?_
  rintro e w121 ⟨rfl, hb120⟩
  replace KB := KB.on hb120
  replace KH0 := KH0.on hb120
  replace KH2 := KH2.on hb120
  replace KR0 := KR0.on hb120
  replace KR1 := KR1.on hb120
  replace KR72 := KR72.on hb120
  replace KX76 := KX76.on hb120
  replace KR78 := KR78.on hb120
  replace KX83 := KX83.on hb120
  replace KR112 := KR112.on hb120
  replace KQ115 := KQ115.on hb120
  replace KX119 := KX119.on hb120
  refine ⟨_, rfl, KQ115.here, ?_⟩
  simp only [List.getElem_toArray, List.getElem_cons_zero, List.getElem_cons_succ, Act.put, List.setIfInBounds_toArray, List.set_cons_zero, List.set_cons_succ]
  refine take_val 4 (.bool false) rfl (by kernel_rfl) (by kernel_rfl) (by kernel_rfl) (fun _ _ _ h => h) rfl (fun V _ => by simp [go_sem]) KQ115.here ?_
  simp only [List.getElem_toArray, List.getElem_cons_zero, List.getElem_cons_succ, Act.put, List.setIfInBounds_toArray, List.set_cons_zero, List.set_cons_succ]
  refine wpAnyH_done (by kernel_rfl) ?_ _
  clear KQ115
  go_wp2_with (first | (with_reducible refine load_lframe rfl _ rfl (w.heap.size) rfl _ s0 a0 n0 c0 KR0.here ?_) | (with_reducible refine load_arr rfl _ rfl (w.heap.size + 1) rfl _ D1 KR1.here ?_) | (with_reducible refine load_drum rfl _ rfl g69 rfl _ r0 KR72.here ?_) | (with_reducible refine load_iframe rfl _ rfl (w74.heap.size) rfl _ s0 b75 n0 n0 KR78.here ?_) | (with_reducible refine load_drum rfl _ rfl g109 rfl _ r0 KR112.here ?_))
  refine (toTune_kp a2 n2 c2 A2 P2 _ (by omega) (KH2.here)).mono ?_
  rintro e w123 ⟨b124, rfl, hb122, KX125⟩
  replace KB := KB.on hb122
  replace KH0 := KH0.on hb122
  replace KH2 := KH2.on hb122
  replace KR0 := KR0.on hb122
  replace KR1 := KR1.on hb122
  replace KR72 := KR72.on hb122
  replace KX76 := KX76.on hb122
  replace KR78 := KR78.on hb122
  replace KX83 := KX83.on hb122
  replace KR112 := KR112.on hb122
  replace KX119 := KX119.on hb122
  go_wp2_with (first | (with_reducible refine load_lframe rfl _ rfl (w.heap.size) rfl _ s0 a0 n0 c0 KR0.here ?_) | (with_reducible refine load_arr rfl _ rfl (w.heap.size + 1) rfl _ D1 KR1.here ?_) | (with_reducible refine load_drum rfl _ rfl g69 rfl _ r0 KR72.here ?_) | (with_reducible refine load_iframe rfl _ rfl (w74.heap.size) rfl _ s0 b75 n0 n0 KR78.here ?_) | (with_reducible refine load_drum rfl _ rfl g109 rfl _ r0 KR112.here ?_))
  refine (eqTune_kp _ _ n2 n2 n2 A2 P2 _ (by omega) (KX83.here) (KX125.here)).mono ?_
  rintro e w127 ⟨rfl, hb126⟩
  replace KB := KB.on hb126
  replace KH0 := KH0.on hb126
  replace KH2 := KH2.on hb126
  replace KR0 := KR0.on hb126
  replace KR1 := KR1.on hb126
  replace KR72 := KR72.on hb126
  replace KX76 := KX76.on hb126
  replace KR78 := KR78.on hb126
  replace KX83 := KX83.on hb126
  replace KR112 := KR112.on hb126
  replace KX119 := KX119.on hb126
  replace KX125 := KX125.on hb126
  go_wp2_with fail
  go_ret
  exact ⟨rfl, KB.here⟩
end Go.Proofs.Ytpfjmoodfodfhaa
