/- The law FnExactTracksOf: the walk, printed by lawgen.py. No conditions. -/
import Derived.Test.YteffaghcjpeblaaGreatKp
import Derived.Test.YteffaghcjpeblaaGreatTt
import Derived.Test.YteffaghcjpeblaaGreatMk1
import Derived.Test.YteffaghcjpeblaaGreatInt
import Derived.Outline
namespace Go.Proofs.YteffaghcjpeblaaGreat
open Go.RowKit
set_option linter.unusedVariables false
set_option linter.unusedSimpArgs false

set_option maxRecDepth 100000 in
set_option maxHeartbeats 4000000 in
theorem lawTracksOf (s0 : Int) (a0 : Option Addr) (n0 c0 : Nat) (P0 R0 : Nat → Int) (a1 : Option Addr) (n1 c1 : Nat) (A1 P1 : Nat → Int) (D2 : Nat → Nat) (w : World) (hn0 : n0 ≤ 9223372036854775807) (hs0 : -32768 ≤ s0 ∧ s0 ≤ 32767) (hP0 : I8 P0) (hR0 : I8 R0) (hh0 : HamIn w a0 n0 P0 R0) (hn1 : n1 ≤ 9223372036854775807) (hA1 : I16 A1) (hP1 : I8 P1) (hh1 : NoteIn w a1 n1 A1 P1) (hD2 : D32 D2) :
    Calls Tryz.prog 3 #[.agg #[.int .i16 s0, .slice a0 n0 c0], .slice a1 n1 c1, .agg (dc D2)] w fun e w' => e = .returned (.bool true) ∧ Below w.heap.size w w' := by
  have HP0 := Lib.hid hP0; clear hP0
  have HR0 := Lib.hid hR0; clear hR0
  have HA1 := Lib.hid hA1; clear hA1
  have HP1 := Lib.hid hP1; clear hP1
  have HD2 := Lib.hid hD2; clear hD2
  have KB := Kp.base w
  have KH0 := kp_hamIn hh0; clear hh0
  have KH1 := kp_noteIn hh1; clear hh1
  replace KB := KB.alloc (.cells #[.int .i16 s0, .slice a0 n0 c0] 25)
  replace KH0 := KH0.alloc (.cells #[.int .i16 s0, .slice a0 n0 c0] 25)
  replace KH1 := KH1.alloc (.cells #[.int .i16 s0, .slice a0 n0 c0] 25)
  have KR0 := kp_new1 w #[.int .i16 s0, .slice a0 n0 c0] 25 (g := w.heap.size) (by simp)
  replace KB := KB.alloc (.cells (dc D2) 28)
  replace KH0 := KH0.alloc (.cells (dc D2) 28)
  replace KH1 := KH1.alloc (.cells (dc D2) 28)
  replace KR0 := KR0.alloc (.cells (dc D2) 28)
  have KR2 := kp_newd (w.alloc (.cells #[.int .i16 s0, .slice a0 n0 c0] 25)) D2 28 (g := w.heap.size + 1) (by simp)
  go_enter Tryz.func3, Tryz.ntmps3
  go_wp2_with (first | (with_reducible refine load_lframe rfl _ rfl (w.heap.size) rfl _ s0 a0 n0 c0 KR0.here ?_) | (with_reducible refine load_arr rfl _ rfl (w.heap.size + 1) rfl _ D2 KR2.here ?_))
  generalize ((w.alloc (.cells #[.int .i16 s0, .slice a0 n0 c0] 25)).alloc (.cells (dc D2) 28)) = w1 at KB KH0 KH1 KR0 KR2 ⊢
  refine (szFrame_kp s0 a0 n0 c0 (1048576) _ (by omega) (by omega)).mono ?_
  rintro e w3 ⟨rfl, hb2⟩
  replace KB := KB.on hb2
  replace KH0 := KH0.on hb2
  replace KH1 := KH1.on hb2
  replace KR0 := KR0.on hb2
  replace KR2 := KR2.on hb2
  by_cases hlw3 : (1048576 : Int) < n0
  · rw [szOf_lt hlw3]
    go_wp2_with (first | (with_reducible refine load_lframe rfl _ rfl (w.heap.size) rfl _ s0 a0 n0 c0 KR0.here ?_) | (with_reducible refine load_arr rfl _ rfl (w.heap.size + 1) rfl _ D2 KR2.here ?_))
    go_ret
    exact ⟨rfl, KB.here⟩
  rw [szOf_ge (by omega)]
  go_wp2_with (first | (with_reducible refine load_lframe rfl _ rfl (w.heap.size) rfl _ s0 a0 n0 c0 KR0.here ?_) | (with_reducible refine load_arr rfl _ rfl (w.heap.size + 1) rfl _ D2 KR2.here ?_))
  refine (szTune_kp a1 n1 c1 (1048576 - (n0 : Int)) _ (by omega) (by omega)).mono ?_
  rintro e w5 ⟨rfl, hb4⟩
  replace KB := KB.on hb4
  replace KH0 := KH0.on hb4
  replace KH1 := KH1.on hb4
  replace KR0 := KR0.on hb4
  replace KR2 := KR2.on hb4
  by_cases hlw5 : (1048576 - (n0 : Int) : Int) < n1
  · rw [szOf_lt hlw5]
    go_wp2_with (first | (with_reducible refine load_lframe rfl _ rfl (w.heap.size) rfl _ s0 a0 n0 c0 KR0.here ?_) | (with_reducible refine load_arr rfl _ rfl (w.heap.size + 1) rfl _ D2 KR2.here ?_))
    go_ret
    exact ⟨rfl, KB.here⟩
  rw [szOf_ge (by omega)]
  go_wp2_with (first | (with_reducible refine load_lframe rfl _ rfl (w.heap.size) rfl _ s0 a0 n0 c0 KR0.here ?_) | (with_reducible refine load_arr rfl _ rfl (w.heap.size + 1) rfl _ D2 KR2.here ?_))
  refine wp_region_S (fun V => Below w5.heap.size w5 V) (by kernel_rfl) (Below.refl _ _).drew ?_
  refine take_val 0 (.agg #[.int .i16 s0, .slice a0 n0 c0]) rfl (by kernel_rfl) (by kernel_rfl) (by kernel_rfl) (fun _ _ _ h => h) rfl (fun V hV => ex_load_lframe _ rfl (w.heap.size) rfl _ s0 a0 n0 c0 (KR0.at hV)) (Below.refl _ _).drew ?_
  simp only [List.getElem_toArray, List.getElem_cons_zero, List.getElem_cons_succ, Act.put, List.setIfInBounds_toArray, List.set_cons_zero, List.set_cons_succ]
  refine take_val 2 (.slice a1 n1 c1) rfl (by kernel_rfl) (by kernel_rfl) (by kernel_rfl) (fun _ _ _ h => h) rfl (fun V _ => by simp [go_sem]) (Below.refl _ _).drew ?_
  simp only [List.getElem_toArray, List.getElem_cons_zero, List.getElem_cons_succ, Act.put, List.setIfInBounds_toArray, List.set_cons_zero, List.set_cons_succ]
  refine take_val 4 (.agg (dc D2)) rfl (by kernel_rfl) (by kernel_rfl) (by kernel_rfl) (fun _ _ _ h => h) rfl (fun V hV => ex_load_arr _ rfl (w.heap.size + 1) rfl _ D2 (KR2.at hV)) (Below.refl _ _).drew ?_
  simp only [List.getElem_toArray, List.getElem_cons_zero, List.getElem_cons_succ, Act.put, List.setIfInBounds_toArray, List.set_cons_zero, List.set_cons_succ]
  have KQ6 := kp_start w5; have hdKQ6 := below_drew w5
  replace KB := KB.on hdKQ6
  replace KH0 := KH0.on hdKQ6
  replace KH1 := KH1.on hdKQ6
  replace KR0 := KR0.on hdKQ6
  replace KR2 := KR2.on hdKQ6
  clear hdKQ6
  refine step_call 1 10 #[.agg #[.int .i16 s0, .slice a0 n0 c0]] (by kernel_rfl) rfl rfl (by simp [go_sem]) ?_
  refine (toFrame_kp s0 a0 n0 c0 P0 R0 _ (by omega) hs0 (KH0.here)).mono ?_
  rintro e w8 ⟨b9, rfl, hb7, KX10⟩
  replace KB := KB.on hb7
  replace KH0 := KH0.on hb7
  replace KH1 := KH1.on hb7
  replace KR0 := KR0.on hb7
  replace KR2 := KR2.on hb7
  replace KQ6 := KQ6.on hb7
  refine ⟨_, rfl, KQ6.here, ?_⟩
  simp only [List.getElem_toArray, List.getElem_cons_zero, List.getElem_cons_succ, Act.put, List.setIfInBounds_toArray, List.set_cons_zero, List.set_cons_succ]
  refine step_call 3 11 #[.slice a1 n1 c1] (by kernel_rfl) rfl rfl (by simp [go_sem]) ?_
  refine (toTune_kp a1 n1 c1 A1 P1 _ (by omega) (KH1.here)).mono ?_
  rintro e w12 ⟨b13, rfl, hb11, KX14⟩
  replace KB := KB.on hb11
  replace KH0 := KH0.on hb11
  replace KH1 := KH1.on hb11
  replace KR0 := KR0.on hb11
  replace KR2 := KR2.on hb11
  replace KQ6 := KQ6.on hb11
  replace KX10 := KX10.on hb11
  refine ⟨_, rfl, KQ6.here, ?_⟩
  simp only [List.getElem_toArray, List.getElem_cons_zero, List.getElem_cons_succ, Act.put, List.setIfInBounds_toArray, List.set_cons_zero, List.set_cons_succ]
  refine step_call 5 12 #[.agg (dc D2)] (by kernel_rfl) rfl rfl (by simp [go_sem]) ?_
  refine (toDrum_any D2 _).mono ?_
  rintro e w16 ⟨rfl, hb15⟩
  replace KB := KB.on hb15
  replace KH0 := KH0.on hb15
  replace KH1 := KH1.on hb15
  replace KR0 := KR0.on hb15
  replace KR2 := KR2.on hb15
  replace KQ6 := KQ6.on hb15
  replace KX10 := KX10.on hb15
  replace KX14 := KX14.on hb15
  refine ⟨_, rfl, KQ6.here, ?_⟩
  simp only [List.getElem_toArray, List.getElem_cons_zero, List.getElem_cons_succ, Act.put, List.setIfInBounds_toArray, List.set_cons_zero, List.set_cons_succ]
  refine step_call 6 9 #[.agg #[.int .i16 s0, .slice b9 n0 n0], .slice b13 n1 n1, .agg (dc D2)] (by kernel_rfl) rfl rfl (by simp [go_sem]) ?_
  obtain ⟨r0, hr0⟩ : ∃ r, r = tvV s0 n0 P0 R0 n1 A1 P1 D2 := ⟨_, rfl⟩
  obtain ⟨r1, hr1⟩ : ∃ r, r = tvC s0 n0 P0 R0 n1 A1 P1 D2 := ⟨_, rfl⟩
  have hlr0 : r0.length ≤ 1000000 := by rw [hr0]; apply tvV_len
  refine (specTracksOf_any s0 b9 n0 n0 P0 R0 b13 n1 n1 A1 P1 D2 _ hs0 (by omega) HP0.out HR0.out (KX10.here) (by omega) HA1.out HP1.out (KX14.here) HD2.out).mono ?_
  rw [← hr0, ← hr1]
  rintro e w18 ⟨v19, rfl, hb17, ho20⟩
  have HR_0 := Lib.hid hr0; clear hr0
  have HR_1 := Lib.hid hr1; clear hr1
  obtain ⟨b21, c22, rfl, hz23⟩ := OwnI.at ho20
  have KW24 := kp_int hz23; clear hz23 ho20
  replace KB := KB.on hb17
  replace KH0 := KH0.on hb17
  replace KH1 := KH1.on hb17
  replace KR0 := KR0.on hb17
  replace KR2 := KR2.on hb17
  replace KQ6 := KQ6.on hb17
  replace KX10 := KX10.on hb17
  replace KX14 := KX14.on hb17
  refine ⟨_, rfl, KQ6.here, ?_⟩
  simp only [List.getElem_toArray, List.getElem_cons_zero, List.getElem_cons_succ, Act.put, List.setIfInBounds_toArray, List.set_cons_zero, List.set_cons_succ]
  refine take_val 7 (.tuple #[.slice b21 r0.length c22, .int .i64 r1]) rfl (by kernel_rfl) (by kernel_rfl) (by kernel_rfl) (fun _ _ _ h => h) rfl (fun V _ => by simp [go_sem]) KQ6.here ?_
  simp only [List.getElem_toArray, List.getElem_cons_zero, List.getElem_cons_succ, Act.put, List.setIfInBounds_toArray, List.set_cons_zero, List.set_cons_succ]
  refine take_val 8 (.slice b21 r0.length c22) rfl (by kernel_rfl) (by kernel_rfl) (by kernel_rfl) (fun _ _ _ h => h) rfl (fun V _ => by simp [go_sem]) KQ6.here ?_
  simp only [List.getElem_toArray, List.getElem_cons_zero, List.getElem_cons_succ, Act.put, List.setIfInBounds_toArray, List.set_cons_zero, List.set_cons_succ]
  refine take_val 9 (.int .i64 r1) rfl (by kernel_rfl) (by kernel_rfl) (by kernel_rfl) (fun _ _ _ h => h) rfl (fun V _ => by simp [go_sem]) KQ6.here ?_
  simp only [List.getElem_toArray, List.getElem_cons_zero, List.getElem_cons_succ, Act.put, List.setIfInBounds_toArray, List.set_cons_zero, List.set_cons_succ]
  refine take_val 10 (.slice b21 r0.length c22) rfl (by kernel_rfl) (by kernel_rfl) (by kernel_rfl) (fun _ _ _ h => h) rfl (fun V _ => by simp [go_sem]) KQ6.here ?_
  simp only [List.getElem_toArray, List.getElem_cons_zero, List.getElem_cons_succ, Act.put, List.setIfInBounds_toArray, List.set_cons_zero, List.set_cons_succ]
  refine take_val 11 (.int .i64 r1) rfl (by kernel_rfl) (by kernel_rfl) (by kernel_rfl) (fun _ _ _ h => h) rfl (fun V _ => by simp [go_sem]) KQ6.here ?_
  simp only [List.getElem_toArray, List.getElem_cons_zero, List.getElem_cons_succ, Act.put, List.setIfInBounds_toArray, List.set_cons_zero, List.set_cons_succ]
  refine wpAnyH_done (by kernel_rfl) ?_ _
  clear KQ6
  go_wp2_with (first | (with_reducible refine load_lframe rfl _ rfl (w.heap.size) rfl _ s0 a0 n0 c0 KR0.here ?_) | (with_reducible refine load_arr rfl _ rfl (w.heap.size + 1) rfl _ D2 KR2.here ?_))
  replace KB := KB.fix
  replace KH0 := KH0.fix
  replace KH1 := KH1.fix
  replace KR0 := KR0.fix
  replace KR2 := KR2.fix
  replace KX10 := KX10.fix
  replace KX14 := KX14.fix
  replace KW24 := KW24.fix
  refine (toFrame_own s0 a0 n0 c0 P0 R0 _ (by omega) hs0 (KH0.here)).mono ?_
  rintro e w26 ⟨b27, rfl, hb25, KX28, xs32, KO29⟩
  have hlt30 := (KO29.here).lt; have hsz31 := hb25.size
  replace KB := KB.on hb25
  replace KH0 := KH0.on hb25
  replace KH1 := KH1.on hb25
  replace KR0 := KR0.on hb25
  replace KR2 := KR2.on hb25
  replace KX10 := KX10.on hb25
  replace KX14 := KX14.on hb25
  replace KW24 := KW24.on hb25
  replace KB := KB.alloc (.cells #[.int .i16 s0, .slice b27 n0 n0] 36)
  replace KH0 := KH0.alloc (.cells #[.int .i16 s0, .slice b27 n0 n0] 36)
  replace KH1 := KH1.alloc (.cells #[.int .i16 s0, .slice b27 n0 n0] 36)
  replace KR0 := KR0.alloc (.cells #[.int .i16 s0, .slice b27 n0 n0] 36)
  replace KR2 := KR2.alloc (.cells #[.int .i16 s0, .slice b27 n0 n0] 36)
  replace KX10 := KX10.alloc (.cells #[.int .i16 s0, .slice b27 n0 n0] 36)
  replace KX14 := KX14.alloc (.cells #[.int .i16 s0, .slice b27 n0 n0] 36)
  replace KW24 := KW24.alloc (.cells #[.int .i16 s0, .slice b27 n0 n0] 36)
  replace KX28 := KX28.alloc (.cells #[.int .i16 s0, .slice b27 n0 n0] 36)
  replace KO29 := KO29.alloc (.cells #[.int .i16 s0, .slice b27 n0 n0] 36)
  have KR34 := kp_new1 w26 #[.int .i16 s0, .slice b27 n0 n0] 36 (g := w26.heap.size) rfl
  have hsz35 : w26.heap.size < (w26.alloc (.cells #[.int .i16 s0, .slice b27 n0 n0] 36)).heap.size := by simp
  go_wp2_with (first | (with_reducible refine load_lframe rfl _ rfl (w.heap.size) rfl _ s0 a0 n0 c0 KR0.here ?_) | (with_reducible refine load_arr rfl _ rfl (w.heap.size + 1) rfl _ D2 KR2.here ?_) | (with_reducible refine load_iframe rfl _ rfl (w26.heap.size) rfl _ s0 b27 n0 n0 KR34.here ?_))
  generalize (w26.alloc (.cells #[.int .i16 s0, .slice b27 n0 n0] 36)) = w36 at KB KH0 KH1 KR0 KR2 KX10 KX14 KW24 KX28 KO29 KR34 hsz35 ⊢
  refine (toTune_own a1 n1 c1 A1 P1 _ (by omega) (KH1.here)).mono ?_
  rintro e w38 ⟨b39, rfl, hb37, KX40, xs44, KO41⟩
  have hlt42 := (KO41.here).lt; have hsz43 := hb37.size
  replace KB := KB.on hb37
  replace KH0 := KH0.on hb37
  replace KH1 := KH1.on hb37
  replace KR0 := KR0.on hb37
  replace KR2 := KR2.on hb37
  replace KX10 := KX10.on hb37
  replace KX14 := KX14.on hb37
  replace KW24 := KW24.on hb37
  replace KX28 := KX28.on hb37
  replace KO29 := KO29.on hb37
  replace KR34 := KR34.on hb37
  go_wp2_with (first | (with_reducible refine load_lframe rfl _ rfl (w.heap.size) rfl _ s0 a0 n0 c0 KR0.here ?_) | (with_reducible refine load_arr rfl _ rfl (w.heap.size + 1) rfl _ D2 KR2.here ?_) | (with_reducible refine load_iframe rfl _ rfl (w26.heap.size) rfl _ s0 b27 n0 n0 KR34.here ?_))
  refine wp_region_S (fun V => Below w38.heap.size w38 V) (by kernel_rfl) (Below.refl _ _).drew ?_
  refine take_val 0 (.agg #[.int .i16 s0, .slice b27 n0 n0]) rfl (by kernel_rfl) (by kernel_rfl) (by kernel_rfl) (fun _ _ _ h => h) rfl (fun V hV => ex_load_iframe _ rfl (w26.heap.size) rfl _ s0 b27 n0 n0 (KR34.at hV)) (Below.refl _ _).drew ?_
  simp only [List.getElem_toArray, List.getElem_cons_zero, List.getElem_cons_succ, Act.put, List.setIfInBounds_toArray, List.set_cons_zero, List.set_cons_succ]
  refine take_val 1 (.slice b39 n1 n1) rfl (by kernel_rfl) (by kernel_rfl) (by kernel_rfl) (fun _ _ _ h => h) rfl (fun V _ => by simp [go_sem]) (Below.refl _ _).drew ?_
  simp only [List.getElem_toArray, List.getElem_cons_zero, List.getElem_cons_succ, Act.put, List.setIfInBounds_toArray, List.set_cons_zero, List.set_cons_succ]
  refine take_val 2 (.agg (dc D2)) rfl (by kernel_rfl) (by kernel_rfl) (by kernel_rfl) (fun _ _ _ h => h) rfl (fun V hV => ex_load_arr _ rfl (w.heap.size + 1) rfl _ D2 (KR2.at hV)) (Below.refl _ _).drew ?_
  simp only [List.getElem_toArray, List.getElem_cons_zero, List.getElem_cons_succ, Act.put, List.setIfInBounds_toArray, List.set_cons_zero, List.set_cons_succ]
  have KQ45 := kp_start w38; have hdKQ45 := below_drew w38
  have hsz46 := hdKQ45.size
  replace KB := KB.on hdKQ45
  replace KH0 := KH0.on hdKQ45
  replace KH1 := KH1.on hdKQ45
  replace KR0 := KR0.on hdKQ45
  replace KR2 := KR2.on hdKQ45
  replace KX10 := KX10.on hdKQ45
  replace KX14 := KX14.on hdKQ45
  replace KW24 := KW24.on hdKQ45
  replace KX28 := KX28.on hdKQ45
  replace KO29 := KO29.on hdKQ45
  replace KR34 := KR34.on hdKQ45
  replace KX40 := KX40.on hdKQ45
  replace KO41 := KO41.on hdKQ45
  clear hdKQ45
  refine step_call 3 12 #[.agg (dc D2)] (by kernel_rfl) rfl rfl (by simp [go_sem]) ?_
  refine (toDrum_any D2 _).mono ?_
  rintro e w48 ⟨rfl, hb47⟩
  have hsz49 := hb47.size
  replace KB := KB.on hb47
  replace KH0 := KH0.on hb47
  replace KH1 := KH1.on hb47
  replace KR0 := KR0.on hb47
  replace KR2 := KR2.on hb47
  replace KX10 := KX10.on hb47
  replace KX14 := KX14.on hb47
  replace KW24 := KW24.on hb47
  replace KX28 := KX28.on hb47
  replace KO29 := KO29.on hb47
  replace KR34 := KR34.on hb47
  replace KX40 := KX40.on hb47
  replace KO41 := KO41.on hb47
  replace KQ45 := KQ45.on hb47
  refine ⟨_, rfl, KQ45.here, ?_⟩
  simp only [List.getElem_toArray, List.getElem_cons_zero, List.getElem_cons_succ, Act.put, List.setIfInBounds_toArray, List.set_cons_zero, List.set_cons_succ]
  refine step_call 4 13 #[.agg #[.int .i16 s0, .slice b27 n0 n0], .slice b39 n1 n1, .agg (dc D2)] (by kernel_rfl) rfl rfl (by simp [go_sem]) ?_
  refine (implTracksOf_any s0 b27 n0 n0 P0 R0 b39 n1 n1 A1 P1 D2 _ hs0 (by omega) HP0.out HR0.out (KX28.here) (by omega) HA1.out HP1.out (KX40.here) HD2.out).mono ?_
  rw [← HR_0.out, ← HR_1.out]
  rintro e w51 ⟨v52, rfl, hb50, ho53⟩
  obtain ⟨b54, c55, rfl, hz56⟩ := OwnI.at ho53
  have hlt58 := ho53.lt; have KG57 := kp_OwnI ho53; clear hz56
  clear ho53
  have hsz59 := hb50.size
  replace KB := KB.on hb50
  replace KH0 := KH0.on hb50
  replace KH1 := KH1.on hb50
  replace KR0 := KR0.on hb50
  replace KR2 := KR2.on hb50
  replace KX10 := KX10.on hb50
  replace KX14 := KX14.on hb50
  replace KW24 := KW24.on hb50
  replace KX28 := KX28.on hb50
  replace KO29 := KO29.on hb50
  replace KR34 := KR34.on hb50
  replace KX40 := KX40.on hb50
  replace KO41 := KO41.on hb50
  replace KQ45 := KQ45.on hb50
  refine ⟨_, rfl, KQ45.here, ?_⟩
  simp only [List.getElem_toArray, List.getElem_cons_zero, List.getElem_cons_succ, Act.put, List.setIfInBounds_toArray, List.set_cons_zero, List.set_cons_succ]
  refine take_val 5 (.tuple #[.slice b54 r0.length c55, .int .i64 r1]) rfl (by kernel_rfl) (by kernel_rfl) (by kernel_rfl) (fun _ _ _ h => h) rfl (fun V _ => by simp [go_sem]) KQ45.here ?_
  simp only [List.getElem_toArray, List.getElem_cons_zero, List.getElem_cons_succ, Act.put, List.setIfInBounds_toArray, List.set_cons_zero, List.set_cons_succ]
  refine take_val 6 (.slice b54 r0.length c55) rfl (by kernel_rfl) (by kernel_rfl) (by kernel_rfl) (fun _ _ _ h => h) rfl (fun V _ => by simp [go_sem]) KQ45.here ?_
  simp only [List.getElem_toArray, List.getElem_cons_zero, List.getElem_cons_succ, Act.put, List.setIfInBounds_toArray, List.set_cons_zero, List.set_cons_succ]
  refine take_val 7 (.int .i64 r1) rfl (by kernel_rfl) (by kernel_rfl) (by kernel_rfl) (fun _ _ _ h => h) rfl (fun V _ => by simp [go_sem]) KQ45.here ?_
  simp only [List.getElem_toArray, List.getElem_cons_zero, List.getElem_cons_succ, Act.put, List.setIfInBounds_toArray, List.set_cons_zero, List.set_cons_succ]
  refine take_val 8 (.slice b54 r0.length c55) rfl (by kernel_rfl) (by kernel_rfl) (by kernel_rfl) (fun _ _ _ h => h) rfl (fun V _ => by simp [go_sem]) KQ45.here ?_
  simp only [List.getElem_toArray, List.getElem_cons_zero, List.getElem_cons_succ, Act.put, List.setIfInBounds_toArray, List.set_cons_zero, List.set_cons_succ]
  refine take_val 9 (.int .i64 r1) rfl (by kernel_rfl) (by kernel_rfl) (by kernel_rfl) (fun _ _ _ h => h) rfl (fun V _ => by simp [go_sem]) KQ45.here ?_
  simp only [List.getElem_toArray, List.getElem_cons_zero, List.getElem_cons_succ, Act.put, List.setIfInBounds_toArray, List.set_cons_zero, List.set_cons_succ]
  refine wpAnyH_done (by kernel_rfl) ?_ _
  clear KQ45
  go_wp2_with (first | (with_reducible refine load_lframe rfl _ rfl (w.heap.size) rfl _ s0 a0 n0 c0 KR0.here ?_) | (with_reducible refine load_arr rfl _ rfl (w.heap.size + 1) rfl _ D2 KR2.here ?_) | (with_reducible refine load_iframe rfl _ rfl (w26.heap.size) rfl _ s0 b27 n0 n0 KR34.here ?_))
  refine (eqInt64S_kp b54 b21 r0.length c55 c22 (fun i => r0.getD i 0) _ (by omega) (KG57.here).readAt (KW24.here)).mono ?_
  rintro e w61 ⟨rfl, hb60⟩
  replace KB := KB.on hb60
  replace KH0 := KH0.on hb60
  replace KH1 := KH1.on hb60
  replace KR0 := KR0.on hb60
  replace KR2 := KR2.on hb60
  replace KX10 := KX10.on hb60
  replace KX14 := KX14.on hb60
  replace KW24 := KW24.on hb60
  replace KX28 := KX28.on hb60
  replace KO29 := KO29.on hb60
  replace KR34 := KR34.on hb60
  replace KX40 := KX40.on hb60
  replace KO41 := KO41.on hb60
  replace KG57 := KG57.on hb60
  go_wp2_with (first | (with_reducible refine load_lframe rfl _ rfl (w.heap.size) rfl _ s0 a0 n0 c0 KR0.here ?_) | (with_reducible refine load_arr rfl _ rfl (w.heap.size + 1) rfl _ D2 KR2.here ?_) | (with_reducible refine load_iframe rfl _ rfl (w26.heap.size) rfl _ s0 b27 n0 n0 KR34.here ?_))
  refine wp_region_S (fun V => Below w61.heap.size w61 V) (by kernel_rfl) (Below.refl _ _).drew ?_
  refine take_val 0 (.agg #[.int .i16 s0, .slice b27 n0 n0]) rfl (by kernel_rfl) (by kernel_rfl) (by kernel_rfl) (fun _ _ _ h => h) rfl (fun V hV => ex_load_iframe _ rfl (w26.heap.size) rfl _ s0 b27 n0 n0 (KR34.at hV)) (Below.refl _ _).drew ?_
  simp only [List.getElem_toArray, List.getElem_cons_zero, List.getElem_cons_succ, Act.put, List.setIfInBounds_toArray, List.set_cons_zero, List.set_cons_succ]
  refine take_val 1 (.agg #[.int .i16 s0, .slice a0 n0 c0]) rfl (by kernel_rfl) (by kernel_rfl) (by kernel_rfl) (fun _ _ _ h => h) rfl (fun V hV => ex_load_lframe _ rfl (w.heap.size) rfl _ s0 a0 n0 c0 (KR0.at hV)) (Below.refl _ _).drew ?_
  simp only [List.getElem_toArray, List.getElem_cons_zero, List.getElem_cons_succ, Act.put, List.setIfInBounds_toArray, List.set_cons_zero, List.set_cons_succ]
  have KQ62 := kp_start w61; have hdKQ62 := below_drew w61
  replace KB := KB.on hdKQ62
  replace KH0 := KH0.on hdKQ62
  replace KH1 := KH1.on hdKQ62
  replace KR0 := KR0.on hdKQ62
  replace KR2 := KR2.on hdKQ62
  replace KX10 := KX10.on hdKQ62
  replace KX14 := KX14.on hdKQ62
  replace KW24 := KW24.on hdKQ62
  replace KX28 := KX28.on hdKQ62
  replace KO29 := KO29.on hdKQ62
  replace KR34 := KR34.on hdKQ62
  replace KX40 := KX40.on hdKQ62
  replace KO41 := KO41.on hdKQ62
  replace KG57 := KG57.on hdKQ62
  clear hdKQ62
  refine step_call 2 10 #[.agg #[.int .i16 s0, .slice a0 n0 c0]] (by kernel_rfl) rfl rfl (by simp [go_sem]) ?_
  refine (toFrame_kp s0 a0 n0 c0 P0 R0 _ (by omega) hs0 (KH0.here)).mono ?_
  rintro e w64 ⟨b65, rfl, hb63, KX66⟩
  replace KB := KB.on hb63
  replace KH0 := KH0.on hb63
  replace KH1 := KH1.on hb63
  replace KR0 := KR0.on hb63
  replace KR2 := KR2.on hb63
  replace KX10 := KX10.on hb63
  replace KX14 := KX14.on hb63
  replace KW24 := KW24.on hb63
  replace KX28 := KX28.on hb63
  replace KO29 := KO29.on hb63
  replace KR34 := KR34.on hb63
  replace KX40 := KX40.on hb63
  replace KO41 := KO41.on hb63
  replace KG57 := KG57.on hb63
  replace KQ62 := KQ62.on hb63
  refine ⟨_, rfl, KQ62.here, ?_⟩
  simp only [List.getElem_toArray, List.getElem_cons_zero, List.getElem_cons_succ, Act.put, List.setIfInBounds_toArray, List.set_cons_zero, List.set_cons_succ]
  refine step_call 3 15 #[.agg #[.int .i16 s0, .slice b27 n0 n0], .agg #[.int .i16 s0, .slice b65 n0 n0]] (by kernel_rfl) rfl rfl (by simp [go_sem]) ?_
  refine (eqFrame_kp s0 _ _ n0 n0 n0 P0 R0 _ (by omega) (KX28.here) (KX66.here)).mono ?_
  rintro e w68 ⟨rfl, hb67⟩
  replace KB := KB.on hb67
  replace KH0 := KH0.on hb67
  replace KH1 := KH1.on hb67
  replace KR0 := KR0.on hb67
  replace KR2 := KR2.on hb67
  replace KX10 := KX10.on hb67
  replace KX14 := KX14.on hb67
  replace KW24 := KW24.on hb67
  replace KX28 := KX28.on hb67
  replace KO29 := KO29.on hb67
  replace KR34 := KR34.on hb67
  replace KX40 := KX40.on hb67
  replace KO41 := KO41.on hb67
  replace KG57 := KG57.on hb67
  replace KQ62 := KQ62.on hb67
  replace KX66 := KX66.on hb67
  refine ⟨_, rfl, KQ62.here, ?_⟩
  simp only [List.getElem_toArray, List.getElem_cons_zero, List.getElem_cons_succ, Act.put, List.setIfInBounds_toArray, List.set_cons_zero, List.set_cons_succ]
  refine take_val 4 (.bool false) rfl (by kernel_rfl) (by kernel_rfl) (by kernel_rfl) (fun _ _ _ h => h) rfl (fun V _ => by simp [go_sem]) KQ62.here ?_
  simp only [List.getElem_toArray, List.getElem_cons_zero, List.getElem_cons_succ, Act.put, List.setIfInBounds_toArray, List.set_cons_zero, List.set_cons_succ]
  refine wpAnyH_done (by kernel_rfl) ?_ _
  clear KQ62
  go_wp2_with (first | (with_reducible refine load_lframe rfl _ rfl (w.heap.size) rfl _ s0 a0 n0 c0 KR0.here ?_) | (with_reducible refine load_arr rfl _ rfl (w.heap.size + 1) rfl _ D2 KR2.here ?_) | (with_reducible refine load_iframe rfl _ rfl (w26.heap.size) rfl _ s0 b27 n0 n0 KR34.here ?_))
  refine (toTune_kp a1 n1 c1 A1 P1 _ (by omega) (KH1.here)).mono ?_
  rintro e w70 ⟨b71, rfl, hb69, KX72⟩
  replace KB := KB.on hb69
  replace KH0 := KH0.on hb69
  replace KH1 := KH1.on hb69
  replace KR0 := KR0.on hb69
  replace KR2 := KR2.on hb69
  replace KX10 := KX10.on hb69
  replace KX14 := KX14.on hb69
  replace KW24 := KW24.on hb69
  replace KX28 := KX28.on hb69
  replace KO29 := KO29.on hb69
  replace KR34 := KR34.on hb69
  replace KX40 := KX40.on hb69
  replace KO41 := KO41.on hb69
  replace KG57 := KG57.on hb69
  replace KX66 := KX66.on hb69
  go_wp2_with (first | (with_reducible refine load_lframe rfl _ rfl (w.heap.size) rfl _ s0 a0 n0 c0 KR0.here ?_) | (with_reducible refine load_arr rfl _ rfl (w.heap.size + 1) rfl _ D2 KR2.here ?_) | (with_reducible refine load_iframe rfl _ rfl (w26.heap.size) rfl _ s0 b27 n0 n0 KR34.here ?_))
  refine (eqTune_kp _ _ n1 n1 n1 A1 P1 _ (by omega) (KX40.here) (KX72.here)).mono ?_
  rintro e w74 ⟨rfl, hb73⟩
  replace KB := KB.on hb73
  replace KH0 := KH0.on hb73
  replace KH1 := KH1.on hb73
  replace KR0 := KR0.on hb73
  replace KR2 := KR2.on hb73
  replace KX10 := KX10.on hb73
  replace KX14 := KX14.on hb73
  replace KW24 := KW24.on hb73
  replace KX28 := KX28.on hb73
  replace KO29 := KO29.on hb73
  replace KR34 := KR34.on hb73
  replace KX40 := KX40.on hb73
  replace KO41 := KO41.on hb73
  replace KG57 := KG57.on hb73
  replace KX66 := KX66.on hb73
  replace KX72 := KX72.on hb73
  go_wp2_with (first | (with_reducible refine load_lframe rfl _ rfl (w.heap.size) rfl _ s0 a0 n0 c0 KR0.here ?_) | (with_reducible refine load_arr rfl _ rfl (w.heap.size + 1) rfl _ D2 KR2.here ?_) | (with_reducible refine load_iframe rfl _ rfl (w26.heap.size) rfl _ s0 b27 n0 n0 KR34.here ?_))
  refine (markFrame_own w18.heap.size s0 b27 n0 n0 _ 1 _ (by omega) (by omega) (KO29.here)).mono ?_
  rintro e w76 ⟨rfl, hg77, _⟩
  obtain ⟨q79, hq79⟩ : ∃ q : Nat, 1 + n0 * 2 = q := ⟨_, rfl⟩
  rw [hq79]; have hq79b : q79 ≤ 110000000 := by omega
  clear hq79
  replace KB := KB.grown hg77 (fun k hk => by have := hlt30 k hk; omega)
  replace KH0 := KH0.grown hg77 (fun k hk => by have := hlt30 k hk; omega)
  replace KH1 := KH1.grown hg77 (fun k hk => by have := hlt30 k hk; omega)
  replace KR0 := KR0.grown hg77 (fun k hk => by have := hlt30 k hk; omega)
  replace KR2 := KR2.grown hg77 (fun k hk => by have := hlt30 k hk; omega)
  replace KX10 := KX10.grown hg77 (fun k hk => by have := hlt30 k hk; omega)
  replace KX14 := KX14.grown hg77 (fun k hk => by have := hlt30 k hk; omega)
  replace KW24 := KW24.grown hg77 (fun k hk => by have := hlt30 k hk; omega)
  have hr := own_grown (KO41.here) hg77 (fun k hk => by have := hlt30 k hk; omega); replace KO41 := kp_ownR hr; clear hr
  have hr := own_grown (KG57.here) hg77 (fun k hk => by have := hlt30 k hk; omega); replace KG57 := kp_OwnI hr; clear hr
  clear KX28 KO29 KR34 KX40 KX66 KX72
  clear hg77
  go_wp2_with (first | (with_reducible refine load_lframe rfl _ rfl (w.heap.size) rfl _ s0 a0 n0 c0 KR0.here ?_) | (with_reducible refine load_arr rfl _ rfl (w.heap.size + 1) rfl _ D2 KR2.here ?_))
  refine (markTune_own w36.heap.size _ n1 _ q79 _ (by omega) (by omega) (KO41.here)).mono ?_
  rintro e w81 ⟨rfl, hg82, _⟩
  obtain ⟨q84, hq84⟩ : ∃ q : Nat, q79 + n1 * 2 = q := ⟨_, rfl⟩
  rw [hq84]; have hq84b : q84 ≤ 220000000 := by omega
  clear hq84
  replace KB := KB.grown hg82 (fun k hk => by have := hlt42 k hk; omega)
  replace KH0 := KH0.grown hg82 (fun k hk => by have := hlt42 k hk; omega)
  replace KH1 := KH1.grown hg82 (fun k hk => by have := hlt42 k hk; omega)
  replace KR0 := KR0.grown hg82 (fun k hk => by have := hlt42 k hk; omega)
  replace KR2 := KR2.grown hg82 (fun k hk => by have := hlt42 k hk; omega)
  replace KX10 := KX10.grown hg82 (fun k hk => by have := hlt42 k hk; omega)
  replace KX14 := KX14.grown hg82 (fun k hk => by have := hlt42 k hk; omega)
  replace KW24 := KW24.grown hg82 (fun k hk => by have := hlt42 k hk; omega)
  have hr := own_grown (KG57.here) hg82 (fun k hk => by have := hlt42 k hk; omega); replace KG57 := kp_OwnI hr; clear hr
  clear KO41
  clear hg82
  go_wp2_with (first | (with_reducible refine load_lframe rfl _ rfl (w.heap.size) rfl _ s0 a0 n0 c0 KR0.here ?_) | (with_reducible refine load_arr rfl _ rfl (w.heap.size + 1) rfl _ D2 KR2.here ?_))
  refine (eqInt64S_kp b54 b21 r0.length c55 c22 (fun i => r0.getD i 0) _ (by omega) (KG57.here).readAt (KW24.here)).mono ?_
  rintro e w86 ⟨rfl, hb85⟩
  replace KB := KB.on hb85
  replace KH0 := KH0.on hb85
  replace KH1 := KH1.on hb85
  replace KR0 := KR0.on hb85
  replace KR2 := KR2.on hb85
  replace KX10 := KX10.on hb85
  replace KX14 := KX14.on hb85
  replace KW24 := KW24.on hb85
  replace KG57 := KG57.on hb85
  go_wp2_with (first | (with_reducible refine load_lframe rfl _ rfl (w.heap.size) rfl _ s0 a0 n0 c0 KR0.here ?_) | (with_reducible refine load_arr rfl _ rfl (w.heap.size + 1) rfl _ D2 KR2.here ?_))
  refine (markInt64S_own w48.heap.size _ r0.length _ 1 _ (by omega) (by omega) (KG57.here)).mono ?_
  rintro e w88 ⟨rfl, hg89, ho90⟩
  obtain ⟨q91, hq91⟩ : ∃ q : Nat, 1 + r0.length * 1 = q := ⟨_, rfl⟩
  rw [hq91]; have HQ92 := Lib.hid hq91; have hq91b : q91 ≤ 5000000 := by omega
  clear hq91
  replace KB := KB.grown hg89 (fun k hk => by have := hlt58 k hk; omega)
  replace KH0 := KH0.grown hg89 (fun k hk => by have := hlt58 k hk; omega)
  replace KH1 := KH1.grown hg89 (fun k hk => by have := hlt58 k hk; omega)
  replace KR0 := KR0.grown hg89 (fun k hk => by have := hlt58 k hk; omega)
  replace KR2 := KR2.grown hg89 (fun k hk => by have := hlt58 k hk; omega)
  replace KX10 := KX10.grown hg89 (fun k hk => by have := hlt58 k hk; omega)
  replace KX14 := KX14.grown hg89 (fun k hk => by have := hlt58 k hk; omega)
  replace KW24 := KW24.grown hg89 (fun k hk => by have := hlt58 k hk; omega)
  have KG57m := kp_ownR ho90; clear ho90 hg89
  go_wp2_with (first | (with_reducible refine load_lframe rfl _ rfl (w.heap.size) rfl _ s0 a0 n0 c0 KR0.here ?_) | (with_reducible refine load_arr rfl _ rfl (w.heap.size + 1) rfl _ D2 KR2.here ?_))
  refine (heldInt64S_own w48.heap.size _ r0.length 1 _ (by omega) (by omega) (KG57m.here)).mono ?_
  rintro e w94 ⟨rfl, rfl⟩
  rw [HQ92.out]
  go_wp2_with (first | (with_reducible refine load_lframe rfl _ rfl (w.heap.size) rfl _ s0 a0 n0 c0 KR0.here ?_) | (with_reducible refine load_arr rfl _ rfl (w.heap.size + 1) rfl _ D2 KR2.here ?_))
  refine wp_region_S (fun V => Below w88.heap.size w88 V) (by kernel_rfl) (Below.refl _ _).drew ?_
  refine take_val 0 (.agg #[.int .i16 s0, .slice a0 n0 c0]) rfl (by kernel_rfl) (by kernel_rfl) (by kernel_rfl) (fun _ _ _ h => h) rfl (fun V hV => ex_load_lframe _ rfl (w.heap.size) rfl _ s0 a0 n0 c0 (KR0.at hV)) (Below.refl _ _).drew ?_
  simp only [List.getElem_toArray, List.getElem_cons_zero, List.getElem_cons_succ, Act.put, List.setIfInBounds_toArray, List.set_cons_zero, List.set_cons_succ]
  refine take_val 2 (.slice a1 n1 c1) rfl (by kernel_rfl) (by kernel_rfl) (by kernel_rfl) (fun _ _ _ h => h) rfl (fun V _ => by simp [go_sem]) (Below.refl _ _).drew ?_
  simp only [List.getElem_toArray, List.getElem_cons_zero, List.getElem_cons_succ, Act.put, List.setIfInBounds_toArray, List.set_cons_zero, List.set_cons_succ]
  refine take_val 4 (.agg (dc D2)) rfl (by kernel_rfl) (by kernel_rfl) (by kernel_rfl) (fun _ _ _ h => h) rfl (fun V hV => ex_load_arr _ rfl (w.heap.size + 1) rfl _ D2 (KR2.at hV)) (Below.refl _ _).drew ?_
  simp only [List.getElem_toArray, List.getElem_cons_zero, List.getElem_cons_succ, Act.put, List.setIfInBounds_toArray, List.set_cons_zero, List.set_cons_succ]
  have KQ95 := kp_start w88; have hdKQ95 := below_drew w88
  replace KB := KB.on hdKQ95
  replace KH0 := KH0.on hdKQ95
  replace KH1 := KH1.on hdKQ95
  replace KR0 := KR0.on hdKQ95
  replace KR2 := KR2.on hdKQ95
  replace KX10 := KX10.on hdKQ95
  replace KX14 := KX14.on hdKQ95
  replace KW24 := KW24.on hdKQ95
  replace KG57m := KG57m.on hdKQ95
  clear hdKQ95
  refine step_call 1 10 #[.agg #[.int .i16 s0, .slice a0 n0 c0]] (by kernel_rfl) rfl rfl (by simp [go_sem]) ?_
  refine (toFrame_kp s0 a0 n0 c0 P0 R0 _ (by omega) hs0 (KH0.here)).mono ?_
  rintro e w97 ⟨b98, rfl, hb96, KX99⟩
  replace KB := KB.on hb96
  replace KH0 := KH0.on hb96
  replace KH1 := KH1.on hb96
  replace KR0 := KR0.on hb96
  replace KR2 := KR2.on hb96
  replace KX10 := KX10.on hb96
  replace KX14 := KX14.on hb96
  replace KW24 := KW24.on hb96
  replace KG57m := KG57m.on hb96
  replace KQ95 := KQ95.on hb96
  refine ⟨_, rfl, KQ95.here, ?_⟩
  simp only [List.getElem_toArray, List.getElem_cons_zero, List.getElem_cons_succ, Act.put, List.setIfInBounds_toArray, List.set_cons_zero, List.set_cons_succ]
  refine step_call 3 11 #[.slice a1 n1 c1] (by kernel_rfl) rfl rfl (by simp [go_sem]) ?_
  refine (toTune_kp a1 n1 c1 A1 P1 _ (by omega) (KH1.here)).mono ?_
  rintro e w101 ⟨b102, rfl, hb100, KX103⟩
  replace KB := KB.on hb100
  replace KH0 := KH0.on hb100
  replace KH1 := KH1.on hb100
  replace KR0 := KR0.on hb100
  replace KR2 := KR2.on hb100
  replace KX10 := KX10.on hb100
  replace KX14 := KX14.on hb100
  replace KW24 := KW24.on hb100
  replace KG57m := KG57m.on hb100
  replace KQ95 := KQ95.on hb100
  replace KX99 := KX99.on hb100
  refine ⟨_, rfl, KQ95.here, ?_⟩
  simp only [List.getElem_toArray, List.getElem_cons_zero, List.getElem_cons_succ, Act.put, List.setIfInBounds_toArray, List.set_cons_zero, List.set_cons_succ]
  refine step_call 5 12 #[.agg (dc D2)] (by kernel_rfl) rfl rfl (by simp [go_sem]) ?_
  refine (toDrum_any D2 _).mono ?_
  rintro e w105 ⟨rfl, hb104⟩
  replace KB := KB.on hb104
  replace KH0 := KH0.on hb104
  replace KH1 := KH1.on hb104
  replace KR0 := KR0.on hb104
  replace KR2 := KR2.on hb104
  replace KX10 := KX10.on hb104
  replace KX14 := KX14.on hb104
  replace KW24 := KW24.on hb104
  replace KG57m := KG57m.on hb104
  replace KQ95 := KQ95.on hb104
  replace KX99 := KX99.on hb104
  replace KX103 := KX103.on hb104
  refine ⟨_, rfl, KQ95.here, ?_⟩
  simp only [List.getElem_toArray, List.getElem_cons_zero, List.getElem_cons_succ, Act.put, List.setIfInBounds_toArray, List.set_cons_zero, List.set_cons_succ]
  refine step_call 6 13 #[.agg #[.int .i16 s0, .slice b98 n0 n0], .slice b102 n1 n1, .agg (dc D2)] (by kernel_rfl) rfl rfl (by simp [go_sem]) ?_
  refine (implTracksOf_any s0 b98 n0 n0 P0 R0 b102 n1 n1 A1 P1 D2 _ hs0 (by omega) HP0.out HR0.out (KX99.here) (by omega) HA1.out HP1.out (KX103.here) HD2.out).mono ?_
  rw [← HR_0.out, ← HR_1.out]
  rintro e w107 ⟨v108, rfl, hb106, ho109⟩
  obtain ⟨b110, c111, rfl, hz112⟩ := OwnI.at ho109
  have KW113 := kp_int hz112; clear hz112 ho109
  replace KB := KB.on hb106
  replace KH0 := KH0.on hb106
  replace KH1 := KH1.on hb106
  replace KR0 := KR0.on hb106
  replace KR2 := KR2.on hb106
  replace KX10 := KX10.on hb106
  replace KX14 := KX14.on hb106
  replace KW24 := KW24.on hb106
  replace KG57m := KG57m.on hb106
  replace KQ95 := KQ95.on hb106
  replace KX99 := KX99.on hb106
  replace KX103 := KX103.on hb106
  refine ⟨_, rfl, KQ95.here, ?_⟩
  simp only [List.getElem_toArray, List.getElem_cons_zero, List.getElem_cons_succ, Act.put, List.setIfInBounds_toArray, List.set_cons_zero, List.set_cons_succ]
  refine take_val 7 (.tuple #[.slice b110 r0.length c111, .int .i64 r1]) rfl (by kernel_rfl) (by kernel_rfl) (by kernel_rfl) (fun _ _ _ h => h) rfl (fun V _ => by simp [go_sem]) KQ95.here ?_
  simp only [List.getElem_toArray, List.getElem_cons_zero, List.getElem_cons_succ, Act.put, List.setIfInBounds_toArray, List.set_cons_zero, List.set_cons_succ]
  refine take_val 8 (.slice b110 r0.length c111) rfl (by kernel_rfl) (by kernel_rfl) (by kernel_rfl) (fun _ _ _ h => h) rfl (fun V _ => by simp [go_sem]) KQ95.here ?_
  simp only [List.getElem_toArray, List.getElem_cons_zero, List.getElem_cons_succ, Act.put, List.setIfInBounds_toArray, List.set_cons_zero, List.set_cons_succ]
  refine take_val 9 (.int .i64 r1) rfl (by kernel_rfl) (by kernel_rfl) (by kernel_rfl) (fun _ _ _ h => h) rfl (fun V _ => by simp [go_sem]) KQ95.here ?_
  simp only [List.getElem_toArray, List.getElem_cons_zero, List.getElem_cons_succ, Act.put, List.setIfInBounds_toArray, List.set_cons_zero, List.set_cons_succ]
  refine take_val 10 (.slice b110 r0.length c111) rfl (by kernel_rfl) (by kernel_rfl) (by kernel_rfl) (fun _ _ _ h => h) rfl (fun V _ => by simp [go_sem]) KQ95.here ?_
  simp only [List.getElem_toArray, List.getElem_cons_zero, List.getElem_cons_succ, Act.put, List.setIfInBounds_toArray, List.set_cons_zero, List.set_cons_succ]
  refine take_val 11 (.int .i64 r1) rfl (by kernel_rfl) (by kernel_rfl) (by kernel_rfl) (fun _ _ _ h => h) rfl (fun V _ => by simp [go_sem]) KQ95.here ?_
  simp only [List.getElem_toArray, List.getElem_cons_zero, List.getElem_cons_succ, Act.put, List.setIfInBounds_toArray, List.set_cons_zero, List.set_cons_succ]
  refine wpAnyH_done (by kernel_rfl) ?_ _
  clear KQ95
  go_wp2_with (first | (with_reducible refine load_lframe rfl _ rfl (w.heap.size) rfl _ s0 a0 n0 c0 KR0.here ?_) | (with_reducible refine load_arr rfl _ rfl (w.heap.size + 1) rfl _ D2 KR2.here ?_))
  refine (eqInt64S_kp b110 b21 r0.length c111 c22 (fun i => r0.getD i 0) _ (by omega) (KW113.here) (KW24.here)).mono ?_
  rintro e w115 ⟨rfl, hb114⟩
  replace KB := KB.on hb114
  replace KH0 := KH0.on hb114
  replace KH1 := KH1.on hb114
  replace KR0 := KR0.on hb114
  replace KR2 := KR2.on hb114
  replace KX10 := KX10.on hb114
  replace KX14 := KX14.on hb114
  replace KW24 := KW24.on hb114
  replace KG57m := KG57m.on hb114
  replace KX99 := KX99.on hb114
  replace KX103 := KX103.on hb114
  replace KW113 := KW113.on hb114
  go_wp2_with (first | (with_reducible refine load_lframe rfl _ rfl (w.heap.size) rfl _ s0 a0 n0 c0 KR0.here ?_) | (with_reducible refine load_arr rfl _ rfl (w.heap.size + 1) rfl _ D2 KR2.here ?_))
  refine (heldInt64S_own w48.heap.size _ r0.length 1 _ (by omega) (by omega) (KG57m.here)).mono ?_
  rintro e w117 ⟨rfl, rfl⟩
  rw [HQ92.out]
  go_wp2_with fail
  go_ret
  exact ⟨rfl, KB.here⟩
end Go.Proofs.YteffaghcjpeblaaGreat
