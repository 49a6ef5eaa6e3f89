/- The law FnExactLayTunes: the walk, printed by lawgen.py. No conditions. -/
import Derived.Test.YtpfjmoodfodfhaaKp
import Derived.Test.YtpfjmoodfodfhaaLta
import Derived.Test.YtpfjmoodfodfhaaTtu
import Derived.Test.YtpfjmoodfodfhaaHeld2
import Derived.Test.YtpfjmoodfodfhaaMk1
import Derived.Test.YtpfjmoodfodfhaaMk2
import Derived.Test.YtpfjmoodfodfhaaMk3
import Derived.Outline
namespace Go.Proofs.Ytpfjmoodfodfhaa
open Go.RowKit
set_option linter.unusedVariables false
set_option linter.unusedSimpArgs false

set_option maxRecDepth 100000 in
set_option maxHeartbeats 4000000 in
theorem lawLayTunes (s0 : Int) (a0 : Option Addr) (n0 c0 : Nat) (P0 R0 : Nat → Int) (a1 : Option Addr) (n1 c1 : Nat) (aa1 : Nat → Option Addr) (N1 C1 : Nat → Nat) (A1 Q1 : Nat → Nat → Int) (x2 : Int) (w : World) (hn0 : n0 ≤ 9223372036854775807) (hs0 : -32768 ≤ s0 ∧ s0 ≤ 32767) (hP0 : I8 P0) (hR0 : I8 R0) (hh0 : HamIn w a0 n0 P0 R0) (hn1 : n1 ≤ 9223372036854775807) (hM1 : ∀ i, i < n1 → N1 i ≤ 9223372036854775807) (hA1 : ∀ i, I16 (A1 i)) (hQ1 : ∀ i, I8 (Q1 i)) (hh1 : TuneSIn w a1 n1 aa1 N1 C1 A1 Q1) (hx2 : -9223372036854775808 ≤ x2 ∧ x2 ≤ 9223372036854775807) :
    Calls Try.prog 7 #[.agg #[.int .i16 s0, .slice a0 n0 c0], .slice a1 n1 c1, .int .i64 x2] w fun e w' => e = .returned (.bool true) ∧ Below w.heap.size w w' := by
  have HP0 := Lib.hid hP0; clear hP0
  have HR0 := Lib.hid hR0; clear hR0
  have HM1 := Lib.hid hM1; clear hM1
  have HA1 := Lib.hid hA1; clear hA1
  have HQ1 := Lib.hid hQ1; clear hQ1
  have KB := Kp.base w
  have KH0 := kp_hamIn hh0; clear hh0
  have KH1 := kp_tunesIn hh1; clear hh1
  replace KB := KB.alloc (.cells #[.int .i16 s0, .slice a0 n0 c0] 40)
  replace KH0 := KH0.alloc (.cells #[.int .i16 s0, .slice a0 n0 c0] 40)
  replace KH1 := KH1.alloc (.cells #[.int .i16 s0, .slice a0 n0 c0] 40)
  have KR0 := kp_new1 w #[.int .i16 s0, .slice a0 n0 c0] 40 (g := w.heap.size) (by simp)
  go_enter Try.func7, Try.ntmps7
  go_wp2_with (first | (with_reducible refine load_lframe rfl _ rfl (w.heap.size) rfl _ s0 a0 n0 c0 KR0.here ?_))
  generalize (w.alloc (.cells #[.int .i16 s0, .slice a0 n0 c0] 40)) = w1 at KB KH0 KH1 KR0 ⊢
  refine (szFrame_kp s0 a0 n0 c0 (1048576) _ (by omega) (by omega)).mono ?_
  rintro e w3 ⟨rfl, hb2⟩
  replace KB := KB.on hb2
  replace KH0 := KH0.on hb2
  replace KH1 := KH1.on hb2
  replace KR0 := KR0.on hb2
  by_cases hlw3 : (1048576 : Int) < n0
  · rw [szOf_lt hlw3]
    go_wp2_with (first | (with_reducible refine load_lframe rfl _ rfl (w.heap.size) rfl _ s0 a0 n0 c0 KR0.here ?_))
    go_ret
    exact ⟨rfl, KB.here⟩
  rw [szOf_ge (by omega)]
  go_wp2_with (first | (with_reducible refine load_lframe rfl _ rfl (w.heap.size) rfl _ s0 a0 n0 c0 KR0.here ?_))
  refine (szTuneS_kp a1 n1 c1 aa1 N1 C1 A1 Q1 (1048576 - (n0 : Int)) _ (by omega) HM1.out (by omega) (KH1.here)).mono ?_
  rintro e w5 ⟨r6, rfl, hr7, hb4⟩
  replace KB := KB.on hb4
  replace KH0 := KH0.on hb4
  replace KH1 := KH1.on hb4
  replace KR0 := KR0.on hb4
  rcases hr7 with hr7 | ⟨hr7, hsm⟩
  · skip
    go_wp2_with (first | (with_reducible refine load_lframe rfl _ rfl (w.heap.size) rfl _ s0 a0 n0 c0 KR0.here ?_))
    go_ret
    exact ⟨rfl, KB.here⟩
  have hnln1 : (n1 : Int) ≤ 1048576 := by omega
  have HSB1 := Lib.hid (show sumN N1 n1 ≤ 1048576 by omega)
  have HNB1 := Lib.hid (show ∀ i, i < n1 → N1 i ≤ 1048576 from fun i hi => by have := sumN_one N1 hi; omega)
  clear hsm
  go_wp2_with (first | (with_reducible refine load_lframe rfl _ rfl (w.heap.size) rfl _ s0 a0 n0 c0 KR0.here ?_))
  refine (toFrame_kp s0 a0 n0 c0 P0 R0 _ (by omega) hs0 (KH0.here)).mono ?_
  rintro e w9 ⟨b10, rfl, hb8, KX11⟩
  replace KB := KB.on hb8
  replace KH0 := KH0.on hb8
  replace KH1 := KH1.on hb8
  replace KR0 := KR0.on hb8
  go_wp2_with (first | (with_reducible refine load_lframe rfl _ rfl (w.heap.size) rfl _ s0 a0 n0 c0 KR0.here ?_))
  refine (toTuneS_kp a1 n1 c1 aa1 N1 C1 A1 Q1 _ (by omega) HNB1.out (KH1.here)).mono ?_
  rintro e w13 ⟨b14, aa15, rfl, hb12, KX16⟩
  replace KB := KB.on hb12
  replace KH0 := KH0.on hb12
  replace KH1 := KH1.on hb12
  replace KR0 := KR0.on hb12
  replace KX11 := KX11.on hb12
  go_wp2_with (first | (with_reducible refine load_lframe rfl _ rfl (w.heap.size) rfl _ s0 a0 n0 c0 KR0.here ?_))
  obtain ⟨r0, hr0⟩ : ∃ r, r = ltS s0 n0 P0 R0 n1 N1 A1 Q1 x2 := ⟨_, rfl⟩
  obtain ⟨r1, hr1⟩ : ∃ r, r = ltN s0 n0 P0 R0 n1 N1 A1 Q1 x2 := ⟨_, rfl⟩
  obtain ⟨r2, hr2⟩ : ∃ r, r = ltC s0 n0 P0 R0 n1 N1 A1 Q1 x2 := ⟨_, rfl⟩
  have hlr0 : r0.length ≤ 1000000 := by rw [hr0]; apply ltS_len
  have hlr1 : r1.length ≤ 1000000 := by rw [hr1]; apply ltN_len
  refine (specLayTunes_any s0 b10 n0 n0 P0 R0 b14 n1 n1 aa15 N1 N1 A1 Q1 x2 _ hs0 (by omega) HP0.out HR0.out (KX11.here) (by omega) HNB1.out HA1.out HQ1.out (KX16.here) hx2).mono ?_
  rw [← hr0, ← hr1, ← hr2]
  rintro e w18 ⟨v19, v20, rfl, hb17, ho21, ho22, hsep23⟩
  have HR_0 := Lib.hid hr0; clear hr0
  have HR_1 := Lib.hid hr1; clear hr1
  have HR_2 := Lib.hid hr2; clear hr2
  obtain ⟨b24, c25, rfl, hz26⟩ := OwnS.at ho21
  have KW27 := kp_sec hz26; clear hz26 ho21
  obtain ⟨b28, c29, rfl, hz30⟩ := OwnN.at ho22
  have KW31 := kp_note hz30; clear hz30 ho22
  clear hsep23
  replace KB := KB.on hb17
  replace KH0 := KH0.on hb17
  replace KH1 := KH1.on hb17
  replace KR0 := KR0.on hb17
  replace KX11 := KX11.on hb17
  replace KX16 := KX16.on hb17
  go_wp2_with (first | (with_reducible refine load_lframe rfl _ rfl (w.heap.size) rfl _ s0 a0 n0 c0 KR0.here ?_))
  replace KB := KB.fix
  replace KH0 := KH0.fix
  replace KH1 := KH1.fix
  replace KR0 := KR0.fix
  replace KX11 := KX11.fix
  replace KX16 := KX16.fix
  replace KW27 := KW27.fix
  replace KW31 := KW31.fix
  refine (toFrame_own s0 a0 n0 c0 P0 R0 _ (by omega) hs0 (KH0.here)).mono ?_
  rintro e w33 ⟨b34, rfl, hb32, KX35, xs39, KO36⟩
  have hlt37 := (KO36.here).lt; have hsz38 := hb32.size
  replace KB := KB.on hb32
  replace KH0 := KH0.on hb32
  replace KH1 := KH1.on hb32
  replace KR0 := KR0.on hb32
  replace KX11 := KX11.on hb32
  replace KX16 := KX16.on hb32
  replace KW27 := KW27.on hb32
  replace KW31 := KW31.on hb32
  replace KB := KB.alloc (.cells #[.int .i16 s0, .slice b34 n0 n0] 27)
  replace KH0 := KH0.alloc (.cells #[.int .i16 s0, .slice b34 n0 n0] 27)
  replace KH1 := KH1.alloc (.cells #[.int .i16 s0, .slice b34 n0 n0] 27)
  replace KR0 := KR0.alloc (.cells #[.int .i16 s0, .slice b34 n0 n0] 27)
  replace KX11 := KX11.alloc (.cells #[.int .i16 s0, .slice b34 n0 n0] 27)
  replace KX16 := KX16.alloc (.cells #[.int .i16 s0, .slice b34 n0 n0] 27)
  replace KW27 := KW27.alloc (.cells #[.int .i16 s0, .slice b34 n0 n0] 27)
  replace KW31 := KW31.alloc (.cells #[.int .i16 s0, .slice b34 n0 n0] 27)
  replace KX35 := KX35.alloc (.cells #[.int .i16 s0, .slice b34 n0 n0] 27)
  replace KO36 := KO36.alloc (.cells #[.int .i16 s0, .slice b34 n0 n0] 27)
  have KR41 := kp_new1 w33 #[.int .i16 s0, .slice b34 n0 n0] 27 (g := w33.heap.size) rfl
  have hsz42 : w33.heap.size < (w33.alloc (.cells #[.int .i16 s0, .slice b34 n0 n0] 27)).heap.size := by simp
  go_wp2_with (first | (with_reducible refine load_lframe rfl _ rfl (w.heap.size) rfl _ s0 a0 n0 c0 KR0.here ?_) | (with_reducible refine load_iframe rfl _ rfl (w33.heap.size) rfl _ s0 b34 n0 n0 KR41.here ?_))
  generalize (w33.alloc (.cells #[.int .i16 s0, .slice b34 n0 n0] 27)) = w43 at KB KH0 KH1 KR0 KX11 KX16 KW27 KW31 KX35 KO36 KR41 hsz42 ⊢
  refine (toTuneS_own a1 n1 c1 aa1 N1 C1 A1 Q1 _ (by omega) HNB1.out (KH1.here)).mono ?_
  rintro e w45 ⟨b46, rfl, hb44, htx51⟩
  obtain ⟨aa47, hta52⟩ := htx51.at
  have KX48 := kp_tunes hta52; have KO49 := kp_TXT htx51.marks; clear hta52 htx51; have hsz50 := hb44.size
  replace KB := KB.on hb44
  replace KH0 := KH0.on hb44
  replace KH1 := KH1.on hb44
  replace KR0 := KR0.on hb44
  replace KX11 := KX11.on hb44
  replace KX16 := KX16.on hb44
  replace KW27 := KW27.on hb44
  replace KW31 := KW31.on hb44
  replace KX35 := KX35.on hb44
  replace KO36 := KO36.on hb44
  replace KR41 := KR41.on hb44
  go_wp2_with (first | (with_reducible refine load_lframe rfl _ rfl (w.heap.size) rfl _ s0 a0 n0 c0 KR0.here ?_) | (with_reducible refine load_iframe rfl _ rfl (w33.heap.size) rfl _ s0 b34 n0 n0 KR41.here ?_))
  refine (implLayTunes_any s0 b34 n0 n0 P0 R0 b46 n1 n1 aa47 N1 N1 A1 Q1 x2 _ hs0 (by omega) HP0.out HR0.out (KX35.here) (by omega) HNB1.out HA1.out HQ1.out (KX48.here) hx2).mono ?_
  rw [← HR_0.out, ← HR_1.out, ← HR_2.out]
  rintro e w54 ⟨v55, v56, rfl, hb53, ho57, ho58, hsep59⟩
  obtain ⟨b60, c61, rfl, hz62⟩ := OwnS.at ho57
  have hlt64 := ho57.lt; have KG63 := kp_OwnS ho57; clear hz62
  clear ho57
  obtain ⟨b65, c66, rfl, hz67⟩ := OwnN.at ho58
  have hlt69 := ho58.lt; have KG68 := kp_OwnN ho58; clear hz67
  clear ho58
  have hsz70 := hb53.size
  have hsz71 := hb53.size
  replace KB := KB.on hb53
  replace KH0 := KH0.on hb53
  replace KH1 := KH1.on hb53
  replace KR0 := KR0.on hb53
  replace KX11 := KX11.on hb53
  replace KX16 := KX16.on hb53
  replace KW27 := KW27.on hb53
  replace KW31 := KW31.on hb53
  replace KX35 := KX35.on hb53
  replace KO36 := KO36.on hb53
  replace KR41 := KR41.on hb53
  replace KX48 := KX48.on hb53
  replace KO49 := KO49.on hb53
  go_wp2_with (first | (with_reducible refine load_lframe rfl _ rfl (w.heap.size) rfl _ s0 a0 n0 c0 KR0.here ?_) | (with_reducible refine load_iframe rfl _ rfl (w33.heap.size) rfl _ s0 b34 n0 n0 KR41.here ?_))
  refine (eqSectionS_kp b60 b24 r0.length c61 c25 (fun i => (r0.getD i (0, 0)).1) (fun i => (r0.getD i (0, 0)).2) _ (by omega) (KG63.here).readAt (KW27.here)).mono ?_
  rintro e w73 ⟨rfl, hb72⟩
  replace KB := KB.on hb72
  replace KH0 := KH0.on hb72
  replace KH1 := KH1.on hb72
  replace KR0 := KR0.on hb72
  replace KX11 := KX11.on hb72
  replace KX16 := KX16.on hb72
  replace KW27 := KW27.on hb72
  replace KW31 := KW31.on hb72
  replace KX35 := KX35.on hb72
  replace KO36 := KO36.on hb72
  replace KR41 := KR41.on hb72
  replace KX48 := KX48.on hb72
  replace KO49 := KO49.on hb72
  replace KG63 := KG63.on hb72
  replace KG68 := KG68.on hb72
  go_wp2_with (first | (with_reducible refine load_lframe rfl _ rfl (w.heap.size) rfl _ s0 a0 n0 c0 KR0.here ?_) | (with_reducible refine load_iframe rfl _ rfl (w33.heap.size) rfl _ s0 b34 n0 n0 KR41.here ?_))
  refine (eqTune_kp b65 b28 r1.length c66 c29 (fun i => (r1.getD i (0, 0)).1) (fun i => (r1.getD i (0, 0)).2) _ (by omega) (KG68.here).readAt (KW31.here)).mono ?_
  rintro e w75 ⟨rfl, hb74⟩
  replace KB := KB.on hb74
  replace KH0 := KH0.on hb74
  replace KH1 := KH1.on hb74
  replace KR0 := KR0.on hb74
  replace KX11 := KX11.on hb74
  replace KX16 := KX16.on hb74
  replace KW27 := KW27.on hb74
  replace KW31 := KW31.on hb74
  replace KX35 := KX35.on hb74
  replace KO36 := KO36.on hb74
  replace KR41 := KR41.on hb74
  replace KX48 := KX48.on hb74
  replace KO49 := KO49.on hb74
  replace KG63 := KG63.on hb74
  replace KG68 := KG68.on hb74
  go_wp2_with (first | (with_reducible refine load_lframe rfl _ rfl (w.heap.size) rfl _ s0 a0 n0 c0 KR0.here ?_) | (with_reducible refine load_iframe rfl _ rfl (w33.heap.size) rfl _ s0 b34 n0 n0 KR41.here ?_))
  refine wp_region_S (fun V => Below w75.heap.size w75 V) (by kernel_rfl) (Below.refl _ _).drew ?_
  refine take_val 0 (.agg #[.int .i16 s0, .slice b34 n0 n0]) rfl (by kernel_rfl) (by kernel_rfl) (by kernel_rfl) (fun _ _ _ h => h) rfl (fun V hV => ex_load_iframe _ rfl (w33.heap.size) rfl _ s0 b34 n0 n0 (KR41.at hV)) (Below.refl _ _).drew ?_
  simp only [List.getElem_toArray, List.getElem_cons_zero, List.getElem_cons_succ, Act.put, List.setIfInBounds_toArray, List.set_cons_zero, List.set_cons_succ]
  refine take_val 1 (.agg #[.int .i16 s0, .slice a0 n0 c0]) rfl (by kernel_rfl) (by kernel_rfl) (by kernel_rfl) (fun _ _ _ h => h) rfl (fun V hV => ex_load_lframe _ rfl (w.heap.size) rfl _ s0 a0 n0 c0 (KR0.at hV)) (Below.refl _ _).drew ?_
  simp only [List.getElem_toArray, List.getElem_cons_zero, List.getElem_cons_succ, Act.put, List.setIfInBounds_toArray, List.set_cons_zero, List.set_cons_succ]
  have KQ76 := kp_start w75; have hdKQ76 := below_drew w75
  replace KB := KB.on hdKQ76
  replace KH0 := KH0.on hdKQ76
  replace KH1 := KH1.on hdKQ76
  replace KR0 := KR0.on hdKQ76
  replace KX11 := KX11.on hdKQ76
  replace KX16 := KX16.on hdKQ76
  replace KW27 := KW27.on hdKQ76
  replace KW31 := KW31.on hdKQ76
  replace KX35 := KX35.on hdKQ76
  replace KO36 := KO36.on hdKQ76
  replace KR41 := KR41.on hdKQ76
  replace KX48 := KX48.on hdKQ76
  replace KO49 := KO49.on hdKQ76
  replace KG63 := KG63.on hdKQ76
  replace KG68 := KG68.on hdKQ76
  clear hdKQ76
  refine step_call 2 21 #[.agg #[.int .i16 s0, .slice a0 n0 c0]] (by kernel_rfl) rfl rfl (by simp [go_sem]) ?_
  refine (toFrame_kp s0 a0 n0 c0 P0 R0 _ (by omega) hs0 (KH0.here)).mono ?_
  rintro e w78 ⟨b79, rfl, hb77, KX80⟩
  replace KB := KB.on hb77
  replace KH0 := KH0.on hb77
  replace KH1 := KH1.on hb77
  replace KR0 := KR0.on hb77
  replace KX11 := KX11.on hb77
  replace KX16 := KX16.on hb77
  replace KW27 := KW27.on hb77
  replace KW31 := KW31.on hb77
  replace KX35 := KX35.on hb77
  replace KO36 := KO36.on hb77
  replace KR41 := KR41.on hb77
  replace KX48 := KX48.on hb77
  replace KO49 := KO49.on hb77
  replace KG63 := KG63.on hb77
  replace KG68 := KG68.on hb77
  replace KQ76 := KQ76.on hb77
  refine ⟨_, rfl, KQ76.here, ?_⟩
  simp only [List.getElem_toArray, List.getElem_cons_zero, List.getElem_cons_succ, Act.put, List.setIfInBounds_toArray, List.set_cons_zero, List.set_cons_succ]
  refine step_call 3 13 #[.agg #[.int .i16 s0, .slice b34 n0 n0], .agg #[.int .i16 s0, .slice b79 n0 n0]] (by kernel_rfl) rfl rfl (by simp [go_sem]) ?_
  refine (eqFrame_kp s0 _ _ n0 n0 n0 P0 R0 _ (by omega) (KX35.here) (KX80.here)).mono ?_
  rintro e w82 ⟨rfl, hb81⟩
  replace KB := KB.on hb81
  replace KH0 := KH0.on hb81
  replace KH1 := KH1.on hb81
  replace KR0 := KR0.on hb81
  replace KX11 := KX11.on hb81
  replace KX16 := KX16.on hb81
  replace KW27 := KW27.on hb81
  replace KW31 := KW31.on hb81
  replace KX35 := KX35.on hb81
  replace KO36 := KO36.on hb81
  replace KR41 := KR41.on hb81
  replace KX48 := KX48.on hb81
  replace KO49 := KO49.on hb81
  replace KG63 := KG63.on hb81
  replace KG68 := KG68.on hb81
  replace KQ76 := KQ76.on hb81
  replace KX80 := KX80.on hb81
  refine ⟨_, rfl, KQ76.here, ?_⟩
  simp only [List.getElem_toArray, List.getElem_cons_zero, List.getElem_cons_succ, Act.put, List.setIfInBounds_toArray, List.set_cons_zero, List.set_cons_succ]
  refine take_val 4 (.bool false) rfl (by kernel_rfl) (by kernel_rfl) (by kernel_rfl) (fun _ _ _ h => h) rfl (fun V _ => by simp [go_sem]) KQ76.here ?_
  simp only [List.getElem_toArray, List.getElem_cons_zero, List.getElem_cons_succ, Act.put, List.setIfInBounds_toArray, List.set_cons_zero, List.set_cons_succ]
  refine wpAnyH_done (by kernel_rfl) ?_ _
  clear KQ76
  go_wp2_with (first | (with_reducible refine load_lframe rfl _ rfl (w.heap.size) rfl _ s0 a0 n0 c0 KR0.here ?_) | (with_reducible refine load_iframe rfl _ rfl (w33.heap.size) rfl _ s0 b34 n0 n0 KR41.here ?_))
  refine (toTuneS_kp a1 n1 c1 aa1 N1 C1 A1 Q1 _ (by omega) HNB1.out (KH1.here)).mono ?_
  rintro e w84 ⟨b85, aa86, rfl, hb83, KX87⟩
  replace KB := KB.on hb83
  replace KH0 := KH0.on hb83
  replace KH1 := KH1.on hb83
  replace KR0 := KR0.on hb83
  replace KX11 := KX11.on hb83
  replace KX16 := KX16.on hb83
  replace KW27 := KW27.on hb83
  replace KW31 := KW31.on hb83
  replace KX35 := KX35.on hb83
  replace KO36 := KO36.on hb83
  replace KR41 := KR41.on hb83
  replace KX48 := KX48.on hb83
  replace KO49 := KO49.on hb83
  replace KG63 := KG63.on hb83
  replace KG68 := KG68.on hb83
  replace KX80 := KX80.on hb83
  go_wp2_with (first | (with_reducible refine load_lframe rfl _ rfl (w.heap.size) rfl _ s0 a0 n0 c0 KR0.here ?_) | (with_reducible refine load_iframe rfl _ rfl (w33.heap.size) rfl _ s0 b34 n0 n0 KR41.here ?_))
  refine (eqTuneS_kp b46 b85 n1 n1 n1 aa47 aa86 N1 N1 N1 A1 Q1 _ (by omega) HNB1.out (KX48.here) (KX87.here)).mono ?_
  rintro e w89 ⟨rfl, hb88⟩
  replace KB := KB.on hb88
  replace KH0 := KH0.on hb88
  replace KH1 := KH1.on hb88
  replace KR0 := KR0.on hb88
  replace KX11 := KX11.on hb88
  replace KX16 := KX16.on hb88
  replace KW27 := KW27.on hb88
  replace KW31 := KW31.on hb88
  replace KX35 := KX35.on hb88
  replace KO36 := KO36.on hb88
  replace KR41 := KR41.on hb88
  replace KX48 := KX48.on hb88
  replace KO49 := KO49.on hb88
  replace KG63 := KG63.on hb88
  replace KG68 := KG68.on hb88
  replace KX80 := KX80.on hb88
  replace KX87 := KX87.on hb88
  go_wp2_with (first | (with_reducible refine load_lframe rfl _ rfl (w.heap.size) rfl _ s0 a0 n0 c0 KR0.here ?_) | (with_reducible refine load_iframe rfl _ rfl (w33.heap.size) rfl _ s0 b34 n0 n0 KR41.here ?_))
  refine (markFrame_own w18.heap.size s0 b34 n0 n0 _ 1 _ (by omega) (by omega) (KO36.here)).mono ?_
  rintro e w91 ⟨rfl, hg92, _⟩
  obtain ⟨q94, hq94⟩ : ∃ q : Nat, 1 + n0 * 2 = q := ⟨_, rfl⟩
  rw [hq94]; have hq94b : q94 ≤ 110000000 := by omega
  clear hq94
  replace KB := KB.grown hg92 (fun k hk => by have := hlt37 k hk; omega)
  replace KH0 := KH0.grown hg92 (fun k hk => by have := hlt37 k hk; omega)
  replace KH1 := KH1.grown hg92 (fun k hk => by have := hlt37 k hk; omega)
  replace KR0 := KR0.grown hg92 (fun k hk => by have := hlt37 k hk; omega)
  replace KX11 := KX11.grown hg92 (fun k hk => by have := hlt37 k hk; omega)
  replace KX16 := KX16.grown hg92 (fun k hk => by have := hlt37 k hk; omega)
  replace KW27 := KW27.grown hg92 (fun k hk => by have := hlt37 k hk; omega)
  replace KW31 := KW31.grown hg92 (fun k hk => by have := hlt37 k hk; omega)
  have hr := TXT.grown (KO49.here) hg92 (fun k hk => by have := hlt37 k hk; omega); replace KO49 := kp_TXT hr; clear hr
  have hr := own_grown (KG63.here) hg92 (fun k hk => by have := hlt37 k hk; omega); replace KG63 := kp_OwnS hr; clear hr
  have hr := own_grown (KG68.here) hg92 (fun k hk => by have := hlt37 k hk; omega); replace KG68 := kp_OwnN hr; clear hr
  clear KX35 KO36 KR41 KX48 KX80 KX87
  clear hg92
  go_wp2_with (first | (with_reducible refine load_lframe rfl _ rfl (w.heap.size) rfl _ s0 a0 n0 c0 KR0.here ?_))
  refine (markTuneS_own w43.heap.size w45.heap.size b46 n1 n1 N1 q94 _ (by omega) HSB1.out (by omega) (KO49.here)).mono ?_
  rintro e w96 ⟨rfl, hg97⟩
  obtain ⟨q99, hq99⟩ : ∃ q : Nat, q94 + 2 * sumN N1 n1 = q := ⟨_, rfl⟩
  rw [hq99]; have hq99b : q99 ≤ 220000000 := by have := HSB1.out; omega
  clear hq99
  replace KB := KB.mid hg97 (by omega)
  replace KH0 := KH0.mid hg97 (by omega)
  replace KH1 := KH1.mid hg97 (by omega)
  replace KR0 := KR0.mid hg97 (by omega)
  replace KX11 := KX11.mid hg97 (by omega)
  replace KX16 := KX16.mid hg97 (by omega)
  replace KW27 := KW27.mid hg97 (by omega)
  replace KW31 := KW31.mid hg97 (by omega)
  have hr := own_mid (KG63.here) hg97 (by omega); replace KG63 := kp_OwnS hr; clear hr
  have hr := own_mid (KG68.here) hg97 (by omega); replace KG68 := kp_OwnN hr; clear hr
  clear KO49
  clear hg97
  go_wp2_with (first | (with_reducible refine load_lframe rfl _ rfl (w.heap.size) rfl _ s0 a0 n0 c0 KR0.here ?_))
  refine (eqSectionS_kp b60 b24 r0.length c61 c25 (fun i => (r0.getD i (0, 0)).1) (fun i => (r0.getD i (0, 0)).2) _ (by omega) (KG63.here).readAt (KW27.here)).mono ?_
  rintro e w101 ⟨rfl, hb100⟩
  replace KB := KB.on hb100
  replace KH0 := KH0.on hb100
  replace KH1 := KH1.on hb100
  replace KR0 := KR0.on hb100
  replace KX11 := KX11.on hb100
  replace KX16 := KX16.on hb100
  replace KW27 := KW27.on hb100
  replace KW31 := KW31.on hb100
  replace KG63 := KG63.on hb100
  replace KG68 := KG68.on hb100
  go_wp2_with (first | (with_reducible refine load_lframe rfl _ rfl (w.heap.size) rfl _ s0 a0 n0 c0 KR0.here ?_))
  refine (eqTune_kp b65 b28 r1.length c66 c29 (fun i => (r1.getD i (0, 0)).1) (fun i => (r1.getD i (0, 0)).2) _ (by omega) (KG68.here).readAt (KW31.here)).mono ?_
  rintro e w103 ⟨rfl, hb102⟩
  replace KB := KB.on hb102
  replace KH0 := KH0.on hb102
  replace KH1 := KH1.on hb102
  replace KR0 := KR0.on hb102
  replace KX11 := KX11.on hb102
  replace KX16 := KX16.on hb102
  replace KW27 := KW27.on hb102
  replace KW31 := KW31.on hb102
  replace KG63 := KG63.on hb102
  replace KG68 := KG68.on hb102
  go_wp2_with (first | (with_reducible refine load_lframe rfl _ rfl (w.heap.size) rfl _ s0 a0 n0 c0 KR0.here ?_))
  refine (markSectionS_own w45.heap.size _ r0.length _ 1 _ (by omega) (by omega) (KG63.here)).mono ?_
  rintro e w105 ⟨rfl, hg106, ho107⟩
  obtain ⟨q108, hq108⟩ : ∃ q : Nat, 1 + r0.length * 2 = q := ⟨_, rfl⟩
  rw [hq108]; have HQ109 := Lib.hid hq108; have hq108b : q108 ≤ 5000000 := by omega
  clear hq108
  replace KB := KB.grown hg106 (fun k hk => by have := hlt64 k hk; omega)
  replace KH0 := KH0.grown hg106 (fun k hk => by have := hlt64 k hk; omega)
  replace KH1 := KH1.grown hg106 (fun k hk => by have := hlt64 k hk; omega)
  replace KR0 := KR0.grown hg106 (fun k hk => by have := hlt64 k hk; omega)
  replace KX11 := KX11.grown hg106 (fun k hk => by have := hlt64 k hk; omega)
  replace KX16 := KX16.grown hg106 (fun k hk => by have := hlt64 k hk; omega)
  replace KW27 := KW27.grown hg106 (fun k hk => by have := hlt64 k hk; omega)
  replace KW31 := KW31.grown hg106 (fun k hk => by have := hlt64 k hk; omega)
  have hr := own_kept (KG68.here) hg106 (hsep59.symm); replace KG68 := kp_OwnN hr; clear hr
  have KG63m := kp_ownR ho107; clear ho107 hg106
  go_wp2_with (first | (with_reducible refine load_lframe rfl _ rfl (w.heap.size) rfl _ s0 a0 n0 c0 KR0.here ?_))
  refine (markTune_own w45.heap.size _ r1.length _ q108 _ (by omega) (by omega) (KG68.here)).mono ?_
  rintro e w111 ⟨rfl, hg112, ho113⟩
  obtain ⟨q114, hq114⟩ : ∃ q : Nat, q108 + r1.length * 2 = q := ⟨_, rfl⟩
  rw [hq114]; have HQ115 := Lib.hid hq114; have hq114b : q114 ≤ 10000000 := by omega
  clear hq114
  replace KB := KB.grown hg112 (fun k hk => by have := hlt69 k hk; omega)
  replace KH0 := KH0.grown hg112 (fun k hk => by have := hlt69 k hk; omega)
  replace KH1 := KH1.grown hg112 (fun k hk => by have := hlt69 k hk; omega)
  replace KR0 := KR0.grown hg112 (fun k hk => by have := hlt69 k hk; omega)
  replace KX11 := KX11.grown hg112 (fun k hk => by have := hlt69 k hk; omega)
  replace KX16 := KX16.grown hg112 (fun k hk => by have := hlt69 k hk; omega)
  replace KW27 := KW27.grown hg112 (fun k hk => by have := hlt69 k hk; omega)
  replace KW31 := KW31.grown hg112 (fun k hk => by have := hlt69 k hk; omega)
  have hr := own_kept (KG63m.here) hg112 (hsep59); replace KG63m := kp_ownR hr; clear hr
  have KG68m := kp_ownR ho113; clear ho113 hg112
  go_wp2_with (first | (with_reducible refine load_lframe rfl _ rfl (w.heap.size) rfl _ s0 a0 n0 c0 KR0.here ?_))
  refine (heldSectionS_own w45.heap.size _ r0.length 1 _ (by omega) (by omega) (KG63m.here)).mono ?_
  rintro e w117 ⟨rfl, rfl⟩
  rw [HQ109.out]
  go_wp2_with (first | (with_reducible refine load_lframe rfl _ rfl (w.heap.size) rfl _ s0 a0 n0 c0 KR0.here ?_))
  refine (heldTune_own w45.heap.size _ r1.length q108 _ (by omega) (by omega) (KG68m.here)).mono ?_
  rintro e w119 ⟨rfl, rfl⟩
  rw [HQ115.out]
  go_wp2_with (first | (with_reducible refine load_lframe rfl _ rfl (w.heap.size) rfl _ s0 a0 n0 c0 KR0.here ?_))
  refine (toFrame_kp s0 a0 n0 c0 P0 R0 _ (by omega) hs0 (KH0.here)).mono ?_
  rintro e w121 ⟨b122, rfl, hb120, KX123⟩
  replace KB := KB.on hb120
  replace KH0 := KH0.on hb120
  replace KH1 := KH1.on hb120
  replace KR0 := KR0.on hb120
  replace KX11 := KX11.on hb120
  replace KX16 := KX16.on hb120
  replace KW27 := KW27.on hb120
  replace KW31 := KW31.on hb120
  replace KG63m := KG63m.on hb120
  replace KG68m := KG68m.on hb120
  go_wp2_with (first | (with_reducible refine load_lframe rfl _ rfl (w.heap.size) rfl _ s0 a0 n0 c0 KR0.here ?_))
  refine (toTuneS_kp a1 n1 c1 aa1 N1 C1 A1 Q1 _ (by omega) HNB1.out (KH1.here)).mono ?_
  rintro e w125 ⟨b126, aa127, rfl, hb124, KX128⟩
  replace KB := KB.on hb124
  replace KH0 := KH0.on hb124
  replace KH1 := KH1.on hb124
  replace KR0 := KR0.on hb124
  replace KX11 := KX11.on hb124
  replace KX16 := KX16.on hb124
  replace KW27 := KW27.on hb124
  replace KW31 := KW31.on hb124
  replace KG63m := KG63m.on hb124
  replace KG68m := KG68m.on hb124
  replace KX123 := KX123.on hb124
  go_wp2_with (first | (with_reducible refine load_lframe rfl _ rfl (w.heap.size) rfl _ s0 a0 n0 c0 KR0.here ?_))
  refine (implLayTunes_any s0 b122 n0 n0 P0 R0 b126 n1 n1 aa127 N1 N1 A1 Q1 x2 _ hs0 (by omega) HP0.out HR0.out (KX123.here) (by omega) HNB1.out HA1.out HQ1.out (KX128.here) hx2).mono ?_
  rw [← HR_0.out, ← HR_1.out, ← HR_2.out]
  rintro e w130 ⟨v131, v132, rfl, hb129, ho133, ho134, hsep135⟩
  obtain ⟨b136, c137, rfl, hz138⟩ := OwnS.at ho133
  have KW139 := kp_sec hz138; clear hz138 ho133
  obtain ⟨b140, c141, rfl, hz142⟩ := OwnN.at ho134
  have KW143 := kp_note hz142; clear hz142 ho134
  clear hsep135
  replace KB := KB.on hb129
  replace KH0 := KH0.on hb129
  replace KH1 := KH1.on hb129
  replace KR0 := KR0.on hb129
  replace KX11 := KX11.on hb129
  replace KX16 := KX16.on hb129
  replace KW27 := KW27.on hb129
  replace KW31 := KW31.on hb129
  replace KG63m := KG63m.on hb129
  replace KG68m := KG68m.on hb129
  replace KX123 := KX123.on hb129
  replace KX128 := KX128.on hb129
  go_wp2_with (first | (with_reducible refine load_lframe rfl _ rfl (w.heap.size) rfl _ s0 a0 n0 c0 KR0.here ?_))
  refine (eqSectionS_kp b136 b24 r0.length c137 c25 (fun i => (r0.getD i (0, 0)).1) (fun i => (r0.getD i (0, 0)).2) _ (by omega) (KW139.here) (KW27.here)).mono ?_
  rintro e w145 ⟨rfl, hb144⟩
  replace KB := KB.on hb144
  replace KH0 := KH0.on hb144
  replace KH1 := KH1.on hb144
  replace KR0 := KR0.on hb144
  replace KX11 := KX11.on hb144
  replace KX16 := KX16.on hb144
  replace KW27 := KW27.on hb144
  replace KW31 := KW31.on hb144
  replace KG63m := KG63m.on hb144
  replace KG68m := KG68m.on hb144
  replace KX123 := KX123.on hb144
  replace KX128 := KX128.on hb144
  replace KW139 := KW139.on hb144
  replace KW143 := KW143.on hb144
  go_wp2_with (first | (with_reducible refine load_lframe rfl _ rfl (w.heap.size) rfl _ s0 a0 n0 c0 KR0.here ?_))
  refine (eqTune_kp b140 b28 r1.length c141 c29 (fun i => (r1.getD i (0, 0)).1) (fun i => (r1.getD i (0, 0)).2) _ (by omega) (KW143.here) (KW31.here)).mono ?_
  rintro e w147 ⟨rfl, hb146⟩
  replace KB := KB.on hb146
  replace KH0 := KH0.on hb146
  replace KH1 := KH1.on hb146
  replace KR0 := KR0.on hb146
  replace KX11 := KX11.on hb146
  replace KX16 := KX16.on hb146
  replace KW27 := KW27.on hb146
  replace KW31 := KW31.on hb146
  replace KG63m := KG63m.on hb146
  replace KG68m := KG68m.on hb146
  replace KX123 := KX123.on hb146
  replace KX128 := KX128.on hb146
  replace KW139 := KW139.on hb146
  replace KW143 := KW143.on hb146
  go_wp2_with (first | (with_reducible refine load_lframe rfl _ rfl (w.heap.size) rfl _ s0 a0 n0 c0 KR0.here ?_))
  refine (heldSectionS_own w45.heap.size _ r0.length 1 _ (by omega) (by omega) (KG63m.here)).mono ?_
  rintro e w149 ⟨rfl, rfl⟩
  rw [HQ109.out]
  go_wp2_with (first | (with_reducible refine load_lframe rfl _ rfl (w.heap.size) rfl _ s0 a0 n0 c0 KR0.here ?_))
  refine (heldTune_own w45.heap.size _ r1.length q108 _ (by omega) (by omega) (KG68m.here)).mono ?_
  rintro e w151 ⟨rfl, rfl⟩
  rw [HQ115.out]
  go_wp2_with fail
  go_ret
  exact ⟨rfl, KB.here⟩
end Go.Proofs.Ytpfjmoodfodfhaa
