/- The law FnExactShareGroups: the walk, printed by lawgen.py. No conditions. -/
import Derived.Test.YtpfjmoodfodfhaaKp
import Derived.Test.YtpfjmoodfodfhaaSi
import Derived.Test.YtpfjmoodfodfhaaSk
import Derived.Test.YtpfjmoodfodfhaaDl
import Derived.Test.YtpfjmoodfodfhaaHeld2
import Derived.Test.YtpfjmoodfodfhaaMk1
import Derived.Test.YtpfjmoodfodfhaaMk2
import Derived.Test.YtpfjmoodfodfhaaMk3
import Derived.Test.YtpfjmoodfodfhaaInt
import Derived.Outline
namespace Go.Proofs.Ytpfjmoodfodfhaa
open Go.RowKit
set_option linter.unusedVariables false
set_option linter.unusedSimpArgs false

set_option maxRecDepth 100000 in
set_option maxHeartbeats 4000000 in
theorem lawShareGroups (s0 : Int) (a0 : Option Addr) (n0 c0 : Nat) (P0 R0 : Nat → Int) (a1 : Option Addr) (n1 c1 : Nat) (L1 : Nat → Nat → Nat) (w : World) (hn0 : n0 ≤ 9223372036854775807) (hs0 : -32768 ≤ s0 ∧ s0 ≤ 32767) (hP0 : I8 P0) (hR0 : I8 R0) (hh0 : HamIn w a0 n0 P0 R0) (hn1 : n1 ≤ 9223372036854775807) (hL1 : L32 L1) (hh1 : DrumsIn w a1 n1 L1) :
    Calls Try.prog 4 #[.agg #[.int .i16 s0, .slice a0 n0 c0], .slice a1 n1 c1] w fun e w' => e = .returned (.bool true) ∧ Below w.heap.size w w' := by
  have HP0 := Lib.hid hP0; clear hP0
  have HR0 := Lib.hid hR0; clear hR0
  have HL1 := Lib.hid hL1; clear hL1
  have KB := Kp.base w
  have KH0 := kp_hamIn hh0; clear hh0
  have KH1 := kp_drumsIn hh1; clear hh1
  replace KB := KB.alloc (.cells #[.int .i16 s0, .slice a0 n0 c0] 40)
  replace KH0 := KH0.alloc (.cells #[.int .i16 s0, .slice a0 n0 c0] 40)
  replace KH1 := KH1.alloc (.cells #[.int .i16 s0, .slice a0 n0 c0] 40)
  have KR0 := kp_new1 w #[.int .i16 s0, .slice a0 n0 c0] 40 (g := w.heap.size) (by simp)
  go_enter Try.func4, Try.ntmps4
  go_wp2_with (first | (with_reducible refine load_lframe rfl _ rfl (w.heap.size) rfl _ s0 a0 n0 c0 KR0.here ?_))
  generalize (w.alloc (.cells #[.int .i16 s0, .slice a0 n0 c0] 40)) = w1 at KB KH0 KH1 KR0 ⊢
  refine (szFrame_kp s0 a0 n0 c0 (1048576) _ (by omega) (by omega)).mono ?_
  rintro e w3 ⟨rfl, hb2⟩
  replace KB := KB.on hb2
  replace KH0 := KH0.on hb2
  replace KH1 := KH1.on hb2
  replace KR0 := KR0.on hb2
  by_cases hlw3 : (1048576 : Int) < n0
  · rw [szOf_lt hlw3]
    go_wp2_with (first | (with_reducible refine load_lframe rfl _ rfl (w.heap.size) rfl _ s0 a0 n0 c0 KR0.here ?_))
    go_ret
    exact ⟨rfl, KB.here⟩
  rw [szOf_ge (by omega)]
  go_wp2_with (first | (with_reducible refine load_lframe rfl _ rfl (w.heap.size) rfl _ s0 a0 n0 c0 KR0.here ?_))
  refine (szDrumS_kp a1 n1 c1 (1048576 - (n0 : Int)) _ (by omega) (by omega)).mono ?_
  rintro e w5 ⟨rfl, hb4⟩
  replace KB := KB.on hb4
  replace KH0 := KH0.on hb4
  replace KH1 := KH1.on hb4
  replace KR0 := KR0.on hb4
  by_cases hlw5 : (1048576 - (n0 : Int) : Int) < n1
  · rw [szOf_lt hlw5]
    go_wp2_with (first | (with_reducible refine load_lframe rfl _ rfl (w.heap.size) rfl _ s0 a0 n0 c0 KR0.here ?_))
    go_ret
    exact ⟨rfl, KB.here⟩
  rw [szOf_ge (by omega)]
  go_wp2_with (first | (with_reducible refine load_lframe rfl _ rfl (w.heap.size) rfl _ s0 a0 n0 c0 KR0.here ?_))
  refine (toFrame_kp s0 a0 n0 c0 P0 R0 _ (by omega) hs0 (KH0.here)).mono ?_
  rintro e w7 ⟨b8, rfl, hb6, KX9⟩
  replace KB := KB.on hb6
  replace KH0 := KH0.on hb6
  replace KH1 := KH1.on hb6
  replace KR0 := KR0.on hb6
  go_wp2_with (first | (with_reducible refine load_lframe rfl _ rfl (w.heap.size) rfl _ s0 a0 n0 c0 KR0.here ?_))
  refine (toDrumS_kp a1 n1 c1 L1 _ (by omega) (KH1.here)).mono ?_
  rintro e w11 ⟨b12, rfl, hb10, KX13⟩
  replace KB := KB.on hb10
  replace KH0 := KH0.on hb10
  replace KH1 := KH1.on hb10
  replace KR0 := KR0.on hb10
  replace KX9 := KX9.on hb10
  go_wp2_with (first | (with_reducible refine load_lframe rfl _ rfl (w.heap.size) rfl _ s0 a0 n0 c0 KR0.here ?_))
  obtain ⟨r0, hr0⟩ : ∃ r, r = sgV s0 n0 P0 R0 n1 L1 := ⟨_, rfl⟩
  obtain ⟨r1, hr1⟩ : ∃ r, r = sgN s0 n0 P0 R0 n1 L1 := ⟨_, rfl⟩
  obtain ⟨r2, hr2⟩ : ∃ r, r = sgC s0 n0 P0 R0 n1 L1 := ⟨_, rfl⟩
  have hlr0 : r0.length ≤ 1000000 := by rw [hr0]; apply sgV_len
  refine (specShareGroups_any s0 b8 n0 n0 P0 R0 b12 n1 n1 L1 _ hs0 (by omega) HP0.out HR0.out (KX9.here) (by omega) HL1.out (KX13.here)).mono ?_
  rw [← hr0, ← hr1, ← hr2]
  rintro e w15 ⟨v16, rfl, hb14, ho17⟩
  have HR_0 := Lib.hid hr0; clear hr0
  have HR_1 := Lib.hid hr1; clear hr1
  have HR_2 := Lib.hid hr2; clear hr2
  obtain ⟨b18, c19, rfl, hz20⟩ := OwnI.at ho17
  have KW21 := kp_int hz20; clear hz20 ho17
  replace KB := KB.on hb14
  replace KH0 := KH0.on hb14
  replace KH1 := KH1.on hb14
  replace KR0 := KR0.on hb14
  replace KX9 := KX9.on hb14
  replace KX13 := KX13.on hb14
  go_wp2_with (first | (with_reducible refine load_lframe rfl _ rfl (w.heap.size) rfl _ s0 a0 n0 c0 KR0.here ?_))
  replace KB := KB.fix
  replace KH0 := KH0.fix
  replace KH1 := KH1.fix
  replace KR0 := KR0.fix
  replace KX9 := KX9.fix
  replace KX13 := KX13.fix
  replace KW21 := KW21.fix
  refine (toFrame_own s0 a0 n0 c0 P0 R0 _ (by omega) hs0 (KH0.here)).mono ?_
  rintro e w23 ⟨b24, rfl, hb22, KX25, xs29, KO26⟩
  have hlt27 := (KO26.here).lt; have hsz28 := hb22.size
  replace KB := KB.on hb22
  replace KH0 := KH0.on hb22
  replace KH1 := KH1.on hb22
  replace KR0 := KR0.on hb22
  replace KX9 := KX9.on hb22
  replace KX13 := KX13.on hb22
  replace KW21 := KW21.on hb22
  replace KB := KB.alloc (.cells #[.int .i16 s0, .slice b24 n0 n0] 27)
  replace KH0 := KH0.alloc (.cells #[.int .i16 s0, .slice b24 n0 n0] 27)
  replace KH1 := KH1.alloc (.cells #[.int .i16 s0, .slice b24 n0 n0] 27)
  replace KR0 := KR0.alloc (.cells #[.int .i16 s0, .slice b24 n0 n0] 27)
  replace KX9 := KX9.alloc (.cells #[.int .i16 s0, .slice b24 n0 n0] 27)
  replace KX13 := KX13.alloc (.cells #[.int .i16 s0, .slice b24 n0 n0] 27)
  replace KW21 := KW21.alloc (.cells #[.int .i16 s0, .slice b24 n0 n0] 27)
  replace KX25 := KX25.alloc (.cells #[.int .i16 s0, .slice b24 n0 n0] 27)
  replace KO26 := KO26.alloc (.cells #[.int .i16 s0, .slice b24 n0 n0] 27)
  have KR31 := kp_new1 w23 #[.int .i16 s0, .slice b24 n0 n0] 27 (g := w23.heap.size) rfl
  have hsz32 : w23.heap.size < (w23.alloc (.cells #[.int .i16 s0, .slice b24 n0 n0] 27)).heap.size := by simp
  go_wp2_with (first | (with_reducible refine load_lframe rfl _ rfl (w.heap.size) rfl _ s0 a0 n0 c0 KR0.here ?_) | (with_reducible refine load_iframe rfl _ rfl (w23.heap.size) rfl _ s0 b24 n0 n0 KR31.here ?_))
  generalize (w23.alloc (.cells #[.int .i16 s0, .slice b24 n0 n0] 27)) = w33 at KB KH0 KH1 KR0 KX9 KX13 KW21 KX25 KO26 KR31 hsz32 ⊢
  refine (toDrumS_own a1 n1 c1 L1 _ (by omega) (KH1.here)).mono ?_
  rintro e w35 ⟨b36, rfl, hb34, KX37, xs41, KO38⟩
  have hlt39 := (KO38.here).lt; have hsz40 := hb34.size
  replace KB := KB.on hb34
  replace KH0 := KH0.on hb34
  replace KH1 := KH1.on hb34
  replace KR0 := KR0.on hb34
  replace KX9 := KX9.on hb34
  replace KX13 := KX13.on hb34
  replace KW21 := KW21.on hb34
  replace KX25 := KX25.on hb34
  replace KO26 := KO26.on hb34
  replace KR31 := KR31.on hb34
  go_wp2_with (first | (with_reducible refine load_lframe rfl _ rfl (w.heap.size) rfl _ s0 a0 n0 c0 KR0.here ?_) | (with_reducible refine load_iframe rfl _ rfl (w23.heap.size) rfl _ s0 b24 n0 n0 KR31.here ?_))
  refine (implShareGroups_any s0 b24 n0 n0 P0 R0 b36 n1 n1 L1 _ hs0 (by omega) HP0.out HR0.out (KX25.here) (by omega) HL1.out (KX37.here)).mono ?_
  rw [← HR_0.out, ← HR_1.out, ← HR_2.out]
  rintro e w43 ⟨v44, rfl, hb42, ho45⟩
  obtain ⟨b46, c47, rfl, hz48⟩ := OwnI.at ho45
  have hlt50 := ho45.lt; have KG49 := kp_OwnI ho45; clear hz48
  clear ho45
  have hsz51 := hb42.size
  have hsz52 := hb42.size
  replace KB := KB.on hb42
  replace KH0 := KH0.on hb42
  replace KH1 := KH1.on hb42
  replace KR0 := KR0.on hb42
  replace KX9 := KX9.on hb42
  replace KX13 := KX13.on hb42
  replace KW21 := KW21.on hb42
  replace KX25 := KX25.on hb42
  replace KO26 := KO26.on hb42
  replace KR31 := KR31.on hb42
  replace KX37 := KX37.on hb42
  replace KO38 := KO38.on hb42
  go_wp2_with (first | (with_reducible refine load_lframe rfl _ rfl (w.heap.size) rfl _ s0 a0 n0 c0 KR0.here ?_) | (with_reducible refine load_iframe rfl _ rfl (w23.heap.size) rfl _ s0 b24 n0 n0 KR31.here ?_))
  refine (eqInt64S_kp b46 b18 r0.length c47 c19 (fun i => r0.getD i 0) _ (by omega) (KG49.here).readAt (KW21.here)).mono ?_
  rintro e w54 ⟨rfl, hb53⟩
  replace KB := KB.on hb53
  replace KH0 := KH0.on hb53
  replace KH1 := KH1.on hb53
  replace KR0 := KR0.on hb53
  replace KX9 := KX9.on hb53
  replace KX13 := KX13.on hb53
  replace KW21 := KW21.on hb53
  replace KX25 := KX25.on hb53
  replace KO26 := KO26.on hb53
  replace KR31 := KR31.on hb53
  replace KX37 := KX37.on hb53
  replace KO38 := KO38.on hb53
  replace KG49 := KG49.on hb53
  go_wp2_with (first | (with_reducible refine load_lframe rfl _ rfl (w.heap.size) rfl _ s0 a0 n0 c0 KR0.here ?_) | (with_reducible refine load_iframe rfl _ rfl (w23.heap.size) rfl _ s0 b24 n0 n0 KR31.here ?_))
  refine wp_region_S (fun V => Below w54.heap.size w54 V) (by kernel_rfl) (Below.refl _ _).drew ?_
  refine take_val 0 (.agg #[.int .i16 s0, .slice b24 n0 n0]) rfl (by kernel_rfl) (by kernel_rfl) (by kernel_rfl) (fun _ _ _ h => h) rfl (fun V hV => ex_load_iframe _ rfl (w23.heap.size) rfl _ s0 b24 n0 n0 (KR31.at hV)) (Below.refl _ _).drew ?_
  simp only [List.getElem_toArray, List.getElem_cons_zero, List.getElem_cons_succ, Act.put, List.setIfInBounds_toArray, List.set_cons_zero, List.set_cons_succ]
  refine take_val 1 (.agg #[.int .i16 s0, .slice a0 n0 c0]) rfl (by kernel_rfl) (by kernel_rfl) (by kernel_rfl) (fun _ _ _ h => h) rfl (fun V hV => ex_load_lframe _ rfl (w.heap.size) rfl _ s0 a0 n0 c0 (KR0.at hV)) (Below.refl _ _).drew ?_
  simp only [List.getElem_toArray, List.getElem_cons_zero, List.getElem_cons_succ, Act.put, List.setIfInBounds_toArray, List.set_cons_zero, List.set_cons_succ]
  have KQ55 := kp_start w54; have hdKQ55 := below_drew w54
  replace KB := KB.on hdKQ55
  replace KH0 := KH0.on hdKQ55
  replace KH1 := KH1.on hdKQ55
  replace KR0 := KR0.on hdKQ55
  replace KX9 := KX9.on hdKQ55
  replace KX13 := KX13.on hdKQ55
  replace KW21 := KW21.on hdKQ55
  replace KX25 := KX25.on hdKQ55
  replace KO26 := KO26.on hdKQ55
  replace KR31 := KR31.on hdKQ55
  replace KX37 := KX37.on hdKQ55
  replace KO38 := KO38.on hdKQ55
  replace KG49 := KG49.on hdKQ55
  clear hdKQ55
  refine step_call 2 21 #[.agg #[.int .i16 s0, .slice a0 n0 c0]] (by kernel_rfl) rfl rfl (by simp [go_sem]) ?_
  refine (toFrame_kp s0 a0 n0 c0 P0 R0 _ (by omega) hs0 (KH0.here)).mono ?_
  rintro e w57 ⟨b58, rfl, hb56, KX59⟩
  replace KB := KB.on hb56
  replace KH0 := KH0.on hb56
  replace KH1 := KH1.on hb56
  replace KR0 := KR0.on hb56
  replace KX9 := KX9.on hb56
  replace KX13 := KX13.on hb56
  replace KW21 := KW21.on hb56
  replace KX25 := KX25.on hb56
  replace KO26 := KO26.on hb56
  replace KR31 := KR31.on hb56
  replace KX37 := KX37.on hb56
  replace KO38 := KO38.on hb56
  replace KG49 := KG49.on hb56
  replace KQ55 := KQ55.on hb56
  refine ⟨_, rfl, KQ55.here, ?_⟩
  simp only [List.getElem_toArray, List.getElem_cons_zero, List.getElem_cons_succ, Act.put, List.setIfInBounds_toArray, List.set_cons_zero, List.set_cons_succ]
  refine step_call 3 13 #[.agg #[.int .i16 s0, .slice b24 n0 n0], .agg #[.int .i16 s0, .slice b58 n0 n0]] (by kernel_rfl) rfl rfl (by simp [go_sem]) ?_
  refine (eqFrame_kp s0 _ _ n0 n0 n0 P0 R0 _ (by omega) (KX25.here) (KX59.here)).mono ?_
  rintro e w61 ⟨rfl, hb60⟩
  replace KB := KB.on hb60
  replace KH0 := KH0.on hb60
  replace KH1 := KH1.on hb60
  replace KR0 := KR0.on hb60
  replace KX9 := KX9.on hb60
  replace KX13 := KX13.on hb60
  replace KW21 := KW21.on hb60
  replace KX25 := KX25.on hb60
  replace KO26 := KO26.on hb60
  replace KR31 := KR31.on hb60
  replace KX37 := KX37.on hb60
  replace KO38 := KO38.on hb60
  replace KG49 := KG49.on hb60
  replace KQ55 := KQ55.on hb60
  replace KX59 := KX59.on hb60
  refine ⟨_, rfl, KQ55.here, ?_⟩
  simp only [List.getElem_toArray, List.getElem_cons_zero, List.getElem_cons_succ, Act.put, List.setIfInBounds_toArray, List.set_cons_zero, List.set_cons_succ]
  refine take_val 4 (.bool false) rfl (by kernel_rfl) (by kernel_rfl) (by kernel_rfl) (fun _ _ _ h => h) rfl (fun V _ => by simp [go_sem]) KQ55.here ?_
  simp only [List.getElem_toArray, List.getElem_cons_zero, List.getElem_cons_succ, Act.put, List.setIfInBounds_toArray, List.set_cons_zero, List.set_cons_succ]
  refine wpAnyH_done (by kernel_rfl) ?_ _
  clear KQ55
  go_wp2_with (first | (with_reducible refine load_lframe rfl _ rfl (w.heap.size) rfl _ s0 a0 n0 c0 KR0.here ?_) | (with_reducible refine load_iframe rfl _ rfl (w23.heap.size) rfl _ s0 b24 n0 n0 KR31.here ?_))
  refine (toDrumS_kp a1 n1 c1 L1 _ (by omega) (KH1.here)).mono ?_
  rintro e w63 ⟨b64, rfl, hb62, KX65⟩
  replace KB := KB.on hb62
  replace KH0 := KH0.on hb62
  replace KH1 := KH1.on hb62
  replace KR0 := KR0.on hb62
  replace KX9 := KX9.on hb62
  replace KX13 := KX13.on hb62
  replace KW21 := KW21.on hb62
  replace KX25 := KX25.on hb62
  replace KO26 := KO26.on hb62
  replace KR31 := KR31.on hb62
  replace KX37 := KX37.on hb62
  replace KO38 := KO38.on hb62
  replace KG49 := KG49.on hb62
  replace KX59 := KX59.on hb62
  go_wp2_with (first | (with_reducible refine load_lframe rfl _ rfl (w.heap.size) rfl _ s0 a0 n0 c0 KR0.here ?_) | (with_reducible refine load_iframe rfl _ rfl (w23.heap.size) rfl _ s0 b24 n0 n0 KR31.here ?_))
  refine (eqDrumS_kp _ _ n1 n1 n1 L1 _ (by omega) (KX37.here) (KX65.here)).mono ?_
  rintro e w67 ⟨rfl, hb66⟩
  replace KB := KB.on hb66
  replace KH0 := KH0.on hb66
  replace KH1 := KH1.on hb66
  replace KR0 := KR0.on hb66
  replace KX9 := KX9.on hb66
  replace KX13 := KX13.on hb66
  replace KW21 := KW21.on hb66
  replace KX25 := KX25.on hb66
  replace KO26 := KO26.on hb66
  replace KR31 := KR31.on hb66
  replace KX37 := KX37.on hb66
  replace KO38 := KO38.on hb66
  replace KG49 := KG49.on hb66
  replace KX59 := KX59.on hb66
  replace KX65 := KX65.on hb66
  go_wp2_with (first | (with_reducible refine load_lframe rfl _ rfl (w.heap.size) rfl _ s0 a0 n0 c0 KR0.here ?_) | (with_reducible refine load_iframe rfl _ rfl (w23.heap.size) rfl _ s0 b24 n0 n0 KR31.here ?_))
  refine (markFrame_own w15.heap.size s0 b24 n0 n0 _ 1 _ (by omega) (by omega) (KO26.here)).mono ?_
  rintro e w69 ⟨rfl, hg70, _⟩
  obtain ⟨q72, hq72⟩ : ∃ q : Nat, 1 + n0 * 2 = q := ⟨_, rfl⟩
  rw [hq72]; have hq72b : q72 ≤ 110000000 := by omega
  clear hq72
  replace KB := KB.grown hg70 (fun k hk => by have := hlt27 k hk; omega)
  replace KH0 := KH0.grown hg70 (fun k hk => by have := hlt27 k hk; omega)
  replace KH1 := KH1.grown hg70 (fun k hk => by have := hlt27 k hk; omega)
  replace KR0 := KR0.grown hg70 (fun k hk => by have := hlt27 k hk; omega)
  replace KX9 := KX9.grown hg70 (fun k hk => by have := hlt27 k hk; omega)
  replace KX13 := KX13.grown hg70 (fun k hk => by have := hlt27 k hk; omega)
  replace KW21 := KW21.grown hg70 (fun k hk => by have := hlt27 k hk; omega)
  have hr := own_grown (KO38.here) hg70 (fun k hk => by have := hlt27 k hk; omega); replace KO38 := kp_ownR hr; clear hr
  have hr := own_grown (KG49.here) hg70 (fun k hk => by have := hlt27 k hk; omega); replace KG49 := kp_OwnI hr; clear hr
  clear KX25 KO26 KR31 KX37 KX59 KX65
  clear hg70
  go_wp2_with (first | (with_reducible refine load_lframe rfl _ rfl (w.heap.size) rfl _ s0 a0 n0 c0 KR0.here ?_))
  refine (markDrumS_own w33.heap.size _ n1 _ q72 _ (by omega) (by omega) (KO38.here)).mono ?_
  rintro e w74 ⟨rfl, hg75, _⟩
  obtain ⟨q77, hq77⟩ : ∃ q : Nat, q72 + n1 * 96 = q := ⟨_, rfl⟩
  rw [hq77]; have hq77b : q77 ≤ 220000000 := by omega
  clear hq77
  replace KB := KB.grown hg75 (fun k hk => by have := hlt39 k hk; omega)
  replace KH0 := KH0.grown hg75 (fun k hk => by have := hlt39 k hk; omega)
  replace KH1 := KH1.grown hg75 (fun k hk => by have := hlt39 k hk; omega)
  replace KR0 := KR0.grown hg75 (fun k hk => by have := hlt39 k hk; omega)
  replace KX9 := KX9.grown hg75 (fun k hk => by have := hlt39 k hk; omega)
  replace KX13 := KX13.grown hg75 (fun k hk => by have := hlt39 k hk; omega)
  replace KW21 := KW21.grown hg75 (fun k hk => by have := hlt39 k hk; omega)
  have hr := own_grown (KG49.here) hg75 (fun k hk => by have := hlt39 k hk; omega); replace KG49 := kp_OwnI hr; clear hr
  clear KO38
  clear hg75
  go_wp2_with (first | (with_reducible refine load_lframe rfl _ rfl (w.heap.size) rfl _ s0 a0 n0 c0 KR0.here ?_))
  refine (eqInt64S_kp b46 b18 r0.length c47 c19 (fun i => r0.getD i 0) _ (by omega) (KG49.here).readAt (KW21.here)).mono ?_
  rintro e w79 ⟨rfl, hb78⟩
  replace KB := KB.on hb78
  replace KH0 := KH0.on hb78
  replace KH1 := KH1.on hb78
  replace KR0 := KR0.on hb78
  replace KX9 := KX9.on hb78
  replace KX13 := KX13.on hb78
  replace KW21 := KW21.on hb78
  replace KG49 := KG49.on hb78
  go_wp2_with (first | (with_reducible refine load_lframe rfl _ rfl (w.heap.size) rfl _ s0 a0 n0 c0 KR0.here ?_))
  refine (markInt64S_own w35.heap.size _ r0.length _ 1 _ (by omega) (by omega) (KG49.here)).mono ?_
  rintro e w81 ⟨rfl, hg82, ho83⟩
  obtain ⟨q84, hq84⟩ : ∃ q : Nat, 1 + r0.length * 1 = q := ⟨_, rfl⟩
  rw [hq84]; have HQ85 := Lib.hid hq84; have hq84b : q84 ≤ 5000000 := by omega
  clear hq84
  replace KB := KB.grown hg82 (fun k hk => by have := hlt50 k hk; omega)
  replace KH0 := KH0.grown hg82 (fun k hk => by have := hlt50 k hk; omega)
  replace KH1 := KH1.grown hg82 (fun k hk => by have := hlt50 k hk; omega)
  replace KR0 := KR0.grown hg82 (fun k hk => by have := hlt50 k hk; omega)
  replace KX9 := KX9.grown hg82 (fun k hk => by have := hlt50 k hk; omega)
  replace KX13 := KX13.grown hg82 (fun k hk => by have := hlt50 k hk; omega)
  replace KW21 := KW21.grown hg82 (fun k hk => by have := hlt50 k hk; omega)
  have KG49m := kp_ownR ho83; clear ho83 hg82
  go_wp2_with (first | (with_reducible refine load_lframe rfl _ rfl (w.heap.size) rfl _ s0 a0 n0 c0 KR0.here ?_))
  refine (heldInt64S_own w35.heap.size _ r0.length 1 _ (by omega) (by omega) (KG49m.here)).mono ?_
  rintro e w87 ⟨rfl, rfl⟩
  rw [HQ85.out]
  go_wp2_with (first | (with_reducible refine load_lframe rfl _ rfl (w.heap.size) rfl _ s0 a0 n0 c0 KR0.here ?_))
  refine (toFrame_kp s0 a0 n0 c0 P0 R0 _ (by omega) hs0 (KH0.here)).mono ?_
  rintro e w89 ⟨b90, rfl, hb88, KX91⟩
  replace KB := KB.on hb88
  replace KH0 := KH0.on hb88
  replace KH1 := KH1.on hb88
  replace KR0 := KR0.on hb88
  replace KX9 := KX9.on hb88
  replace KX13 := KX13.on hb88
  replace KW21 := KW21.on hb88
  replace KG49m := KG49m.on hb88
  go_wp2_with (first | (with_reducible refine load_lframe rfl _ rfl (w.heap.size) rfl _ s0 a0 n0 c0 KR0.here ?_))
  refine (toDrumS_kp a1 n1 c1 L1 _ (by omega) (KH1.here)).mono ?_
  rintro e w93 ⟨b94, rfl, hb92, KX95⟩
  replace KB := KB.on hb92
  replace KH0 := KH0.on hb92
  replace KH1 := KH1.on hb92
  replace KR0 := KR0.on hb92
  replace KX9 := KX9.on hb92
  replace KX13 := KX13.on hb92
  replace KW21 := KW21.on hb92
  replace KG49m := KG49m.on hb92
  replace KX91 := KX91.on hb92
  go_wp2_with (first | (with_reducible refine load_lframe rfl _ rfl (w.heap.size) rfl _ s0 a0 n0 c0 KR0.here ?_))
  refine (implShareGroups_any s0 b90 n0 n0 P0 R0 b94 n1 n1 L1 _ hs0 (by omega) HP0.out HR0.out (KX91.here) (by omega) HL1.out (KX95.here)).mono ?_
  rw [← HR_0.out, ← HR_1.out, ← HR_2.out]
  rintro e w97 ⟨v98, rfl, hb96, ho99⟩
  obtain ⟨b100, c101, rfl, hz102⟩ := OwnI.at ho99
  have KW103 := kp_int hz102; clear hz102 ho99
  replace KB := KB.on hb96
  replace KH0 := KH0.on hb96
  replace KH1 := KH1.on hb96
  replace KR0 := KR0.on hb96
  replace KX9 := KX9.on hb96
  replace KX13 := KX13.on hb96
  replace KW21 := KW21.on hb96
  replace KG49m := KG49m.on hb96
  replace KX91 := KX91.on hb96
  replace KX95 := KX95.on hb96
  go_wp2_with (first | (with_reducible refine load_lframe rfl _ rfl (w.heap.size) rfl _ s0 a0 n0 c0 KR0.here ?_))
  refine (eqInt64S_kp b100 b18 r0.length c101 c19 (fun i => r0.getD i 0) _ (by omega) (KW103.here) (KW21.here)).mono ?_
  rintro e w105 ⟨rfl, hb104⟩
  replace KB := KB.on hb104
  replace KH0 := KH0.on hb104
  replace KH1 := KH1.on hb104
  replace KR0 := KR0.on hb104
  replace KX9 := KX9.on hb104
  replace KX13 := KX13.on hb104
  replace KW21 := KW21.on hb104
  replace KG49m := KG49m.on hb104
  replace KX91 := KX91.on hb104
  replace KX95 := KX95.on hb104
  replace KW103 := KW103.on hb104
  go_wp2_with (first | (with_reducible refine load_lframe rfl _ rfl (w.heap.size) rfl _ s0 a0 n0 c0 KR0.here ?_))
  refine (heldInt64S_own w35.heap.size _ r0.length 1 _ (by omega) (by omega) (KG49m.here)).mono ?_
  rintro e w107 ⟨rfl, rfl⟩
  rw [HQ85.out]
  go_wp2_with fail
  go_ret
  exact ⟨rfl, KB.here⟩
end Go.Proofs.Ytpfjmoodfodfhaa
