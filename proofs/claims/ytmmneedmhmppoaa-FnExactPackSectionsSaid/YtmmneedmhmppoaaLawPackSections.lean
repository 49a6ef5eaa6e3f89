/- The law FnExactPackSections: the walk, printed by lawgen.py. No conditions. -/
import Derived.Test.YtmmneedmhmppoaaKp
import Derived.Test.YtmmneedmhmppoaaPk
import Derived.Test.YtmmneedmhmppoaaMk2
import Derived.Outline
namespace Go.Proofs.Ytmmneedmhmppoaa
open Go.RowKit
set_option linter.unusedVariables false
set_option linter.unusedSimpArgs false

set_option maxRecDepth 100000 in
set_option maxHeartbeats 4000000 in
theorem lawPackSections (s0 : Int) (a0 : Option Addr) (n0 c0 : Nat) (P0 R0 : Nat → Int) (a1 : Option Addr) (n1 c1 : Nat) (Z1 : Nat → Int) (x2 : Int) (w : World) (hn0 : n0 ≤ 9223372036854775807) (hs0 : -32768 ≤ s0 ∧ s0 ≤ 32767) (hP0 : I8 P0) (hR0 : I8 R0) (hh0 : HamIn w a0 n0 P0 R0) (hn1 : n1 ≤ 9223372036854775807) (hZ1 : I64 Z1) (hh1 : IntIn w a1 n1 Z1) (hx2 : -9223372036854775808 ≤ x2 ∧ x2 ≤ 9223372036854775807) :
    Calls Try.prog 7 #[.agg #[.int .i16 s0, .slice a0 n0 c0], .slice a1 n1 c1, .int .i64 x2] w fun e w' => e = .returned (.bool true) ∧ Below w.heap.size w w' := by
  have HP0 := Lib.hid hP0; clear hP0
  have HR0 := Lib.hid hR0; clear hR0
  have HZ1 := Lib.hid hZ1; clear hZ1
  have KB := Kp.base w
  have KH0 := kp_hamIn hh0; clear hh0
  have KH1 := kp_intIn hh1; clear hh1
  replace KB := KB.alloc (.cells #[.int .i16 s0, .slice a0 n0 c0] 34)
  replace KH0 := KH0.alloc (.cells #[.int .i16 s0, .slice a0 n0 c0] 34)
  replace KH1 := KH1.alloc (.cells #[.int .i16 s0, .slice a0 n0 c0] 34)
  have KR0 := kp_new1 w #[.int .i16 s0, .slice a0 n0 c0] 34 (g := w.heap.size) (by simp)
  go_enter Try.func7, Try.ntmps7
  by_cases hg1 : (1048576 : Int) < n1
  · go_wp2_with (first | (with_reducible refine load_lframe rfl _ rfl (w.heap.size) rfl _ s0 a0 n0 c0 KR0.here ?_))
    go_ret
    exact ⟨rfl, KB.here⟩
  go_wp2_with (first | (with_reducible refine load_lframe rfl _ rfl (w.heap.size) rfl _ s0 a0 n0 c0 KR0.here ?_))
  generalize (w.alloc (.cells #[.int .i16 s0, .slice a0 n0 c0] 34)) = w1 at KB KH0 KH1 KR0 ⊢
  refine (szFrame_kp s0 a0 n0 c0 (1048576) _ (by omega) (by omega)).mono ?_
  rintro e w3 ⟨rfl, hb2⟩
  replace KB := KB.on hb2
  replace KH0 := KH0.on hb2
  replace KH1 := KH1.on hb2
  replace KR0 := KR0.on hb2
  by_cases hlw3 : (1048576 : Int) < n0
  · rw [szOf_lt hlw3]
    go_wp2_with (first | (with_reducible refine load_lframe rfl _ rfl (w.heap.size) rfl _ s0 a0 n0 c0 KR0.here ?_))
    go_ret
    exact ⟨rfl, KB.here⟩
  rw [szOf_ge (by omega)]
  go_wp2_with (first | (with_reducible refine load_lframe rfl _ rfl (w.heap.size) rfl _ s0 a0 n0 c0 KR0.here ?_))
  refine (toFrame_kp s0 a0 n0 c0 P0 R0 _ (by omega) hs0 (KH0.here)).mono ?_
  rintro e w5 ⟨b6, rfl, hb4, KX7⟩
  replace KB := KB.on hb4
  replace KH0 := KH0.on hb4
  replace KH1 := KH1.on hb4
  replace KR0 := KR0.on hb4
  go_wp2_with (first | (with_reducible refine load_lframe rfl _ rfl (w.heap.size) rfl _ s0 a0 n0 c0 KR0.here ?_))
  refine (toInt64S_kp a1 n1 c1 Z1 _ (by omega) (KH1.here)).mono ?_
  rintro e w9 ⟨b10, rfl, hb8, KX11⟩
  replace KB := KB.on hb8
  replace KH0 := KH0.on hb8
  replace KH1 := KH1.on hb8
  replace KR0 := KR0.on hb8
  replace KX7 := KX7.on hb8
  go_wp2_with (first | (with_reducible refine load_lframe rfl _ rfl (w.heap.size) rfl _ s0 a0 n0 c0 KR0.here ?_))
  obtain ⟨r0, hr0⟩ : ∃ r, r = pkV s0 n0 P0 R0 n1 Z1 x2 := ⟨_, rfl⟩
  obtain ⟨r1, hr1⟩ : ∃ r, r = pkC s0 n0 P0 R0 n1 Z1 x2 := ⟨_, rfl⟩
  have hlr0 : r0.length ≤ 1000000 := by rw [hr0]; apply pkV_len
  refine (specPackSections_any s0 b6 n0 n0 P0 R0 b10 n1 n1 Z1 x2 _ hs0 (by omega) HP0.out HR0.out (KX7.here) (by omega) HZ1.out (KX11.here) hx2).mono ?_
  rw [← hr0, ← hr1]
  rintro e w13 ⟨v14, rfl, hb12, ho15⟩
  have HR_0 := Lib.hid hr0; clear hr0
  have HR_1 := Lib.hid hr1; clear hr1
  obtain ⟨b16, c17, rfl, hz18⟩ := OwnS.at ho15
  have KW19 := kp_sec hz18; clear hz18 ho15
  replace KB := KB.on hb12
  replace KH0 := KH0.on hb12
  replace KH1 := KH1.on hb12
  replace KR0 := KR0.on hb12
  replace KX7 := KX7.on hb12
  replace KX11 := KX11.on hb12
  go_wp2_with (first | (with_reducible refine load_lframe rfl _ rfl (w.heap.size) rfl _ s0 a0 n0 c0 KR0.here ?_))
  replace KB := KB.fix
  replace KH0 := KH0.fix
  replace KH1 := KH1.fix
  replace KR0 := KR0.fix
  replace KX7 := KX7.fix
  replace KX11 := KX11.fix
  replace KW19 := KW19.fix
  refine (toFrame_own s0 a0 n0 c0 P0 R0 _ (by omega) hs0 (KH0.here)).mono ?_
  rintro e w21 ⟨b22, rfl, hb20, KX23, xs27, KO24⟩
  have hlt25 := (KO24.here).lt; have hsz26 := hb20.size
  replace KB := KB.on hb20
  replace KH0 := KH0.on hb20
  replace KH1 := KH1.on hb20
  replace KR0 := KR0.on hb20
  replace KX7 := KX7.on hb20
  replace KX11 := KX11.on hb20
  replace KW19 := KW19.on hb20
  replace KB := KB.alloc (.cells #[.int .i16 s0, .slice b22 n0 n0] 43)
  replace KH0 := KH0.alloc (.cells #[.int .i16 s0, .slice b22 n0 n0] 43)
  replace KH1 := KH1.alloc (.cells #[.int .i16 s0, .slice b22 n0 n0] 43)
  replace KR0 := KR0.alloc (.cells #[.int .i16 s0, .slice b22 n0 n0] 43)
  replace KX7 := KX7.alloc (.cells #[.int .i16 s0, .slice b22 n0 n0] 43)
  replace KX11 := KX11.alloc (.cells #[.int .i16 s0, .slice b22 n0 n0] 43)
  replace KW19 := KW19.alloc (.cells #[.int .i16 s0, .slice b22 n0 n0] 43)
  replace KX23 := KX23.alloc (.cells #[.int .i16 s0, .slice b22 n0 n0] 43)
  replace KO24 := KO24.alloc (.cells #[.int .i16 s0, .slice b22 n0 n0] 43)
  have KR29 := kp_new1 w21 #[.int .i16 s0, .slice b22 n0 n0] 43 (g := w21.heap.size) rfl
  have hsz30 : w21.heap.size < (w21.alloc (.cells #[.int .i16 s0, .slice b22 n0 n0] 43)).heap.size := by simp
  go_wp2_with (first | (with_reducible refine load_lframe rfl _ rfl (w.heap.size) rfl _ s0 a0 n0 c0 KR0.here ?_) | (with_reducible refine load_iframe rfl _ rfl (w21.heap.size) rfl _ s0 b22 n0 n0 KR29.here ?_))
  generalize (w21.alloc (.cells #[.int .i16 s0, .slice b22 n0 n0] 43)) = w31 at KB KH0 KH1 KR0 KX7 KX11 KW19 KX23 KO24 KR29 hsz30 ⊢
  refine (toInt64S_own a1 n1 c1 Z1 _ (by omega) (KH1.here)).mono ?_
  rintro e w33 ⟨b34, rfl, hb32, KX35, xs39, KO36⟩
  have hlt37 := (KO36.here).lt; have hsz38 := hb32.size
  replace KB := KB.on hb32
  replace KH0 := KH0.on hb32
  replace KH1 := KH1.on hb32
  replace KR0 := KR0.on hb32
  replace KX7 := KX7.on hb32
  replace KX11 := KX11.on hb32
  replace KW19 := KW19.on hb32
  replace KX23 := KX23.on hb32
  replace KO24 := KO24.on hb32
  replace KR29 := KR29.on hb32
  go_wp2_with (first | (with_reducible refine load_lframe rfl _ rfl (w.heap.size) rfl _ s0 a0 n0 c0 KR0.here ?_) | (with_reducible refine load_iframe rfl _ rfl (w21.heap.size) rfl _ s0 b22 n0 n0 KR29.here ?_))
  refine (implPackSections_any s0 b22 n0 n0 P0 R0 b34 n1 n1 Z1 x2 _ hs0 (by omega) HP0.out HR0.out (KX23.here) (by omega) HZ1.out (KX35.here) hx2).mono ?_
  rw [← HR_0.out, ← HR_1.out]
  rintro e w41 ⟨v42, rfl, hb40, ho43⟩
  obtain ⟨b44, c45, rfl, hz46⟩ := OwnS.at ho43
  have hlt48 := ho43.lt; have KG47 := kp_OwnS ho43; clear hz46
  clear ho43
  have hsz49 := hb40.size
  have hsz50 := hb40.size
  replace KB := KB.on hb40
  replace KH0 := KH0.on hb40
  replace KH1 := KH1.on hb40
  replace KR0 := KR0.on hb40
  replace KX7 := KX7.on hb40
  replace KX11 := KX11.on hb40
  replace KW19 := KW19.on hb40
  replace KX23 := KX23.on hb40
  replace KO24 := KO24.on hb40
  replace KR29 := KR29.on hb40
  replace KX35 := KX35.on hb40
  replace KO36 := KO36.on hb40
  go_wp2_with (first | (with_reducible refine load_lframe rfl _ rfl (w.heap.size) rfl _ s0 a0 n0 c0 KR0.here ?_) | (with_reducible refine load_iframe rfl _ rfl (w21.heap.size) rfl _ s0 b22 n0 n0 KR29.here ?_))
  refine (eqSectionS_kp b44 b16 r0.length c45 c17 (fun i => (r0.getD i (0, 0)).1) (fun i => (r0.getD i (0, 0)).2) _ (by omega) (KG47.here).readAt (KW19.here)).mono ?_
  rintro e w52 ⟨rfl, hb51⟩
  replace KB := KB.on hb51
  replace KH0 := KH0.on hb51
  replace KH1 := KH1.on hb51
  replace KR0 := KR0.on hb51
  replace KX7 := KX7.on hb51
  replace KX11 := KX11.on hb51
  replace KW19 := KW19.on hb51
  replace KX23 := KX23.on hb51
  replace KO24 := KO24.on hb51
  replace KR29 := KR29.on hb51
  replace KX35 := KX35.on hb51
  replace KO36 := KO36.on hb51
  replace KG47 := KG47.on hb51
  go_wp2_with (first | (with_reducible refine load_lframe rfl _ rfl (w.heap.size) rfl _ s0 a0 n0 c0 KR0.here ?_) | (with_reducible refine load_iframe rfl _ rfl (w21.heap.size) rfl _ s0 b22 n0 n0 KR29.here ?_))
  refine wp_region_S (fun V => Below w52.heap.size w52 V) (by kernel_rfl) (Below.refl _ _).drew ?_
  refine take_val 0 (.agg #[.int .i16 s0, .slice b22 n0 n0]) rfl (by kernel_rfl) (by kernel_rfl) (by kernel_rfl) (fun _ _ _ h => h) rfl (fun V hV => ex_load_iframe _ rfl (w21.heap.size) rfl _ s0 b22 n0 n0 (KR29.at hV)) (Below.refl _ _).drew ?_
  simp only [List.getElem_toArray, List.getElem_cons_zero, List.getElem_cons_succ, Act.put, List.setIfInBounds_toArray, List.set_cons_zero, List.set_cons_succ]
  refine take_val 1 (.agg #[.int .i16 s0, .slice a0 n0 c0]) rfl (by kernel_rfl) (by kernel_rfl) (by kernel_rfl) (fun _ _ _ h => h) rfl (fun V hV => ex_load_lframe _ rfl (w.heap.size) rfl _ s0 a0 n0 c0 (KR0.at hV)) (Below.refl _ _).drew ?_
  simp only [List.getElem_toArray, List.getElem_cons_zero, List.getElem_cons_succ, Act.put, List.setIfInBounds_toArray, List.set_cons_zero, List.set_cons_succ]
  have KQ53 := kp_start w52; have hdKQ53 := below_drew w52
  replace KB := KB.on hdKQ53
  replace KH0 := KH0.on hdKQ53
  replace KH1 := KH1.on hdKQ53
  replace KR0 := KR0.on hdKQ53
  replace KX7 := KX7.on hdKQ53
  replace KX11 := KX11.on hdKQ53
  replace KW19 := KW19.on hdKQ53
  replace KX23 := KX23.on hdKQ53
  replace KO24 := KO24.on hdKQ53
  replace KR29 := KR29.on hdKQ53
  replace KX35 := KX35.on hdKQ53
  replace KO36 := KO36.on hdKQ53
  replace KG47 := KG47.on hdKQ53
  clear hdKQ53
  refine step_call 2 24 #[.agg #[.int .i16 s0, .slice a0 n0 c0]] (by kernel_rfl) rfl rfl (by simp [go_sem]) ?_
  refine (toFrame_kp s0 a0 n0 c0 P0 R0 _ (by omega) hs0 (KH0.here)).mono ?_
  rintro e w55 ⟨b56, rfl, hb54, KX57⟩
  replace KB := KB.on hb54
  replace KH0 := KH0.on hb54
  replace KH1 := KH1.on hb54
  replace KR0 := KR0.on hb54
  replace KX7 := KX7.on hb54
  replace KX11 := KX11.on hb54
  replace KW19 := KW19.on hb54
  replace KX23 := KX23.on hb54
  replace KO24 := KO24.on hb54
  replace KR29 := KR29.on hb54
  replace KX35 := KX35.on hb54
  replace KO36 := KO36.on hb54
  replace KG47 := KG47.on hb54
  replace KQ53 := KQ53.on hb54
  refine ⟨_, rfl, KQ53.here, ?_⟩
  simp only [List.getElem_toArray, List.getElem_cons_zero, List.getElem_cons_succ, Act.put, List.setIfInBounds_toArray, List.set_cons_zero, List.set_cons_succ]
  refine step_call 3 28 #[.agg #[.int .i16 s0, .slice b22 n0 n0], .agg #[.int .i16 s0, .slice b56 n0 n0]] (by kernel_rfl) rfl rfl (by simp [go_sem]) ?_
  refine (eqFrame_kp s0 _ _ n0 n0 n0 P0 R0 _ (by omega) (KX23.here) (KX57.here)).mono ?_
  rintro e w59 ⟨rfl, hb58⟩
  replace KB := KB.on hb58
  replace KH0 := KH0.on hb58
  replace KH1 := KH1.on hb58
  replace KR0 := KR0.on hb58
  replace KX7 := KX7.on hb58
  replace KX11 := KX11.on hb58
  replace KW19 := KW19.on hb58
  replace KX23 := KX23.on hb58
  replace KO24 := KO24.on hb58
  replace KR29 := KR29.on hb58
  replace KX35 := KX35.on hb58
  replace KO36 := KO36.on hb58
  replace KG47 := KG47.on hb58
  replace KQ53 := KQ53.on hb58
  replace KX57 := KX57.on hb58
  refine ⟨_, rfl, KQ53.here, ?_⟩
  simp only [List.getElem_toArray, List.getElem_cons_zero, List.getElem_cons_succ, Act.put, List.setIfInBounds_toArray, List.set_cons_zero, List.set_cons_succ]
  refine take_val 4 (.bool false) rfl (by kernel_rfl) (by kernel_rfl) (by kernel_rfl) (fun _ _ _ h => h) rfl (fun V _ => by simp [go_sem]) KQ53.here ?_
  simp only [List.getElem_toArray, List.getElem_cons_zero, List.getElem_cons_succ, Act.put, List.setIfInBounds_toArray, List.set_cons_zero, List.set_cons_succ]
  refine wpAnyH_done (by kernel_rfl) ?_ _
  clear KQ53
  go_wp2_with (first | (with_reducible refine load_lframe rfl _ rfl (w.heap.size) rfl _ s0 a0 n0 c0 KR0.here ?_) | (with_reducible refine load_iframe rfl _ rfl (w21.heap.size) rfl _ s0 b22 n0 n0 KR29.here ?_))
  refine (toInt64S_kp a1 n1 c1 Z1 _ (by omega) (KH1.here)).mono ?_
  rintro e w61 ⟨b62, rfl, hb60, KX63⟩
  replace KB := KB.on hb60
  replace KH0 := KH0.on hb60
  replace KH1 := KH1.on hb60
  replace KR0 := KR0.on hb60
  replace KX7 := KX7.on hb60
  replace KX11 := KX11.on hb60
  replace KW19 := KW19.on hb60
  replace KX23 := KX23.on hb60
  replace KO24 := KO24.on hb60
  replace KR29 := KR29.on hb60
  replace KX35 := KX35.on hb60
  replace KO36 := KO36.on hb60
  replace KG47 := KG47.on hb60
  replace KX57 := KX57.on hb60
  go_wp2_with (first | (with_reducible refine load_lframe rfl _ rfl (w.heap.size) rfl _ s0 a0 n0 c0 KR0.here ?_) | (with_reducible refine load_iframe rfl _ rfl (w21.heap.size) rfl _ s0 b22 n0 n0 KR29.here ?_))
  refine (eqInt64S_kp _ _ n1 n1 n1 Z1 _ (by omega) (KX35.here) (KX63.here)).mono ?_
  rintro e w65 ⟨rfl, hb64⟩
  replace KB := KB.on hb64
  replace KH0 := KH0.on hb64
  replace KH1 := KH1.on hb64
  replace KR0 := KR0.on hb64
  replace KX7 := KX7.on hb64
  replace KX11 := KX11.on hb64
  replace KW19 := KW19.on hb64
  replace KX23 := KX23.on hb64
  replace KO24 := KO24.on hb64
  replace KR29 := KR29.on hb64
  replace KX35 := KX35.on hb64
  replace KO36 := KO36.on hb64
  replace KG47 := KG47.on hb64
  replace KX57 := KX57.on hb64
  replace KX63 := KX63.on hb64
  go_wp2_with (first | (with_reducible refine load_lframe rfl _ rfl (w.heap.size) rfl _ s0 a0 n0 c0 KR0.here ?_) | (with_reducible refine load_iframe rfl _ rfl (w21.heap.size) rfl _ s0 b22 n0 n0 KR29.here ?_))
  refine (markFrame_own w13.heap.size s0 b22 n0 n0 _ 1 _ (by omega) (by omega) (KO24.here)).mono ?_
  rintro e w67 ⟨rfl, hg68, _⟩
  obtain ⟨q70, hq70⟩ : ∃ q : Nat, 1 + n0 * 2 = q := ⟨_, rfl⟩
  rw [hq70]; have hq70b : q70 ≤ 110000000 := by omega
  clear hq70
  replace KB := KB.grown hg68 (fun k hk => by have := hlt25 k hk; omega)
  replace KH0 := KH0.grown hg68 (fun k hk => by have := hlt25 k hk; omega)
  replace KH1 := KH1.grown hg68 (fun k hk => by have := hlt25 k hk; omega)
  replace KR0 := KR0.grown hg68 (fun k hk => by have := hlt25 k hk; omega)
  replace KX7 := KX7.grown hg68 (fun k hk => by have := hlt25 k hk; omega)
  replace KX11 := KX11.grown hg68 (fun k hk => by have := hlt25 k hk; omega)
  replace KW19 := KW19.grown hg68 (fun k hk => by have := hlt25 k hk; omega)
  have hr := own_grown (KO36.here) hg68 (fun k hk => by have := hlt25 k hk; omega); replace KO36 := kp_ownR hr; clear hr
  have hr := own_grown (KG47.here) hg68 (fun k hk => by have := hlt25 k hk; omega); replace KG47 := kp_OwnS hr; clear hr
  clear KX23 KO24 KR29 KX35 KX57 KX63
  clear hg68
  go_wp2_with (first | (with_reducible refine load_lframe rfl _ rfl (w.heap.size) rfl _ s0 a0 n0 c0 KR0.here ?_))
  refine (markInt64S_own w31.heap.size _ n1 _ q70 _ (by omega) (by omega) (KO36.here)).mono ?_
  rintro e w72 ⟨rfl, hg73, _⟩
  obtain ⟨q75, hq75⟩ : ∃ q : Nat, q70 + n1 * 1 = q := ⟨_, rfl⟩
  rw [hq75]; have hq75b : q75 ≤ 220000000 := by omega
  clear hq75
  replace KB := KB.grown hg73 (fun k hk => by have := hlt37 k hk; omega)
  replace KH0 := KH0.grown hg73 (fun k hk => by have := hlt37 k hk; omega)
  replace KH1 := KH1.grown hg73 (fun k hk => by have := hlt37 k hk; omega)
  replace KR0 := KR0.grown hg73 (fun k hk => by have := hlt37 k hk; omega)
  replace KX7 := KX7.grown hg73 (fun k hk => by have := hlt37 k hk; omega)
  replace KX11 := KX11.grown hg73 (fun k hk => by have := hlt37 k hk; omega)
  replace KW19 := KW19.grown hg73 (fun k hk => by have := hlt37 k hk; omega)
  have hr := own_grown (KG47.here) hg73 (fun k hk => by have := hlt37 k hk; omega); replace KG47 := kp_OwnS hr; clear hr
  clear KO36
  clear hg73
  go_wp2_with (first | (with_reducible refine load_lframe rfl _ rfl (w.heap.size) rfl _ s0 a0 n0 c0 KR0.here ?_))
  refine (eqSectionS_kp b44 b16 r0.length c45 c17 (fun i => (r0.getD i (0, 0)).1) (fun i => (r0.getD i (0, 0)).2) _ (by omega) (KG47.here).readAt (KW19.here)).mono ?_
  rintro e w77 ⟨rfl, hb76⟩
  replace KB := KB.on hb76
  replace KH0 := KH0.on hb76
  replace KH1 := KH1.on hb76
  replace KR0 := KR0.on hb76
  replace KX7 := KX7.on hb76
  replace KX11 := KX11.on hb76
  replace KW19 := KW19.on hb76
  replace KG47 := KG47.on hb76
  go_wp2_with (first | (with_reducible refine load_lframe rfl _ rfl (w.heap.size) rfl _ s0 a0 n0 c0 KR0.here ?_))
  refine (markSectionS_own w33.heap.size _ r0.length _ 1 _ (by omega) (by omega) (KG47.here)).mono ?_
  rintro e w79 ⟨rfl, hg80, ho81⟩
  obtain ⟨q82, hq82⟩ : ∃ q : Nat, 1 + r0.length * 2 = q := ⟨_, rfl⟩
  rw [hq82]; have HQ83 := Lib.hid hq82; have hq82b : q82 ≤ 900000000 := by omega
  clear hq82
  replace KB := KB.grown hg80 (fun k hk => by have := hlt48 k hk; omega)
  replace KH0 := KH0.grown hg80 (fun k hk => by have := hlt48 k hk; omega)
  replace KH1 := KH1.grown hg80 (fun k hk => by have := hlt48 k hk; omega)
  replace KR0 := KR0.grown hg80 (fun k hk => by have := hlt48 k hk; omega)
  replace KX7 := KX7.grown hg80 (fun k hk => by have := hlt48 k hk; omega)
  replace KX11 := KX11.grown hg80 (fun k hk => by have := hlt48 k hk; omega)
  replace KW19 := KW19.grown hg80 (fun k hk => by have := hlt48 k hk; omega)
  have KG47m := kp_ownR ho81; clear ho81 hg80
  go_wp2_with (first | (with_reducible refine load_lframe rfl _ rfl (w.heap.size) rfl _ s0 a0 n0 c0 KR0.here ?_))
  refine (heldSectionS_own w33.heap.size _ r0.length 1 _ (by omega) (by omega) (KG47m.here)).mono ?_
  rintro e w85 ⟨rfl, rfl⟩
  rw [HQ83.out]
  go_wp2_with (first | (with_reducible refine load_lframe rfl _ rfl (w.heap.size) rfl _ s0 a0 n0 c0 KR0.here ?_))
  refine (toFrame_kp s0 a0 n0 c0 P0 R0 _ (by omega) hs0 (KH0.here)).mono ?_
  rintro e w87 ⟨b88, rfl, hb86, KX89⟩
  replace KB := KB.on hb86
  replace KH0 := KH0.on hb86
  replace KH1 := KH1.on hb86
  replace KR0 := KR0.on hb86
  replace KX7 := KX7.on hb86
  replace KX11 := KX11.on hb86
  replace KW19 := KW19.on hb86
  replace KG47m := KG47m.on hb86
  go_wp2_with (first | (with_reducible refine load_lframe rfl _ rfl (w.heap.size) rfl _ s0 a0 n0 c0 KR0.here ?_))
  refine (toInt64S_kp a1 n1 c1 Z1 _ (by omega) (KH1.here)).mono ?_
  rintro e w91 ⟨b92, rfl, hb90, KX93⟩
  replace KB := KB.on hb90
  replace KH0 := KH0.on hb90
  replace KH1 := KH1.on hb90
  replace KR0 := KR0.on hb90
  replace KX7 := KX7.on hb90
  replace KX11 := KX11.on hb90
  replace KW19 := KW19.on hb90
  replace KG47m := KG47m.on hb90
  replace KX89 := KX89.on hb90
  go_wp2_with (first | (with_reducible refine load_lframe rfl _ rfl (w.heap.size) rfl _ s0 a0 n0 c0 KR0.here ?_))
  refine (implPackSections_any s0 b88 n0 n0 P0 R0 b92 n1 n1 Z1 x2 _ hs0 (by omega) HP0.out HR0.out (KX89.here) (by omega) HZ1.out (KX93.here) hx2).mono ?_
  rw [← HR_0.out, ← HR_1.out]
  rintro e w95 ⟨v96, rfl, hb94, ho97⟩
  obtain ⟨b98, c99, rfl, hz100⟩ := OwnS.at ho97
  have KW101 := kp_sec hz100; clear hz100 ho97
  replace KB := KB.on hb94
  replace KH0 := KH0.on hb94
  replace KH1 := KH1.on hb94
  replace KR0 := KR0.on hb94
  replace KX7 := KX7.on hb94
  replace KX11 := KX11.on hb94
  replace KW19 := KW19.on hb94
  replace KG47m := KG47m.on hb94
  replace KX89 := KX89.on hb94
  replace KX93 := KX93.on hb94
  go_wp2_with (first | (with_reducible refine load_lframe rfl _ rfl (w.heap.size) rfl _ s0 a0 n0 c0 KR0.here ?_))
  refine (eqSectionS_kp b98 b16 r0.length c99 c17 (fun i => (r0.getD i (0, 0)).1) (fun i => (r0.getD i (0, 0)).2) _ (by omega) (KW101.here) (KW19.here)).mono ?_
  rintro e w103 ⟨rfl, hb102⟩
  replace KB := KB.on hb102
  replace KH0 := KH0.on hb102
  replace KH1 := KH1.on hb102
  replace KR0 := KR0.on hb102
  replace KX7 := KX7.on hb102
  replace KX11 := KX11.on hb102
  replace KW19 := KW19.on hb102
  replace KG47m := KG47m.on hb102
  replace KX89 := KX89.on hb102
  replace KX93 := KX93.on hb102
  replace KW101 := KW101.on hb102
  go_wp2_with (first | (with_reducible refine load_lframe rfl _ rfl (w.heap.size) rfl _ s0 a0 n0 c0 KR0.here ?_))
  refine (heldSectionS_own w33.heap.size _ r0.length 1 _ (by omega) (by omega) (KG47m.here)).mono ?_
  rintro e w105 ⟨rfl, rfl⟩
  rw [HQ83.out]
  go_wp2_with fail
  go_ret
  exact ⟨rfl, KB.here⟩
end Go.Proofs.Ytmmneedmhmppoaa
