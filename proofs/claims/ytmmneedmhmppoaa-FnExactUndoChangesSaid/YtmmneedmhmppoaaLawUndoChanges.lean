/- The law FnExactUndoChanges: the walk, printed by lawgen.py. No conditions. -/
import Derived.Test.YtmmneedmhmppoaaKp
import Derived.Test.YtmmneedmhmppoaaUn
import Derived.Test.YtmmneedmhmppoaaMk1
import Derived.Outline
namespace Go.Proofs.Ytmmneedmhmppoaa
open Go.RowKit
set_option linter.unusedVariables false
set_option linter.unusedSimpArgs false

set_option maxRecDepth 100000 in
set_option maxHeartbeats 4000000 in
theorem lawUndoChanges (a0 : Option Addr) (n0 c0 : Nat) (S0 K0 : Nat → Int) (U0 : Nat → Bool) (w : World) (hn0 : n0 ≤ 9223372036854775807) (hS0 : I16 S0) (hK0 : I8 K0) (hh0 : ChgIn w a0 n0 S0 K0 U0) :
    Calls Try.prog 3 #[.slice a0 n0 c0] w fun e w' => e = .returned (.bool true) ∧ Below w.heap.size w w' := by
  have HS0 := Lib.hid hS0; clear hS0
  have HK0 := Lib.hid hK0; clear hK0
  have KB := Kp.base w
  have KH0 := kp_chgIn hh0; clear hh0
  go_enter Try.func3, Try.ntmps3
  go_wp2_with fail
  refine (szChangeS_kp a0 n0 c0 (1048576) _ (by omega) (by omega)).mono ?_
  rintro e w2 ⟨rfl, hb1⟩
  replace KB := KB.on hb1
  replace KH0 := KH0.on hb1
  by_cases hlw2 : (1048576 : Int) < n0
  · rw [szOf_lt hlw2]
    go_wp2_with fail
    go_ret
    exact ⟨rfl, KB.here⟩
  rw [szOf_ge (by omega)]
  go_wp2_with fail
  refine (toChangeS_kp a0 n0 c0 S0 K0 U0 _ (by omega) (KH0.here)).mono ?_
  rintro e w4 ⟨b5, rfl, hb3, KX6⟩
  replace KB := KB.on hb3
  replace KH0 := KH0.on hb3
  go_wp2_with fail
  obtain ⟨r0, hr0⟩ : ∃ r, r = unV n0 S0 K0 U0 := ⟨_, rfl⟩
  obtain ⟨r1, hr1⟩ : ∃ r, r = unC n0 := ⟨_, rfl⟩
  have hlr0 : r0.length ≤ 1000000 := by rw [hr0]; apply unV_len
  refine (specUndoChanges_any b5 n0 n0 S0 K0 U0 _ (by omega) HS0.out HK0.out (KX6.here)).mono ?_
  rw [← hr0, ← hr1]
  rintro e w8 ⟨v9, rfl, hb7, ho10⟩
  have HR_0 := Lib.hid hr0; clear hr0
  have HR_1 := Lib.hid hr1; clear hr1
  obtain ⟨b11, c12, rfl, hz13⟩ := OwnC.at ho10
  have KW14 := kp_chg hz13; clear hz13 ho10
  replace KB := KB.on hb7
  replace KH0 := KH0.on hb7
  replace KX6 := KX6.on hb7
  go_wp2_with fail
  replace KB := KB.fix
  replace KH0 := KH0.fix
  replace KX6 := KX6.fix
  replace KW14 := KW14.fix
  refine (toChangeS_own a0 n0 c0 S0 K0 U0 _ (by omega) (KH0.here)).mono ?_
  rintro e w16 ⟨b17, rfl, hb15, KX18, xs22, KO19⟩
  have hlt20 := (KO19.here).lt; have hsz21 := hb15.size
  replace KB := KB.on hb15
  replace KH0 := KH0.on hb15
  replace KX6 := KX6.on hb15
  replace KW14 := KW14.on hb15
  go_wp2_with fail
  refine (implUndoChanges_any b17 n0 n0 S0 K0 U0 _ (by omega) HS0.out HK0.out (KX18.here)).mono ?_
  rw [← HR_0.out, ← HR_1.out]
  rintro e w24 ⟨v25, rfl, hb23, ho26⟩
  obtain ⟨b27, c28, rfl, hz29⟩ := OwnC.at ho26
  have hlt31 := ho26.lt; have KG30 := kp_OwnC ho26; clear hz29
  clear ho26
  have hsz32 := hb23.size
  have hsz33 := hb23.size
  replace KB := KB.on hb23
  replace KH0 := KH0.on hb23
  replace KX6 := KX6.on hb23
  replace KW14 := KW14.on hb23
  replace KX18 := KX18.on hb23
  replace KO19 := KO19.on hb23
  go_wp2_with fail
  refine (eqChangeS_kp b27 b11 r0.length c28 c12 (fun i => (r0.getD i dC).1) (fun i => (r0.getD i dC).2.1) (fun i => (r0.getD i dC).2.2) _ (by omega) (KG30.here).readAt (KW14.here)).mono ?_
  rintro e w35 ⟨rfl, hb34⟩
  replace KB := KB.on hb34
  replace KH0 := KH0.on hb34
  replace KX6 := KX6.on hb34
  replace KW14 := KW14.on hb34
  replace KX18 := KX18.on hb34
  replace KO19 := KO19.on hb34
  replace KG30 := KG30.on hb34
  go_wp2_with fail
  refine (toChangeS_kp a0 n0 c0 S0 K0 U0 _ (by omega) (KH0.here)).mono ?_
  rintro e w37 ⟨b38, rfl, hb36, KX39⟩
  replace KB := KB.on hb36
  replace KH0 := KH0.on hb36
  replace KX6 := KX6.on hb36
  replace KW14 := KW14.on hb36
  replace KX18 := KX18.on hb36
  replace KO19 := KO19.on hb36
  replace KG30 := KG30.on hb36
  go_wp2_with fail
  refine (eqChangeS_kp _ _ n0 n0 n0 S0 K0 U0 _ (by omega) (KX18.here) (KX39.here)).mono ?_
  rintro e w41 ⟨rfl, hb40⟩
  replace KB := KB.on hb40
  replace KH0 := KH0.on hb40
  replace KX6 := KX6.on hb40
  replace KW14 := KW14.on hb40
  replace KX18 := KX18.on hb40
  replace KO19 := KO19.on hb40
  replace KG30 := KG30.on hb40
  replace KX39 := KX39.on hb40
  go_wp2_with fail
  refine (markChangeS_own w8.heap.size _ n0 _ 1 _ (by omega) (by omega) (KO19.here)).mono ?_
  rintro e w43 ⟨rfl, hg44, _⟩
  obtain ⟨q46, hq46⟩ : ∃ q : Nat, 1 + n0 * 3 = q := ⟨_, rfl⟩
  rw [hq46]; have hq46b : q46 ≤ 110000000 := by omega
  clear hq46
  replace KB := KB.grown hg44 (fun k hk => by have := hlt20 k hk; omega)
  replace KH0 := KH0.grown hg44 (fun k hk => by have := hlt20 k hk; omega)
  replace KX6 := KX6.grown hg44 (fun k hk => by have := hlt20 k hk; omega)
  replace KW14 := KW14.grown hg44 (fun k hk => by have := hlt20 k hk; omega)
  have hr := own_grown (KG30.here) hg44 (fun k hk => by have := hlt20 k hk; omega); replace KG30 := kp_OwnC hr; clear hr
  clear KX18 KO19 KX39
  clear hg44
  go_wp2_with fail
  refine (eqChangeS_kp b27 b11 r0.length c28 c12 (fun i => (r0.getD i dC).1) (fun i => (r0.getD i dC).2.1) (fun i => (r0.getD i dC).2.2) _ (by omega) (KG30.here).readAt (KW14.here)).mono ?_
  rintro e w48 ⟨rfl, hb47⟩
  replace KB := KB.on hb47
  replace KH0 := KH0.on hb47
  replace KX6 := KX6.on hb47
  replace KW14 := KW14.on hb47
  replace KG30 := KG30.on hb47
  go_wp2_with fail
  refine (markChangeS_own w16.heap.size _ r0.length _ 1 _ (by omega) (by omega) (KG30.here)).mono ?_
  rintro e w50 ⟨rfl, hg51, ho52⟩
  obtain ⟨q53, hq53⟩ : ∃ q : Nat, 1 + r0.length * 3 = q := ⟨_, rfl⟩
  rw [hq53]; have HQ54 := Lib.hid hq53; have hq53b : q53 ≤ 900000000 := by omega
  clear hq53
  replace KB := KB.grown hg51 (fun k hk => by have := hlt31 k hk; omega)
  replace KH0 := KH0.grown hg51 (fun k hk => by have := hlt31 k hk; omega)
  replace KX6 := KX6.grown hg51 (fun k hk => by have := hlt31 k hk; omega)
  replace KW14 := KW14.grown hg51 (fun k hk => by have := hlt31 k hk; omega)
  have KG30m := kp_ownR ho52; clear ho52 hg51
  go_wp2_with fail
  refine (heldChangeS_own w16.heap.size _ r0.length 1 _ (by omega) (by omega) (KG30m.here)).mono ?_
  rintro e w56 ⟨rfl, rfl⟩
  rw [HQ54.out]
  go_wp2_with fail
  refine (toChangeS_kp a0 n0 c0 S0 K0 U0 _ (by omega) (KH0.here)).mono ?_
  rintro e w58 ⟨b59, rfl, hb57, KX60⟩
  replace KB := KB.on hb57
  replace KH0 := KH0.on hb57
  replace KX6 := KX6.on hb57
  replace KW14 := KW14.on hb57
  replace KG30m := KG30m.on hb57
  go_wp2_with fail
  refine (implUndoChanges_any b59 n0 n0 S0 K0 U0 _ (by omega) HS0.out HK0.out (KX60.here)).mono ?_
  rw [← HR_0.out, ← HR_1.out]
  rintro e w62 ⟨v63, rfl, hb61, ho64⟩
  obtain ⟨b65, c66, rfl, hz67⟩ := OwnC.at ho64
  have KW68 := kp_chg hz67; clear hz67 ho64
  replace KB := KB.on hb61
  replace KH0 := KH0.on hb61
  replace KX6 := KX6.on hb61
  replace KW14 := KW14.on hb61
  replace KG30m := KG30m.on hb61
  replace KX60 := KX60.on hb61
  go_wp2_with fail
  refine (eqChangeS_kp b65 b11 r0.length c66 c12 (fun i => (r0.getD i dC).1) (fun i => (r0.getD i dC).2.1) (fun i => (r0.getD i dC).2.2) _ (by omega) (KW68.here) (KW14.here)).mono ?_
  rintro e w70 ⟨rfl, hb69⟩
  replace KB := KB.on hb69
  replace KH0 := KH0.on hb69
  replace KX6 := KX6.on hb69
  replace KW14 := KW14.on hb69
  replace KG30m := KG30m.on hb69
  replace KX60 := KX60.on hb69
  replace KW68 := KW68.on hb69
  go_wp2_with fail
  refine (heldChangeS_own w16.heap.size _ r0.length 1 _ (by omega) (by omega) (KG30m.here)).mono ?_
  rintro e w72 ⟨rfl, rfl⟩
  rw [HQ54.out]
  go_wp2_with fail
  go_ret
  exact ⟨rfl, KB.here⟩
end Go.Proofs.Ytmmneedmhmppoaa
