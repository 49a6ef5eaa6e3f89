/- The law FnExactChangesText: the walk, printed by lawgen.py. No conditions. -/
import Derived.Test.YteboefffkpcnaaaDoorKp
import Derived.Test.YteboefffkpcnaaaDoorCy
import Derived.Test.YteboefffkpcnaaaDoorMk1
import Derived.Outline
namespace Go.Proofs.YteboefffkpcnaaaDoor
open Go.RowKit
set_option linter.unusedVariables false
set_option linter.unusedSimpArgs false

set_option maxRecDepth 100000 in
set_option maxHeartbeats 4000000 in
theorem lawChangesText (a0 : Option Addr) (n0 c0 : Nat) (S0 K0 : Nat → Int) (U0 : Nat → Bool) (w : World) (hn0 : n0 ≤ 9223372036854775807) (hS0 : I16 S0) (hK0 : I8 K0) (hh0 : ChgIn w a0 n0 S0 K0 U0) :
    Calls Tryd.prog 5 #[.slice a0 n0 c0] w fun e w' => e = .returned (.bool true) ∧ Below w.heap.size w w' := by
  have HS0 := Lib.hid hS0; clear hS0
  have HK0 := Lib.hid hK0; clear hK0
  have KB := Kp.base w
  have KH0 := kp_chgIn hh0; clear hh0
  go_enter Tryd.func5, Tryd.ntmps5
  go_wp2_with fail
  refine (szChangeS_kp a0 n0 c0 (1048576) _ (by omega) (by omega)).mono ?_
  rintro e w2 ⟨rfl, hb1⟩
  replace KB := KB.on hb1
  replace KH0 := KH0.on hb1
  by_cases hlw2 : (1048576 : Int) < n0
  · rw [szOf_lt hlw2]
    go_wp2_with fail
    go_ret
    exact ⟨rfl, KB.here⟩
  rw [szOf_ge (by omega)]
  go_wp2_with fail
  refine (toChangeS_kp a0 n0 c0 S0 K0 U0 _ (by omega) (KH0.here)).mono ?_
  rintro e w4 ⟨b5, rfl, hb3, KX6⟩
  replace KB := KB.on hb3
  replace KH0 := KH0.on hb3
  go_wp2_with fail
  obtain ⟨r0, hr0⟩ : ∃ r, r = ctx n0 S0 K0 U0 := ⟨_, rfl⟩
  refine (specChangesText_any b5 n0 n0 S0 K0 U0 _ (by omega) HS0.out HK0.out (KX6.here)).mono ?_
  rw [← hr0]
  rintro e w8 ⟨rfl, hb7⟩
  have HR_0 := Lib.hid hr0; clear hr0
  replace KB := KB.on hb7
  replace KH0 := KH0.on hb7
  replace KX6 := KX6.on hb7
  go_wp2_with fail
  refine (toChangeS_kp a0 n0 c0 S0 K0 U0 _ (by omega) (KH0.here)).mono ?_
  rintro e w10 ⟨b11, rfl, hb9, KX12⟩
  replace KB := KB.on hb9
  replace KH0 := KH0.on hb9
  replace KX6 := KX6.on hb9
  go_wp2_with fail
  refine (implChangesText_any b11 n0 n0 S0 K0 U0 _ (by omega) HS0.out HK0.out (KX12.here)).mono ?_
  rw [← HR_0.out]
  rintro e w14 ⟨rfl, hb13⟩
  replace KB := KB.on hb13
  replace KH0 := KH0.on hb13
  replace KX6 := KX6.on hb13
  replace KX12 := KX12.on hb13
  go_wp2_with fail
  refine (toChangeS_kp a0 n0 c0 S0 K0 U0 _ (by omega) (KH0.here)).mono ?_
  rintro e w16 ⟨b17, rfl, hb15, KX18⟩
  replace KB := KB.on hb15
  replace KH0 := KH0.on hb15
  replace KX6 := KX6.on hb15
  replace KX12 := KX12.on hb15
  go_wp2_with fail
  refine (eqChangeS_kp _ _ n0 n0 n0 S0 K0 U0 _ (by omega) (KX12.here) (KX18.here)).mono ?_
  rintro e w20 ⟨rfl, hb19⟩
  replace KB := KB.on hb19
  replace KH0 := KH0.on hb19
  replace KX6 := KX6.on hb19
  replace KX12 := KX12.on hb19
  replace KX18 := KX18.on hb19
  go_wp2_with fail
  go_ret
  exact ⟨rfl, KB.here⟩
end Go.Proofs.YteboefffkpcnaaaDoor
