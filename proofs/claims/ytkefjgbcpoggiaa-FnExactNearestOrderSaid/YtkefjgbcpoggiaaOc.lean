/- OrderCost and CheckOrder, by the reference and by the program. No conditions. -/
import Derived.Test.YtkefjgbcpoggiaaOrd
import Derived.Test.YtkefjgbcpoggiaaInt
import Derived.Outline
namespace Go.Proofs.Ytkefjgbcpoggiaa
open Go.RowKit
set_option linter.unusedVariables false
set_option linter.unusedSimpArgs false

theorem lcode_zero_m {ok : Bool} {m : Nat} (h : lcode ok m = 0) : m ≤ 8 := by
  have := (lcode_zero h).2
  omega
theorem firstL_oc (ok : Bool) (m : Nat) (o : Bool) : firstL [lcode ok m, unl o 4] = if lcode ok m = 0 then unl o 4 else lcode ok m := by
  by_cases h : lcode ok m = 0
  · rw [firstL_zero _ h, if_pos h]
    cases o
    · rw [firstL_at _ (by rw [unl_false]; simp)]
    · rw [firstL_zero _ (unl_true 4), firstL_nil, unl_true]
  · rw [firstL_at _ h, if_neg h]
noncomputable def ocC (s : Int) (n : Nat) (P R : Nat → Int) (m : Nat) (L : Nat → Nat → Nat) (l : Nat) (Z : Nat → Int) : Int := if lcode (okAll s n P R m L) m = 0 then unl (ordB Z l m) 4 else lcode (okAll s n P R m L) m
noncomputable def ocV (s : Int) (n : Nat) (P R : Nat → Int) (m : Nat) (L : Nat → Nat → Nat) (l : Nat) (Z : Nat → Int) : Int := if lcode (okAll s n P R m L) m = 0 then (if ordB Z l m then oSum (cN L) Z (l - 1) else 0) else 0
noncomputable def ckV (s : Int) (n : Nat) (P R : Nat → Int) (m : Nat) (L : Nat → Nat → Nat) (l : Nat) (Z : Nat → Int) (x : Int) : Bool := if lcode (okAll s n P R m L) m = 0 then (if ordB Z l m then decide (oSum (cN L) Z (l - 1) ≤ x) else false) else false
section
variable {s : Int} {n : Nat} {P R : Nat → Int} {m : Nat} {L : Nat → Nat → Nat} {l : Nat} {Z : Nat → Int}
theorem oc_bad {x : Int} (hx : lcode (okAll s n P R m L) m = x) (h : ¬ x = 0) : ocV s n P R m L l Z = 0 ∧ ocC s n P R m L l Z = x := by unfold ocV ocC; rw [hx, if_neg h, if_neg h]; exact ⟨rfl, rfl⟩
theorem oc_no (h : lcode (okAll s n P R m L) m = 0) (ho : ordB Z l m = false) : ocV s n P R m L l Z = 0 ∧ ocC s n P R m L l Z = 4 := by unfold ocV ocC; rw [if_pos h, if_pos h, ho, unl_false]; exact ⟨rfl, rfl⟩
theorem oc_yes (h : lcode (okAll s n P R m L) m = 0) (ho : ordB Z l m = true) : ocV s n P R m L l Z = oSum (cN L) Z (l - 1) ∧ ocC s n P R m L l Z = 0 := by unfold ocV ocC; rw [if_pos h, if_pos h, ho, unl_true]; exact ⟨rfl, rfl⟩
theorem ocC_first : firstL [lcode (okAll s n P R m L) m, unl (ordB Z l m) 4] = ocC s n P R m L l Z := by rw [firstL_oc]; rfl
theorem ck_bad {x : Int} (hx : lcode (okAll s n P R m L) m = x) (h : ¬ x = 0) (y : Int) : ckV s n P R m L l Z y = false := by unfold ckV; rw [hx, if_neg h]
theorem ck_no (h : lcode (okAll s n P R m L) m = 0) (ho : ordB Z l m = false) (y : Int) : ckV s n P R m L l Z y = false := by unfold ckV; rw [if_pos h, ho]; rfl
theorem ck_yes (h : lcode (okAll s n P R m L) m = 0) (ho : ordB Z l m = true) (y : Int) : ckV s n P R m L l Z y = decide (oSum (cN L) Z (l - 1) ≤ y) := by unfold ckV; rw [if_pos h, ho]; rfl
end
attribute [irreducible] ocC ocV ckV
end Go.Proofs.Ytkefjgbcpoggiaa
