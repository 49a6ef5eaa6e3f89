/- How many hammers are needed: plain laws. No conditions. -/
import Derived.Test.YteffaghcjpeblaaOwn
import Derived.Test.YteffaghcjpeblaaOwnL
import Derived.Test.YteffaghcjpeblaaOwnI
import Derived.Test.YteffaghcjpeblaaFrame2
import Derived.Outline
namespace Go.Proofs.Yteffaghcjpeblaa
open Go.RowKit
set_option linter.unusedVariables false
set_option linter.unusedSimpArgs false

/-- two pins are too near for one hammer -/
def nrB (s r a b : Int) : Bool := decide ((b - a + s) % s < r) || decide ((a - b + s) % s < r)
theorem nrB_l {s r a b : Int} (h : (b - a + s) % s < r) : nrB s r a b = true := by unfold nrB; rw [decide_eq_true h]; rfl
theorem nrB_r {s r a b : Int} (h : ¬ (b - a + s) % s < r) : nrB s r a b = decide ((a - b + s) % s < r) := by unfold nrB; rw [decide_eq_false h]; rfl
attribute [irreducible] nrB
section
variable (s r : Int) (ats : List Int)
/-- the pin k stands in the way of giving the next pin to the hammer h -/
def inWay (given : List Int) (h : Int) (k : Nat) : Bool := decide (given.getD k 0 = h) && nrB s r (ats.getD k 0) (ats.getD given.length 0)
/-- no pin stands in the way -/
def okG (given : List Int) (h : Int) : Bool := !anyB (inWay s r ats given h) given.length
/-- how many hammers may be tried -/
def tryN (used most : Nat) : Nat := if used + 1 ≤ most then used + 1 else most
/-- how many are used then -/
def usN (used h : Nat) : Nat := if used < h + 1 then h + 1 else used
/-- pins from one on can be parted -/
def spl (most : Nat) : Nat → List Int → Nat → Bool
  | 0, _, _ => true
  | f + 1, given, used => anyB (fun h => okG s r ats given (h : Int) && spl most f (given ++ [(h : Int)]) (usN used h)) (tryN used most)
/-- the hammer h is tried -/
def tryB (most : Nat) (f : Nat) (given : List Int) (used : Nat) (h : Nat) : Bool := okG s r ats given (h : Int) && spl s r ats most f (given ++ [(h : Int)]) (usN used h)
theorem spl_zero (most : Nat) (given : List Int) (used : Nat) : spl s r ats most 0 given used = true := rfl
theorem spl_succ (most : Nat) (f : Nat) (given : List Int) (used : Nat) : spl s r ats most (f + 1) given used = anyB (tryB s r ats most f given used) (tryN used most) := rfl
theorem tryB_no {most f used h : Nat} {given : List Int} (hg : okG s r ats given (h : Int) = false) : tryB s r ats most f given used h = false := by unfold tryB; rw [hg]; rfl
theorem tryB_yes {most f used h : Nat} {given : List Int} (hg : okG s r ats given (h : Int) = true) : tryB s r ats most f given used h = spl s r ats most f (given ++ [(h : Int)]) (usN used h) := by unfold tryB; rw [hg]; rfl
theorem usN_lt {used h : Nat} (hh : used < h + 1) : usN used h = h + 1 := if_pos hh
theorem usN_ge {used h : Nat} (hh : ¬ used < h + 1) : usN used h = used := if_neg hh
theorem usN_le {used h most : Nat} (h1 : used ≤ most) (h2 : h < most) : usN used h ≤ most := by unfold usN; split <;> omega
theorem tryN_lt {used most h : Nat} : h < tryN used most ↔ h ≤ used ∧ h < most := by unfold tryN; split <;> omega
/-- the most hammers that are needed are as many as there are pins -/
theorem spl_all (most : Nat) : ∀ (f : Nat) (given : List Int) (used : Nat), used ≤ given.length → given.length + f ≤ most → (∀ x ∈ given, x < (used : Int)) → spl s r ats most f given used = true := by
  intro f
  induction f with
  | zero => intro _ _ _ _ _; rfl
  | succ f ih =>
    intro given used h1 h2 h3
    rw [spl_succ, anyB_iff]
    refine ⟨used, tryN_lt.2 ⟨Nat.le_refl _, by omega⟩, ?_⟩
    unfold tryB
    rw [Bool.and_eq_true]
    constructor
    · unfold okG
      rw [anyB_false fun k hk => ?_]
      · rfl
      · unfold inWay
        have : given.getD k 0 < (used : Int) := by
          have e : given.getD k 0 = given[k] := by simp [List.getD, hk]
          rw [e]; exact h3 _ (List.getElem_mem hk)
        rw [decide_eq_false (by omega)]; rfl
    · rw [usN_lt (by omega)]
      refine ih _ _ (by simp; omega) (by simp; omega) fun x hx => ?_
      rcases List.mem_append.1 hx with h | h
      · have := h3 x h; omega
      · rw [List.mem_singleton.1 h]; omega
/-- the least number of hammers -/
def ndN : Nat → Nat
  | 0 => 0
  | k + 1 => if ndN k < k then ndN k else if spl s r ats k ats.length [] 0 = true then k else k + 1
def needN : Nat := ndN s r ats ats.length
theorem ndN_none : ∀ k : Nat, (∀ y : Nat, y < k → spl s r ats y ats.length [] 0 = false) → ndN s r ats k = k := by
  intro k
  induction k with
  | zero => intro _; rfl
  | succ k ih =>
    intro h
    have h1 := ih fun y hy => h y (by omega)
    have h2 : ¬ spl s r ats k ats.length [] 0 = true := by rw [h k (by omega)]; simp
    rw [ndN, h1, if_neg (by omega), if_neg h2]
theorem ndN_at {x : Nat} (hx : spl s r ats x ats.length [] 0 = true) (hno : ∀ y : Nat, y < x → spl s r ats y ats.length [] 0 = false) : ∀ d, ndN s r ats (x + 1 + d) = x := by
  intro d
  induction d with
  | zero => rw [Nat.add_zero, ndN, ndN_none s r ats x hno, if_neg (by omega), if_pos hx]
  | succ d ih => rw [← Nat.add_assoc, ndN, ih, if_pos (by omega)]
theorem need_at {x : Nat} (hx : spl s r ats x ats.length [] 0 = true) (hno : ∀ y : Nat, y < x → spl s r ats y ats.length [] 0 = false) (hl : x ≤ ats.length) : needN s r ats = x := by
  unfold needN
  by_cases h : x = ats.length
  · rw [← h, ndN_none s r ats x hno]
  · rw [show ats.length = x + 1 + (ats.length - x - 1) by omega]; exact ndN_at s r ats hx hno _
theorem need_full : spl s r ats ats.length ats.length [] 0 = true := spl_all s r ats _ _ _ _ (by simp) (by simp) (fun x hx => absurd hx List.not_mem_nil)
theorem ndN_le : ∀ k, ndN s r ats k ≤ k := by
  intro k
  induction k with
  | zero => exact Nat.le_refl _
  | succ k ih => rw [ndN]; split; omega; split <;> omega
theorem need_le : needN s r ats ≤ ats.length := ndN_le s r ats _
variable {s r ats}
theorem inWay_no {given : List Int} {h : Int} {k : Nat} (hg : ¬ given.getD k 0 = h) : inWay s r ats given h k = false := by unfold inWay; rw [decide_eq_false hg]; rfl
theorem inWay_yes {given : List Int} {h : Int} {k : Nat} (hg : given.getD k 0 = h) : inWay s r ats given h k = nrB s r (ats.getD k 0) (ats.getD given.length 0) := by unfold inWay; rw [decide_eq_true hg]; rfl
theorem okG_bad {given : List Int} {h : Int} {k : Nat} (hk : k < given.length) (hw : inWay s r ats given h k = true) : okG s r ats given h = false := by unfold okG; rw [anyB_iff.2 ⟨k, hk, hw⟩]; rfl
theorem okG_good {given : List Int} {h : Int} (hw : ∀ k, k < given.length → inWay s r ats given h k = false) : okG s r ats given h = true := by unfold okG; rw [anyB_false hw]; rfl
end
attribute [irreducible] okG tryN usN spl tryB ndN needN inWay
end Go.Proofs.Yteffaghcjpeblaa
