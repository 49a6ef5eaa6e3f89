/- ChangesText: what is laid down. No conditions. -/
import Derived.Test.YteboefffkpcnaaaDoorQt
import Derived.Test.YteboefffkpcnaaaDoorChg
import Derived.Test.YteboefffkpcnaaaDoorFrame2
import Derived.Lib.Join
import Derived.Outline
namespace Go.Proofs.YteboefffkpcnaaaDoor
open Go.RowKit
set_option linter.unusedVariables false
set_option linter.unusedSimpArgs false

def sgn (u : Bool) : ByteArray := if u = true then ⟨#[43]⟩ else ⟨#[45]⟩
theorem sgn_yes : sgn true = ⟨#[43]⟩ := rfl
theorem sgn_no : sgn false = ⟨#[45]⟩ := rfl
theorem sgn_sz (u : Bool) : (sgn u).size = 1 := by cases u <;> rfl
/-- the text of a change -/
def ch (s k : Nat) (u : Bool) : ByteArray := sgn u ++ dg s ++ ⟨#[47]⟩ ++ dg k
theorem ch_def (s k : Nat) (u : Bool) : ch s k u = sgn u ++ dg s ++ ⟨#[47]⟩ ++ dg k := rfl
theorem ch_sz {s k : Nat} {u : Bool} (hs : s < 100) (hk : k < 100) : (ch s k u).size ≤ 6 := by
  unfold ch
  have h1 := dg_sz hs
  have h2 := dg_sz hk
  simp only [ByteArray.size_append, sgn_sz]
  show 1 + (dg s).size + 1 + (dg k).size ≤ 6
  omega
def cw (S K : Nat → Int) (U : Nat → Bool) (i : Nat) : ByteArray := ch (S i).toNat (K i).toNat (U i)
theorem cw_def (S K : Nat → Int) (U : Nat → Bool) (i : Nat) : cw S K U i = ch (S i).toNat (K i).toNat (U i) := rfl
def ct (W : Nat → ByteArray) : Nat → ByteArray
  | 0 => ⟨#[]⟩
  | k + 1 => (if 0 < k then ct W k ++ ⟨#[32]⟩ else ct W k) ++ W k
theorem ct_zero (W : Nat → ByteArray) : ct W 0 = ⟨#[]⟩ := rfl
theorem ct_succ (W : Nat → ByteArray) (k : Nat) : ct W (k + 1) = (if 0 < k then ct W k ++ ⟨#[32]⟩ else ct W k) ++ W k := rfl
theorem ct_sz {W : Nat → ByteArray} {n : Nat} (h : ∀ k, k < n → (W k).size ≤ 6) : ∀ k, k ≤ n → (ct W k).size ≤ 7 * k := by
  intro k
  induction k with
  | zero => intro _; rw [ct_zero]; exact Nat.le_refl _
  | succ k ih =>
    intro hk
    have h1 := ih (by omega)
    have h2 := h k (by omega)
    rw [ct_succ]
    split
    · rw [ByteArray.size_append, ByteArray.size_append]; show (ct W k).size + 1 + _ ≤ _; omega
    · rw [ByteArray.size_append]; omega
theorem join_snoc (x : List UInt8) (r : List (List UInt8)) (y sep : List UInt8) : Lib.join ((x :: r) ++ [y]) sep = Lib.join (x :: r) sep ++ sep ++ y := by
  rw [List.cons_append, Lib.join_cons, Lib.join_cons]
  simp [Lib.joinTail]
theorem join_ct (W : Nat → ByteArray) (n : Nat) : Lib.join (((List.range n).map W).map (·.data.toList)) [32] = (ct W n).data.toList := by
  induction n with
  | zero => rfl
  | succ k ih =>
    rw [List.range_succ, List.map_append, List.map_append, ct_succ]
    rcases Nat.eq_zero_or_pos k with h0 | h0
    · subst h0
      simp [Lib.join_one, ct_zero, ByteArray.data_append]
    · rw [if_pos h0]
      match hm : ((List.range k).map W).map (·.data.toList) with
      | [] => simp at hm; omega
      | x :: r =>
        rw [hm] at ih
        simp only [List.map_cons, List.map_nil]
        rw [hm, join_snoc, ih]
        simp [ByteArray.data_append]
/-- the change is plain -/
def chOK (s k : Int) : Bool := inB s 0 95 && inB k 0 23
theorem chOK_def (s k : Int) : chOK s k = (inB s 0 95 && inB k 0 23) := rfl
def vCh (n : Nat) (S K : Nat → Int) : Bool := decide (n ≤ 2400) && !anyB (fun k => !chOK (S k) (K k)) n
theorem vCh_iff {n : Nat} {S K : Nat → Int} : vCh n S K = true ↔ n ≤ 2400 ∧ ∀ k, k < n → chOK (S k) (K k) = true := by
  unfold vCh
  rw [Bool.and_eq_true, decide_eq_true_eq]
  refine and_congr_right fun _ => ?_
  constructor
  · intro h k hk
    cases hq : chOK (S k) (K k)
    · rw [anyB_iff.2 ⟨k, hk, by simp [hq]⟩] at h; exact absurd h (by simp)
    · rfl
  · intro h
    rw [anyB_false fun k hk => by rw [h k hk]; rfl]; rfl
theorem vCh_false {n : Nat} {S K : Nat → Int} (h : ¬ (n ≤ 2400 ∧ ∀ k, k < n → chOK (S k) (K k) = true)) : vCh n S K = false := by
  rw [← Bool.not_eq_true, vCh_iff]; exact h
theorem vCh_facts {n : Nat} {S K : Nat → Int} (h : vCh n S K = true) : n ≤ 2400 ∧ ∀ k, k < n → (0 ≤ S k ∧ S k ≤ 95) ∧ 0 ≤ K k ∧ K k ≤ 23 := by
  obtain ⟨h1, h2⟩ := vCh_iff.1 h
  refine ⟨h1, fun k hk => ?_⟩
  have := h2 k hk
  rw [chOK_def, Bool.and_eq_true] at this
  exact ⟨inB_iff.1 this.1, inB_iff.1 this.2⟩
theorem cw_sz {n : Nat} {S K : Nat → Int} {U : Nat → Bool} (h : ∀ k, k < n → (0 ≤ S k ∧ S k ≤ 95) ∧ 0 ≤ K k ∧ K k ≤ 23) : ∀ k, k < n → (cw S K U k).size ≤ 6 := fun k hk => by
  have := h k hk
  exact ch_sz (by omega) (by omega)
/-- the text of these changes -/
def ctx (n : Nat) (S K : Nat → Int) (U : Nat → Bool) : ByteArray := if vCh n S K = true then ct (cw S K U) n else ⟨#[]⟩
theorem ctx_no {n : Nat} {S K : Nat → Int} {U : Nat → Bool} (h : vCh n S K = false) : ctx n S K U = ⟨#[]⟩ := if_neg (by rw [h]; simp)
theorem ctx_yes {n : Nat} {S K : Nat → Int} {U : Nat → Bool} (h : vCh n S K = true) : ctx n S K U = ct (cw S K U) n := if_pos h
theorem ct_spec (acc u d e : ByteArray) : acc ++ u ++ (d ++ ⟨#[47]⟩ ++ e) = acc ++ (u ++ d ++ ⟨#[47]⟩ ++ e) := by
  simp [ByteArray.append_assoc]
attribute [irreducible] ctx ch ct cw vCh chOK sgn
end Go.Proofs.YteboefffkpcnaaaDoor
