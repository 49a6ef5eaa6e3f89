/- Orders of drums: what an order costs, whether a list is one. No conditions. -/
import Derived.Test.YtlcfjeofphncgaaTab
import Derived.Outline
namespace Go.Proofs.Ytlcfjeofphncgaa
open Go.RowKit
set_option linter.unusedVariables false
set_option linter.unusedSimpArgs false

/-- what the first k steps of an order cost -/
def oSum (C : Nat → Nat → Int) (Z : Nat → Int) : Nat → Int
  | 0 => 0
  | k + 1 => oSum C Z k + C (Z k).toNat (Z (k + 1)).toNat
theorem oSum_zero (C : Nat → Nat → Int) (Z : Nat → Int) : oSum C Z 0 = 0 := rfl
theorem oSum_succ (C : Nat → Nat → Int) (Z : Nat → Int) (k : Nat) : oSum C Z (k + 1) = oSum C Z k + C (Z k).toNat (Z (k + 1)).toNat := rfl
theorem oSum_bound (L : Nat → Nat → Nat) (Z : Nat → Int) (k : Nat) : 0 ≤ oSum (cN L) Z k ∧ oSum (cN L) Z k ≤ 6144 * k := by
  induction k with
  | zero => rw [oSum_zero]; omega
  | succ k ih => rw [oSum_succ]; have := cN_bound L (Z k).toNat (Z (k + 1)).toNat; omega
attribute [irreducible] oSum
/-! ### lists that have each of the numbers below n once -/
theorem inj_surj : ∀ (n : Nat) (Z : Nat → Nat), (∀ i, i < n → Z i < n) → (∀ i j, i < n → j < n → Z i = Z j → i = j) → ∀ y, y < n → ∃ i, i < n ∧ Z i = y
  | 0, _, _, _, y, hy => absurd hy (by omega)
  | n + 1, Z, hr, hi, y, hy => by
    have hn := hr n (by omega)
    have key := inj_surj n (fun i => if Z i = n then Z n else Z i) (fun i h => by
      have h1 := hr i (by omega)
      by_cases e : Z i = n
      · simp only [if_pos e]
        by_cases e2 : Z n = n
        · exact absurd (hi i n (by omega) (by omega) (e.trans e2.symm)) (by omega)
        · omega
      · simp only [if_neg e]; omega) (fun i j h h' e => by
      by_cases e1 : Z i = n <;> by_cases e2 : Z j = n <;> simp only [e1, e2, if_true, if_false] at e
      · exact hi i j (by omega) (by omega) (e1.trans e2.symm)
      · exact absurd (hi n j (by omega) (by omega) e) (by omega)
      · exact absurd (hi i n (by omega) (by omega) e) (by omega)
      · exact hi i j (by omega) (by omega) e)
    by_cases h1 : y = Z n
    · exact ⟨n, by omega, h1.symm⟩
    by_cases h2 : y = n
    · obtain ⟨i, hin, he⟩ := key (Z n) (by omega)
      by_cases e : Z i = n
      · exact ⟨i, by omega, by omega⟩
      · simp only [if_neg e] at he
        exact absurd (hi i n (by omega) (by omega) he) (by omega)
    · obtain ⟨i, hin, he⟩ := key y (by omega)
      by_cases e : Z i = n
      · simp only [if_pos e] at he; omega
      · simp only [if_neg e] at he; exact ⟨i, by omega, he⟩
theorem surj_inj (n : Nat) (Z : Nat → Nat) (h : ∀ y, y < n → ∃ i, i < n ∧ Z i = y) : (∀ i, i < n → Z i < n) ∧ ∀ i j, i < n → j < n → Z i = Z j → i = j := by
  obtain ⟨f, hf⟩ : ∃ f : Nat → Nat, ∀ y, y < n → f y < n ∧ Z (f y) = y :=
    ⟨fun y => if hy : y < n then (h y hy).choose else 0, fun y hy => by simp only [dif_pos hy]; exact (h y hy).choose_spec⟩
  have hs := inj_surj n f (fun i hi => (hf i hi).1) (fun i j hi hj e => by rw [← (hf i hi).2, ← (hf j hj).2, e])
  refine ⟨fun i hi => ?_, fun i j hi hj e => ?_⟩
  · obtain ⟨y, hy, rfl⟩ := hs i hi
    rw [(hf y hy).2]; exact hy
  · obtain ⟨y, hy, rfl⟩ := hs i hi
    obtain ⟨y', hy', rfl⟩ := hs j hj
    rw [(hf y hy).2, (hf y' hy').2] at e
    rw [e]
/-- x is among the first l numbers -/
def hasZ (Z : Nat → Int) (l : Nat) (x : Int) : Prop := ∃ j, j < l ∧ Z j = x
/-- a list has each number below n, and no more -/
def ordP (Z : Nat → Int) (l n : Nat) : Prop := l = n ∧ ∀ i : Nat, i < n → hasZ Z l i
section
open Classical
noncomputable def hasB (Z : Nat → Int) (l : Nat) (x : Int) : Bool := decide (hasZ Z l x)
noncomputable def ordB (Z : Nat → Int) (l n : Nat) : Bool := decide (ordP Z l n)
theorem hasB_true {Z : Nat → Int} {l : Nat} {x : Int} (h : hasZ Z l x) : hasB Z l x = true := by unfold hasB; exact decide_eq_true h
theorem hasB_false {Z : Nat → Int} {l : Nat} {x : Int} (h : ¬ hasZ Z l x) : hasB Z l x = false := by unfold hasB; exact decide_eq_false h
theorem hasB_iff {Z : Nat → Int} {l : Nat} {x : Int} : hasB Z l x = true ↔ hasZ Z l x := by unfold hasB; exact decide_eq_true_iff
theorem ordB_true {Z : Nat → Int} {l n : Nat} (h : ordP Z l n) : ordB Z l n = true := by unfold ordB; exact decide_eq_true h
theorem ordB_false {Z : Nat → Int} {l n : Nat} (h : ¬ ordP Z l n) : ordB Z l n = false := by unfold ordB; exact decide_eq_false h
theorem ordB_iff {Z : Nat → Int} {l n : Nat} : ordB Z l n = true ↔ ordP Z l n := by unfold ordB; exact decide_eq_true_iff
end
theorem ordP_facts {Z : Nat → Int} {l n : Nat} (h : ordP Z l n) : l = n ∧ (∀ i, i < l → 0 ≤ Z i ∧ Z i ≤ (n : Int) - 1) ∧ ∀ i j, i < l → j < l → Z i = Z j → i = j := by
  obtain ⟨rfl, h⟩ := h
  have key := surj_inj l (fun i => (if 0 ≤ Z i then (Z i).toNat else l)) (fun y hy => by
    obtain ⟨j, hj, e⟩ := h y hy
    exact ⟨j, hj, by simp only [e]; rw [if_pos (by omega)]; omega⟩)
  have hin : ∀ i, i < l → 0 ≤ Z i ∧ Z i ≤ (l : Int) - 1 := fun i hi => by
    have h1 := key.1 i hi
    by_cases e : 0 ≤ Z i
    · simp only [if_pos e] at h1; omega
    · simp only [if_neg e] at h1; omega
  refine ⟨rfl, hin, fun i j hi hj e => key.2 i j hi hj ?_⟩
  simp only [e]
theorem ordP_of {Z : Nat → Int} {l n : Nat} (hl : l = n) (hr : ∀ i, i < l → 0 ≤ Z i ∧ Z i ≤ (n : Int) - 1) (hi : ∀ i j, i < l → j < l → Z i = Z j → i = j) : ordP Z l n := by
  subst hl
  refine ⟨rfl, fun y hy => ?_⟩
  obtain ⟨i, h1, h2⟩ := inj_surj l (fun i => (Z i).toNat) (fun i h => by have := hr i h; omega) (fun i j h h' e => hi i j h h' (by have h1 := hr i h; have h2 := hr j h'; have e' : (Z i).toNat = (Z j).toNat := e; omega)) y hy
  have h3 : (Z i).toNat = y := h2
  exact ⟨i, h1, by have := hr i h1; omega⟩
attribute [irreducible] hasB ordB
set_option maxRecDepth 100000 in
theorem sliceIndex_any (q : Option Addr) (l d : Nat) (Z : Nat → Int) (x : Int) (w : World) (hl : l ≤ 1000000000) (hz : IntAt w q l Z) :
    Calls Try.prog 101 #[.slice q l d, .int .i64 x] w fun e w' => (∃ r : Int, e = .returned (.int .i64 r) ∧ (0 ≤ r ↔ hasZ Z l x)) ∧ w = w' := by
  have HZ := Lib.hid hz; clear hz
  go_enter Try.func101, Try.ntmps101
  go_wp2
  go_loop [8] (fun i => ∃ k : Nat, k ≤ l ∧ i = .int .i64 k ∧ ∀ j, j < k → ¬ Z j = x) (fun i => l - (intOf i).toNat)
  case atStart => exact ⟨0, by omega, rfl, fun j hj => absurd hj (by omega)⟩
  case round =>
    obtain ⟨k, hk, rfl, hno⟩ := hrel
    have HNO := Lib.hid hno; clear hno
    by_cases hlt : k < l
    · have hx := IntAt.get HZ.out (show 0 < l by omega)
      obtain ⟨g, off, rfl, hg, hc⟩ := hx
      have c0 := hc k hlt
      clear hc
      have hk' : (k : Int) < l := by omega
      by_cases h : x = Z k
      · subst h
        go_wp2
        go_ret
        exact ⟨⟨_, rfl, by constructor; exact fun _ => ⟨k, hlt, rfl⟩; intro _; omega⟩, rfl⟩
      · go_wp2
        go_round
        case rel => exact ⟨k + 1, by omega, by go_num, fun j hj => if e : j = k then by subst e; exact fun e => h e.symm else HNO.out j (by omega)⟩
        case measure => simp [intOf]; omega
    · go_wp2
      go_ret
      exact ⟨⟨_, rfl, by constructor; intro h; omega; rintro ⟨j, hj, e⟩; exact absurd e (HNO.out j (by omega))⟩, rfl⟩
set_option maxRecDepth 100000 in
theorem sliceContains_any (q : Option Addr) (l d : Nat) (Z : Nat → Int) (x : Int) (w : World) (hl : l ≤ 1000000000) (hz : IntAt w q l Z) :
    Calls Try.prog 83 #[.slice q l d, .int .i64 x] w fun e w' => e = .returned (.bool (hasB Z l x)) ∧ w = w' := by
  go_enter Try.func83, Try.ntmps83
  go_wp2_with fail
  refine (sliceIndex_any q l d Z x w hl hz).mono ?_
  rintro e w' ⟨⟨r, rfl, hr⟩, rfl⟩
  have HR := Lib.hid hr; clear hr
  go_wp2
  go_ret
  refine ⟨ret_bool ?_, rfl⟩
  by_cases h : 0 ≤ r
  · rw [decide_eq_true h, hasB_true (HR.out.1 h)]
  · rw [decide_eq_false h, hasB_false (fun h' => h (HR.out.2 h'))]
theorem bit_iff {S x : Nat} : S / 2 ^ x % 2 = 1 ↔ S.testBit x = true := by
  rw [Nat.testBit_eq_decide_div_mod_eq]; simp
theorem w64_pow {x : Nat} (h : x < 8) : wrap64 ((2 : Int) ^ x) = ((2 ^ x : Nat) : Int) := by
  have hp : 2 ^ x ≤ 128 := Nat.pow_le_pow_right (by omega : 0 < 2) (by omega : x ≤ 7)
  have e : (2 : Int) ^ x = ((2 ^ x : Nat) : Int) := by rw [Int.natCast_pow]; rfl
  rw [e]
  clear e
  generalize 2 ^ x = b at hp ⊢
  unfold wrap64
  omega
theorem seen_or {S x : Nat} (hS : S < 256) (h : x < 8) : bits .or .i64 (S : Int) (wrap64 ((2 : Int) ^ x)) = ((S ||| 2 ^ x : Nat) : Int) := by
  rw [w64_pow h]
  have hp : 2 ^ x ≤ 128 := Nat.pow_le_pow_right (by omega : 0 < 2) (by omega : x ≤ 7)
  exact (bits_nat .i64 8 (by decide) (fun n h0 h1 => i64_id (by omega)) S (2 ^ x) (by omega) (by omega)).2
theorem seen_bit {S x : Nat} : (((S : Int) / 2 ^ x).tmod 2 == 1) = S.testBit x := by
  have e : ((S : Int) / 2 ^ x) = ((S / 2 ^ x : Nat) : Int) := by
    rw [Int.natCast_ediv, Int.natCast_pow]; rfl
  rw [e, show ((S / 2 ^ x : Nat) : Int).tmod 2 = ((S / 2 ^ x % 2 : Nat) : Int) from (Int.ofNat_tmod _ 2).symm, Nat.testBit_eq_decide_div_mod_eq]
  rcases Nat.mod_two_eq_zero_or_one (S / 2 ^ x) with h | h <;> rw [h] <;> rfl
end Go.Proofs.Ytlcfjeofphncgaa
