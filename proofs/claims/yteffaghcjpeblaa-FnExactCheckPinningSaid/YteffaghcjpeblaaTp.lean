/- The tracks of a tune on a drum: plain laws; by the reference. No conditions. -/
import Derived.Test.YteffaghcjpeblaaSo
import Derived.Test.YteffaghcjpeblaaPl
import Derived.Test.YteffaghcjpeblaaCost
import Derived.Test.YteffaghcjpeblaaTu
import Derived.Test.YteffaghcjpeblaaDrum
import Derived.Test.YteffaghcjpeblaaOwnI
import Derived.Test.YteffaghcjpeblaaCl
import Derived.Test.YteffaghcjpeblaaNew
import Derived.ChangeKeysEq
import Derived.Outline
namespace Go.Proofs.Yteffaghcjpeblaa
open Go.RowKit
set_option linter.unusedVariables false
set_option linter.unusedSimpArgs false

/-! The tracks of a tune that is pinned on a drum: plain laws. No conditions. -/
/-- a pin is taken out -/
def clrP (D : Nat → Nat) (k t : Nat) : Nat → Nat := upd D k (andn (D k) (2 ^ t))
theorem clrP_def (D : Nat → Nat) (k t : Nat) : clrP D k t = upd D k (andn (D k) (2 ^ t)) := rfl
theorem clrP_32 {D : Nat → Nat} (h : D32 D) (k t : Nat) : D32 (clrP D k t) := upd_32 h (andn_lt32 (h k))
theorem hasPin_bit (D : Nat → Nat) (k t : Nat) : hasPin D k t = (D k).testBit t := by unfold hasPin; rfl
theorem hasPin_clr (D : Nat → Nat) (k t k' t' : Nat) : hasPin (clrP D k t) k' t' = (hasPin D k' t' && !(decide (k' = k) && decide (t' = t))) := by
  rw [hasPin_bit, hasPin_bit]
  unfold clrP upd
  by_cases h : k' = k
  · subst h
    rw [if_pos rfl, andn_testBit, Nat.testBit_two_pow]
    by_cases h2 : t' = t
    · subst h2; simp
    · have h3 : ¬ t = t' := fun e => h2 e.symm
      simp [h2, h3]
  · rw [if_neg h]; simp [h]
theorem pop_clr : ∀ (n x t : Nat), t < n → x.testBit t = true → pop n (andn x (2 ^ t)) + 1 = pop n x := by
  intro n
  induction n with
  | zero => intro x t h; omega
  | succ n ih =>
    intro x t h hb
    rw [pop_succ, pop_succ]
    cases t with
    | zero =>
      have e1 : andn x (2 ^ 0) % 2 = 0 := by
        have h0 : (andn x (2 ^ 0)).testBit 0 = false := by rw [andn_testBit]; simp
        rw [Nat.testBit_zero] at h0
        have := of_decide_eq_false h0
        omega
      have e2 : andn x (2 ^ 0) / 2 = x / 2 := by
        apply Nat.eq_of_testBit_eq
        intro i
        rw [← Nat.testBit_add_one, ← Nat.testBit_add_one, andn_testBit, Nat.testBit_two_pow]
        simp
      have e3 : x % 2 = 1 := by rw [Nat.testBit_zero] at hb; exact of_decide_eq_true hb
      rw [e1, e2, e3]; omega
    | succ t =>
      have e1 : andn x (2 ^ (t + 1)) % 2 = x % 2 := by
        have h0 : (andn x (2 ^ (t + 1))).testBit 0 = x.testBit 0 := by rw [andn_testBit, Nat.testBit_two_pow]; simp
        rw [Nat.testBit_zero, Nat.testBit_zero, decide_eq_decide] at h0
        omega
      have e2 : andn x (2 ^ (t + 1)) / 2 = andn (x / 2) (2 ^ t) := by
        apply Nat.eq_of_testBit_eq
        intro i
        rw [← Nat.testBit_add_one, andn_testBit, andn_testBit, ← Nat.testBit_add_one, Nat.testBit_two_pow, Nat.testBit_two_pow]
        simp
      rw [e1, e2]
      have := ih (x / 2) t (by omega) (by rw [← Nat.testBit_add_one]; exact hb)
      omega
theorem pop_zero_iff : ∀ (n x : Nat), pop n x = 0 → x % 2 ^ n = 0 := by
  intro n
  induction n with
  | zero => intro x _; simp [Nat.mod_one]
  | succ n ih =>
    intro x h
    rw [pop_succ] at h
    have h1 : x % 2 = 0 := by omega
    have h2 := ih (x / 2) (by omega)
    have h3 : x % 2 ^ (n + 1) = 2 * (x / 2 % 2 ^ n) + x % 2 := by
      rw [Nat.pow_succ, Nat.mul_comm, Nat.mod_mul]; omega
    omega
theorem sumTo_one {f g : Nat → Nat} {k : Nat} (h1 : g k + 1 = f k) (h2 : ∀ j, j ≠ k → g j = f j) : ∀ n, k < n → sumTo g n + 1 = sumTo f n := by
  intro n
  induction n with
  | zero => intro h; omega
  | succ n ih =>
    intro h
    rw [sumTo_succ, sumTo_succ]
    by_cases e : k = n
    · subst e
      rw [sumTo_congr k fun j hj => h2 j (by omega)]
      omega
    · rw [h2 n (fun e2 => e e2.symm)]
      have := ih (by omega)
      omega
theorem cnt_clr {D : Nat → Nat} {k t : Nat} (hk : k < 96) (ht : t < 32) (h : hasPin D k t = true) : cnt (clrP D k t) + 1 = cnt D := by
  rw [cnt_def, cnt_def]
  refine sumTo_one (k := k) ?_ (fun j hj => ?_) 96 hk
  · show popc (clrP D k t k) + 1 = popc (D k)
    have e : clrP D k t k = andn (D k) (2 ^ t) := by unfold clrP upd; rw [if_pos rfl]
    rw [e]
    unfold popc
    exact pop_clr 32 _ _ ht (by rw [← hasPin_bit]; exact h)
  · show popc (clrP D k t j) = popc (D j)
    have e : clrP D k t j = D j := by unfold clrP upd; rw [if_neg hj]
    rw [e]
theorem sumTo_zero_iff {f : Nat → Nat} : ∀ n, sumTo f n = 0 → ∀ k, k < n → f k = 0 := by
  intro n
  induction n with
  | zero => intro _ k hk; omega
  | succ n ih =>
    intro h k hk
    rw [sumTo_succ] at h
    by_cases e : k = n
    · subst e; omega
    · exact ih (by omega) k (by omega)
theorem cnt_zero_iff {D : Nat → Nat} (hD : D32 D) : cnt D = 0 ↔ ∀ k, k < 96 → D k = 0 := by
  constructor
  · intro h k hk
    rw [cnt_def] at h
    have h1 := sumTo_zero_iff 96 h k hk
    simp only [popc] at h1
    have h2 := pop_zero_iff 32 (D k) h1
    rwa [Nat.mod_eq_of_lt (hD k)] at h2
  · intro h
    rw [cnt_def, sumTo_congr (g := fun _ => 0) 96 fun j hj => by rw [h j hj]; exact popc_zero]
    have : ∀ n, sumTo (fun _ => 0) n = 0 := fun n => by
      induction n with
      | zero => exact sumTo_zero _
      | succ n ih => rw [sumTo_succ, ih]
    exact this 96
/-- the tracks with a pitch that have a pin at a step, of the first j -/
def trL (P : Nat → Int) (D : Nat → Nat) (k : Nat) (p : Int) : Nat → List Int
  | 0 => []
  | j + 1 => if hasPin D k j = true ∧ P j = p then trL P D k p j ++ [(j : Int)] else trL P D k p j
section
variable {P : Nat → Int} {D : Nat → Nat} {k j : Nat} {p : Int}
theorem trL_zero : trL P D k p 0 = [] := rfl
theorem trL_yes (h : hasPin D k j = true) (h2 : P j = p) : trL P D k p (j + 1) = trL P D k p j ++ [(j : Int)] := if_pos ⟨h, h2⟩
theorem trL_no (h : ¬ (hasPin D k j = true ∧ P j = p)) : trL P D k p (j + 1) = trL P D k p j := if_neg h
theorem trL_mem (x : Int) (j : Nat) : x ∈ trL P D k p j ↔ ∃ t : Nat, x = t ∧ t < j ∧ hasPin D k t = true ∧ P t = p := by
  induction j with
  | zero => simp [trL]
  | succ j ih =>
    by_cases h : hasPin D k j = true ∧ P j = p
    · rw [trL_yes h.1 h.2, List.mem_append, ih, List.mem_singleton]
      constructor
      · rintro (⟨t, rfl, h1, h2⟩ | rfl)
        · exact ⟨t, rfl, by omega, h2⟩
        · exact ⟨j, rfl, by omega, h⟩
      · rintro ⟨t, rfl, h1, h2⟩
        by_cases e : t = j
        · subst e; exact .inr rfl
        · exact .inl ⟨t, rfl, by omega, h2⟩
    · rw [trL_no h, ih]
      constructor
      · rintro ⟨t, rfl, h1, h2⟩; exact ⟨t, rfl, by omega, h2⟩
      · rintro ⟨t, rfl, h1, h2⟩
        by_cases e : t = j
        · subst e; exact absurd h2 h
        · exact ⟨t, rfl, by omega, h2⟩
theorem trL_len (j : Nat) : (trL P D k p j).length ≤ j := by
  induction j with
  | zero => simp [trL]
  | succ j ih =>
    by_cases h : hasPin D k j = true ∧ P j = p
    · rw [trL_yes h.1 h.2]; simp; omega
    · rw [trL_no h]; omega
theorem trL_mono (i j : Nat) : (trL P D k p i).length ≤ (trL P D k p (i + j)).length := by
  induction j with
  | zero => exact Nat.le_refl _
  | succ j ih =>
    refine Nat.le_trans ih ?_
    rw [← Nat.add_assoc]
    by_cases h : hasPin D k (i + j) = true ∧ P (i + j) = p
    · rw [trL_yes h.1 h.2]; simp
    · rw [trL_no h]; exact Nat.le_refl _
end
attribute [irreducible] trL
section
variable (P : Nat → Int) (n : Nat) (D : Nat → Nat) (A B : Nat → Int)
/-- the tracks of the note i -/
def trN (i : Nat) : List Int := trL P D (A i).toNat (B i) n
/-- the tracks of the first i notes -/
def toL : Nat → List Int
  | 0 => []
  | i + 1 => toL i ++ trN P n D A B i
/-- the one track of the note i -/
def trT (i : Nat) : Nat := ((trN P n D A B i).headD 0).toNat
/-- what is left of the drum behind the first i notes -/
def rsD : Nat → Nat → Nat
  | 0 => D
  | i + 1 => clrP (rsD i) (A i).toNat (trT P n D A B i)
/-- each of the first i notes has one track -/
def aOne (i : Nat) : Prop := ∀ j, j < i → (trN P n D A B j).length = 1
theorem toL_zero : toL P n D A B 0 = [] := rfl
theorem toL_succ (i : Nat) : toL P n D A B (i + 1) = toL P n D A B i ++ trN P n D A B i := rfl
theorem rsD_zero : rsD P n D A B 0 = D := rfl
theorem rsD_succ (i : Nat) : rsD P n D A B (i + 1) = clrP (rsD P n D A B i) (A i).toNat (trT P n D A B i) := rfl
theorem trN_def (i : Nat) : trN P n D A B i = trL P D (A i).toNat (B i) n := rfl
variable {P n D A B}
theorem rsD_32 (hD : D32 D) (i : Nat) : D32 (rsD P n D A B i) := by
  induction i with
  | zero => exact hD
  | succ i ih => exact clrP_32 ih _ _
theorem trT_at {i : Nat} (h : (trN P n D A B i).length = 1) : trN P n D A B i = [(trT P n D A B i : Int)] ∧ trT P n D A B i < n ∧ hasPin D (A i).toNat (trT P n D A B i) = true ∧ P (trT P n D A B i) = B i := by
  obtain ⟨x, hx⟩ := List.length_eq_one_iff.1 h
  have hm : x ∈ trN P n D A B i := by rw [hx]; exact List.mem_singleton.2 rfl
  obtain ⟨t, rfl, h1, h2, h3⟩ := (trL_mem x n).1 hm
  have e : trT P n D A B i = t := by unfold trT; rw [hx]; simp
  rw [e]
  exact ⟨hx, h1, h2, h3⟩
theorem toL_len_one {i : Nat} (h : aOne P n D A B i) : (toL P n D A B i).length = i := by
  induction i with
  | zero => rfl
  | succ i ih => rw [toL_succ, List.length_append, ih fun j hj => h j (by omega), h i (by omega)]
theorem hasPin_rsD (i k t : Nat) : hasPin (rsD P n D A B i) k t = true ↔ hasPin D k t = true ∧ ∀ j, j < i → ¬ (k = (A j).toNat ∧ t = trT P n D A B j) := by
  induction i with
  | zero => rw [rsD_zero]; exact ⟨fun h => ⟨h, fun j hj => by omega⟩, fun h => h.1⟩
  | succ i ih =>
    rw [rsD_succ, hasPin_clr, Bool.and_eq_true, ih]
    constructor
    · rintro ⟨⟨h1, h2⟩, h3⟩
      refine ⟨h1, fun j hj => ?_⟩
      by_cases e : j = i
      · subst e; intro h4; rw [h4.1, h4.2] at h3; simp at h3
      · exact h2 j (by omega)
    · rintro ⟨h1, h2⟩
      refine ⟨⟨h1, fun j hj => h2 j (by omega)⟩, ?_⟩
      have := h2 i (by omega)
      rw [Bool.not_eq_true']
      by_cases e1 : k = (A i).toNat
      · by_cases e2 : t = trT P n D A B i
        · exact absurd ⟨e1, e2⟩ this
        · rw [decide_eq_false e2, Bool.and_false]
      · rw [decide_eq_false e1, Bool.false_and]
/-- notes are told apart by their step and their pitch -/
theorem note_inj {l : Nat} (hv : vTune l A B = true) {i j : Nat} (hi : i < l) (hj : j < l) (h1 : A i = A j) (h2 : B i = B j) : i = j := by
  have hs := StrN_of_tune hv
  have e : ∀ x y, x < l → y < l → x < y → A x = A y → B x = B y → False := by
    intro x y hx hy hxy e1 e2
    have := List.pairwise_iff_getElem.1 hs x y (by simpa using hx) (by simpa using hy) hxy
    simp only [List.getElem_map, List.getElem_range] at this
    rw [e1, e2, bfN_irrefl] at this
    cases this
  rcases Nat.lt_trichotomy i j with h | h | h
  · exact (e i j hi hj h h1 h2).elim
  · exact h
  · exact (e j i hj hi h h1.symm h2.symm).elim
theorem rsD_has {l : Nat} (hv : vTune l A B = true) {i : Nat} (hi : i < l) (ha : aOne P n D A B (i + 1)) : hasPin (rsD P n D A B i) (A i).toNat (trT P n D A B i) = true := by
  have h := trT_at (ha i (by omega))
  rw [hasPin_rsD]
  refine ⟨h.2.2.1, fun j hj ⟨e1, e2⟩ => ?_⟩
  have hf := (vTune_facts hv).2.1
  have h3 := trT_at (ha j (by omega))
  have := note_inj hv hi (show j < l by omega) (by have h1 := (hf i hi).1.1; have h2 := (hf j (by omega)).1.1; omega) (by rw [← h.2.2.2, e2, h3.2.2.2])
  omega
theorem cnt_rsD {l : Nat} (hv : vTune l A B = true) (hA : ∀ i, i < l → (A i).toNat < 96) (hn : n ≤ 24) : ∀ i, i ≤ l → aOne P n D A B i → cnt (rsD P n D A B i) + i = cnt D := by
  intro i
  induction i with
  | zero => intro _ _; rfl
  | succ i ih =>
    intro hi ha
    have h1 := ih (by omega) fun j hj => ha j (by omega)
    have h2 := cnt_clr (hA i (by omega)) (show trT P n D A B i < 32 by have := (trT_at (ha i (by omega))).2.1; omega) (rsD_has hv (show i < l by omega) ha)
    rw [rsD_succ]
    omega
/-- the places of a note, seen from the rest of the drum -/
theorem trL_rest {l : Nat} (hv : vTune l A B = true) {i : Nat} (hi : i < l) (ha : aOne P n D A B i) (t : Nat) (ht : P t = B i) : hasPin (rsD P n D A B i) (A i).toNat t = hasPin D (A i).toNat t := by
  rw [Bool.eq_iff_iff, hasPin_rsD]
  refine ⟨fun h => h.1, fun h => ⟨h, fun j hj ⟨e1, e2⟩ => ?_⟩⟩
  have hf := (vTune_facts hv).2.1
  have h3 := trT_at (ha j hj)
  have := note_inj hv hi (show j < l by omega) (by have h1 := (hf i hi).1.1; have h2 := (hf j (by omega)).1.1; omega) (by rw [← ht, e2, h3.2.2.2])
  omega
/-- the tune as a list -/
def ntT (l : Nat) (A B : Nat → Int) : List (Int × Int) := (List.range l).map fun i => (A i, B i)
theorem ntT_mem {l : Nat} {z : Int × Int} : z ∈ ntT l A B ↔ ∃ i, i < l ∧ z = (A i, B i) := by
  unfold ntT
  rw [List.mem_map]
  constructor
  · rintro ⟨i, hi, rfl⟩; exact ⟨i, List.mem_range.1 hi, rfl⟩
  · rintro ⟨i, hi, rfl⟩; exact ⟨i, List.mem_range.2 hi, rfl⟩
theorem toL_ge {l : Nat} (h : ∀ i, i < l → 1 ≤ (trN P n D A B i).length) : l ≤ (toL P n D A B l).length ∧ ((toL P n D A B l).length = l → aOne P n D A B l) := by
  induction l with
  | zero => exact ⟨Nat.zero_le _, fun _ j hj => by omega⟩
  | succ l ih =>
    obtain ⟨h1, h2⟩ := ih fun i hi => h i (by omega)
    have h3 := h l (by omega)
    rw [toL_succ, List.length_append]
    refine ⟨by omega, fun e j hj => ?_⟩
    by_cases ej : j = l
    · subst ej; omega
    · exact h2 (by omega) j (by omega)
theorem tk_same {s : Int} {l : Nat} (hs : 2 ≤ s ∧ s ≤ 96) (hn : 1 ≤ n ∧ n ≤ 24) (hv : vTune l A B = true) (hA : ∀ i, i < l → A i < s) (hd : vDrum s n D = true) (hD : D32 D) :
    ((toL P n D A B l).length = l ∧ cnt D = l ∧ srtN (ntL P 0 (plL (plP D 0 s) n (s.toNat * n))) = ntT l A B) ↔ (aOne P n D A B l ∧ ∀ k, k < 96 → rsD P n D A B l k = 0) := by
  have hf := (vTune_facts hv).2.1
  have hA96 : ∀ i, i < l → (A i).toNat < 96 := fun i hi => by have := hA i hi; have := (hf i hi).1.1; omega
  have hmem : ∀ z, z ∈ ntL P 0 (plL (plP D 0 s) n (s.toNat * n)) ↔ ∃ k t : Nat, (k : Int) < s ∧ t < n ∧ hasPin D k t = true ∧ z = ((k : Int), P t) := by
    intro z
    rw [ntL_mem]
    constructor
    · rintro ⟨y, hy, rfl⟩
      obtain ⟨k, t, hk, ht, hp, rfl⟩ := (plL_mem _ n (by omega) _ _).1 hy
      rw [plP_def, Bool.and_eq_true] at hp
      exact ⟨k, t, by omega, ht, hp.1, Prod.ext (by simp) rfl⟩
    · rintro ⟨k, t, hk, ht, hp, rfl⟩
      refine ⟨((k : Int), (t : Int)), (plL_mem _ n (by omega) _ _).2 ⟨k, t, by omega, ht, ?_, rfl⟩, Prod.ext (by simp) rfl⟩
      rw [plP_def, Bool.and_eq_true, inB_iff]
      exact ⟨hp, by omega, by omega⟩
  constructor
  · rintro ⟨h1, h2, h3⟩
    have hge : ∀ i, i < l → 1 ≤ (trN P n D A B i).length := by
      intro i hi
      have hz : ((A i, B i) : Int × Int) ∈ srtN (ntL P 0 (plL (plP D 0 s) n (s.toNat * n))) := by rw [h3]; exact ntT_mem.2 ⟨i, hi, rfl⟩
      rw [srtN_mem, hmem] at hz
      obtain ⟨k, t, hk, ht, hp, e⟩ := hz
      have e1 : A i = k := congrArg Prod.fst e
      have e2 : B i = P t := congrArg Prod.snd e
      have : (t : Int) ∈ trN P n D A B i := (trL_mem _ n).2 ⟨t, rfl, ht, by rw [e1, Int.toNat_natCast]; exact hp, e2.symm⟩
      exact List.length_pos_of_mem this
    have ha := (toL_ge hge).2 h1
    refine ⟨ha, (cnt_zero_iff (rsD_32 hD l)).1 ?_⟩
    have := cnt_rsD hv hA96 hn.2 l (Nat.le_refl _) ha
    omega
  · rintro ⟨ha, hz⟩
    have hc := cnt_rsD hv hA96 hn.2 l (Nat.le_refl _) ha
    rw [(cnt_zero_iff (rsD_32 hD l)).2 hz] at hc
    refine ⟨toL_len_one ha, by omega, srtN_uniq (StrN_of_tune hv) fun z => ?_⟩
    rw [hmem]
    constructor
    · intro h
      obtain ⟨i, hi, rfl⟩ := ntT_mem.1 h
      have h4 := trT_at (ha i hi)
      have h5 := (hf i hi).1.1
      exact ⟨(A i).toNat, trT P n D A B i, by have := hA i hi; omega, h4.2.1, h4.2.2.1, Prod.ext (by simp; omega) h4.2.2.2.symm⟩
    · rintro ⟨k, t, hk, ht, hp, rfl⟩
      have hno : ¬ hasPin (rsD P n D A B l) k t = true := by
        rw [hasPin_bit, hz k (by omega)]; simp
      rw [hasPin_rsD] at hno
      have : ∃ j, j < l ∧ k = (A j).toNat ∧ t = trT P n D A B j := by
        apply Classical.byContradiction
        intro hx
        exact hno ⟨hp, fun j hj e => hx ⟨j, hj, e⟩⟩
      obtain ⟨j, hj, e1, e2⟩ := this
      have h4 := trT_at (ha j hj)
      have h5 := (hf j hj).1.1
      exact ntT_mem.2 ⟨j, hj, Prod.ext (by simp; omega) (by rw [e2, h4.2.2.2])⟩
end
attribute [irreducible] trN toL trT rsD ntT clrP

/-! The code of a frame, a tune and a drum, by the reference. No conditions. -/
theorem okOne' (s : Int) (n : Nat) (P R : Nat → Int) (E : Nat → Nat) : okAll s n P R 1 (fun _ => E) = (vFrame s n P R && vDrum s n E) := by
  rw [Bool.eq_iff_iff, okAll_iff, Bool.and_eq_true]
  exact ⟨fun h => ⟨h.1, h.2 0 (by decide)⟩, fun h => ⟨h.1, fun _ _ => h.2⟩⟩
/-- the code of a frame, a tune and a drum -/
def whC (ok v : Bool) (s len : Int) : Int := if (ok && v) = true then (if len ≤ s then 0 else 2) else 1
theorem whC_no {ok v : Bool} {s len : Int} (h : (ok && v) = false) : whC ok v s len = 1 := by unfold whC; rw [h]; rfl
theorem whC_long {s len : Int} (h : ¬ len ≤ s) : whC true true s len = 2 := by unfold whC; rw [if_pos (by rfl), if_neg h]
theorem whC_fit {s len : Int} (h : len ≤ s) : whC true true s len = 0 := by unfold whC; rw [if_pos (by rfl), if_pos h]
theorem whC_bad {ok v : Bool} {s len x y : Int} (h : whC ok v s len = y) (hy : ¬ y = 0) : toC ok v s len x = y := by
  subst h
  cases ok
  · rw [toC_no rfl, whC_no rfl]
  · cases v
    · rw [toC_no rfl, whC_no rfl]
    · by_cases hl : len ≤ s
      · rw [whC_fit hl] at hy; exact absurd rfl hy
      · rw [whC_long hl, toC_yes, decide_eq_false hl, Bool.false_and, unl_false]
theorem whC_ok {ok v : Bool} {s len : Int} (h : whC ok v s len = 0) : ok = true ∧ v = true := by
  cases ok
  · rw [whC_no rfl] at h; exact absurd h (by decide)
  · cases v
    · rw [whC_no rfl] at h; exact absurd h (by decide)
    · exact ⟨rfl, rfl⟩
attribute [irreducible] whC
set_option maxRecDepth 100000 in
set_option maxHeartbeats 1000000 in
theorem l03Whole_any (gf gd Td : Nat) (s : Int) (a : Option Addr) (n c : Nat) (P R : Nat → Int) (q : Option Addr) (l e0 : Nat) (A B : Nat → Int) (E : Nat → Nat) (w : World) (hs : -32768 ≤ s ∧ s ≤ 32767) (hn : n ≤ 1048576) (hP : I8 P) (hR : I8 R) (hh : HamAt w a n P R) (hl : l ≤ 1048576) (hA : I16 A) (hB : I8 B) (ht : NoteAt w q l A B) (hf : w.heap[gf]? = some (.cells #[.int .i16 s, .slice a n c] 27 (0, 0))) (hd : DrumAt w Td gd E) :
    Calls Try.prog 35 #[.pointer (some ⟨gf, 0, none⟩), .slice q l e0, .pointer (some ⟨gd, 0, none⟩)] w fun e w' => e = .returned (.int .i64 (whC (okAll s n P R 1 (fun _ => E)) (vTune l A B) s (tLen l A))) ∧ Below w.heap.size w w' := by
  have HP := Lib.hid hP; have HR := Lib.hid hR; have HA := Lib.hid hA; have HB := Lib.hid hB
  clear hP hR hA hB
  have KB := Kp.base w
  have KH := kp_ham hh; have KT := kp_note ht; have KF := kp_row hf; have KD := kp_drum hd; clear hh ht hf hd
  rw [okOne']
  obtain ⟨ok, hok⟩ : ∃ y, vFrame s n P R = y := ⟨_, rfl⟩
  obtain ⟨v, hv⟩ : ∃ y, vTune l A B = y := ⟨_, rfl⟩
  obtain ⟨d, hdd⟩ : ∃ y, vDrum s n E = y := ⟨_, rfl⟩
  obtain ⟨y, hy⟩ : ∃ y, tLen l A = y := ⟨_, rfl⟩
  rw [hok, hv, hy, hdd]
  have HOK := Lib.hid hok; have HV := Lib.hid hv; have HY := Lib.hid hy; have HD := Lib.hid hdd; clear hok hv hy hdd
  cases ok
  · have HT := Lib.hid (whC_no (ok := false && d) (v := v) (s := s) (len := y) (by simp))
    go_enter Try.func35, Try.ntmps35
    go_wp2_with (go_at_call 52; refine (l02Frame_any gf s a n c P R w (by omega) hs HP.out HR.out (row_lt KF.here) (row_cell 0 KF.here) (row_cell 1 KF.here) KH.here).mono ?_; rw [HOK.out]; rintro e w1 ⟨rfl, hb1⟩)
    go_ret
    exact ⟨ret_int HT.out.symm, KB.at hb1⟩
  · cases v
    · have HT := Lib.hid (whC_no (ok := true && d) (v := false) (s := s) (len := y) (by simp))
      go_enter Try.func35, Try.ntmps35
      go_wp2_with (first | (go_at_call 52; refine (l02Frame_any gf s a n c P R w (by omega) hs HP.out HR.out (row_lt KF.here) (row_cell 0 KF.here) (row_cell 1 KF.here) KH.here).mono ?_; rw [HOK.out]; rintro e w1 ⟨rfl, hb1⟩) | (go_at_call 19; refine (l01Ok_any q l e0 A B _ (by omega) HA.out HB.out (KT.at hb1)).mono ?_; rw [HV.out]; rintro e w2 ⟨rfl, hb2⟩))
      go_ret
      exact ⟨ret_int HT.out.symm, (KB.on hb1).at hb2⟩
    · obtain ⟨hs2, hn2, hr⟩ := vFrame_iff.1 HOK.out
      have HRX := Lib.hid hr; clear hr
      cases d
      · have HT := Lib.hid (whC_no (ok := true && false) (v := true) (s := s) (len := y) (by simp))
        go_enter Try.func35, Try.ntmps35
        go_wp2_with (first | (go_at_call 52; refine (l02Frame_any gf s a n c P R w (by omega) hs HP.out HR.out (row_lt KF.here) (row_cell 0 KF.here) (row_cell 1 KF.here) KH.here).mono ?_; rw [HOK.out]; rintro e w1 ⟨rfl, hb1⟩) | (go_at_call 19; refine (l01Ok_any q l e0 A B _ (by omega) HA.out HB.out (KT.at hb1)).mono ?_; rw [HV.out]; rintro e w2 ⟨rfl, hb2⟩) | (go_at_call 53; refine (l02Drum_any gf gd s a n c E w2 (by omega) (by omega) (by omega) (row_cell 0 ((KF.on hb1).at hb2)) (row_cell 1 ((KF.on hb1).at hb2)) (DrumAt.cells ((KD.on hb1).at hb2))).mono ?_; rw [HD.out]; rintro e w3 ⟨rfl, q3, rfl⟩))
        go_ret
        exact ⟨ret_int HT.out.symm, below_drewN ((KB.on hb1).at hb2) _⟩
      · go_enter Try.func35, Try.ntmps35
        go_wp2_with (first | (go_at_call 52; refine (l02Frame_any gf s a n c P R w (by omega) hs HP.out HR.out (row_lt KF.here) (row_cell 0 KF.here) (row_cell 1 KF.here) KH.here).mono ?_; rw [HOK.out]; rintro e w1 ⟨rfl, hb1⟩) | (go_at_call 19; refine (l01Ok_any q l e0 A B _ (by omega) HA.out HB.out (KT.at hb1)).mono ?_; rw [HV.out]; rintro e w2 ⟨rfl, hb2⟩) | (go_at_call 53; refine (l02Drum_any gf gd s a n c E w2 (by omega) (by omega) (by omega) (row_cell 0 ((KF.on hb1).at hb2)) (row_cell 1 ((KF.on hb1).at hb2)) (DrumAt.cells ((KD.on hb1).at hb2))).mono ?_; rw [HD.out]; rintro e w3 ⟨rfl, q3, rfl⟩))
        have hbq := below_drewN (Below.refl w2.heap.size w2) q3
        replace KB := ((KB.on hb1).on hb2).on hbq
        replace KT := ((KT.on hb1).on hb2).on hbq
        replace KF := ((KF.on hb1).on hb2).on hbq
        generalize w2.drewN q3 = w4 at KB KT KF ⊢
        have c0 := row_cell 0 KF.here
        have HLEN := Lib.hid (fun N : Nat => l01Length_any q l e0 A B (w4.drewN N) (by omega) HA.out (KT.at (below_drewN (Below.refl _ _) N)))
        rw [HY.out] at HLEN
        have q3 := i64_id (x := s) (by omega)
        by_cases h1 : y ≤ s
        · have h1' : ¬ s < y := by omega
          have HT := Lib.hid (whC_fit h1)
          go_quiet ((go_at_call 21; exact q_same (HLEN.out _)))
          go_wp2
          go_ret
          exact ⟨ret_int HT.out.symm, below_drewN KB.here _⟩
        · have h1' : s < y := by omega
          have HT := Lib.hid (whC_long h1)
          go_quiet ((go_at_call 21; exact q_same (HLEN.out _)))
          go_wp2
          go_ret
          exact ⟨ret_int HT.out.symm, below_drewN KB.here _⟩
theorem whC_to (ok v : Bool) (s len : Int) : toC ok v s len 0 = whC ok v s len := by
  cases ok
  · rw [toC_no rfl, whC_no rfl]
  · cases v
    · rw [toC_no rfl, whC_no rfl]
    · by_cases h : len ≤ s
      · rw [whC_fit h, toC_yes, decide_eq_true h, Bool.true_and, inB_true ⟨by omega, by omega⟩, unl_true]
      · rw [whC_long h, toC_yes, decide_eq_false h, Bool.false_and, unl_false]

/-! The tracks of a tune on a drum, by the reference. No conditions. -/
set_option maxRecDepth 100000 in
theorem l03Bit_any (t : Nat) (w : World) (ht : t < 24) :
    Calls Try.prog 56 #[.int .i64 (t : Int)] w fun e w' => e = .returned (.int .u32 ((2 ^ t : Nat) : Int)) ∧ w = w' := by
  have hw1 := u64_nat t (by omega)
  have hw2 : min t 32 = t := by omega
  obtain ⟨b, hb⟩ : ∃ b, b = 2 ^ t := ⟨_, rfl⟩
  have hp := wrap_pow ht hb
  rw [← hb]
  clear hb
  go_enter Try.func56, Try.ntmps56
  go_wp2
  go_ret
  exact ⟨rfl, rfl⟩
/-- two drums are the same -/
def eqD (D E : Nat → Nat) : Bool := (List.range 96).all fun k => ((D k : Nat) : Int) == ((E k : Nat) : Int)
theorem eqD_iff {D E : Nat → Nat} : eqD D E = true ↔ ∀ k, k < 96 → D k = E k := by
  unfold eqD
  rw [List.all_eq_true]
  constructor
  · intro h k hk; have := h k (List.mem_range.2 hk); simp at this; omega
  · intro h k hk; rw [h k (List.mem_range.1 hk)]; simp
theorem eq_rows (d : Nat) (D E : Nat → Nat) (w : World) : ∀ is : List Nat, (∀ i ∈ is, i < 96) → (Op.eqItems (d + 1) 41 1 (dc D) (dc E) is).run Try.prog w = .ok (is.all fun k => ((D k : Nat) : Int) == ((E k : Nat) : Int)) w
  | [], _ => by simp [Op.eqItems]
  | i :: is, h => by
    have hi := h i (by simp)
    have hp : ∀ (E : Nat → Nat), (part 41 (dc E) (i * 1)).run Try.prog w = .ok (.int .u32 (E i)) w := fun E => by
      have ha : (isAgg 41).run Try.prog w = .ok false w := by kernel_rfl
      simp only [part, Sem.run_bind, ha, Result.andThen_ok, Nat.mul_one, dc_get E i hi]
      rfl
    have ih := eq_rows d D E w is (fun j hj => h j (by simp [hj]))
    have he := run_equalIn_int (P := Try.prog) (w := w) d 41 .u32 .u32 (D i) (E i) Try.underlying41
    simp only [Op.eqItems, Sem.run_bind, hp, Result.andThen_ok, he]
    cases hq : (((D i : Nat) : Int) == ((E i : Nat) : Int))
    · simp [hq]
    · simp [hq, ih]
theorem cells_u32 : Try.prog.cellsOf 41 = 1 := by kernel_rfl
theorem run_eq_drum (D E : Nat → Nat) (w : World) : (Op.equalIn 10000 47 (.agg (dc D)) (.agg (dc E))).run Try.prog w = .ok (eqD D E) w := by
  obtain ⟨i, hi⟩ := info_of_underlying (P := Try.prog) Try.underlying41
  rw [show (10000 : Nat) = 9999 + 1 from rfl, run_equalIn_array w 9999 (dc D) (dc E) und_drum hi, cells_u32, show (9999 : Nat) = 9998 + 1 from rfl, eq_rows 9998 D E w _ (fun i hi => by simpa using hi)]
  rfl
attribute [irreducible] eqD
theorem guard_drum : Try.prog.eqGuardType Try.prog.depth 47 = false := by kernel_rfl
theorem ex_build_drum0 {o : Oper} {a : Act} {w : World} (ho : o.op = .build 47 #[]) : (execOp a.eval o).run Try.prog w = .ok (.value (.agg (dc fun _ => 0))) w := by
  have hb := run_build (P := Try.prog) w 47 #[] _ built_drum
  simp only [execOp, ho, Array.map_empty, Sem.run_bind, hb, Result.andThen_ok, dc_zero]
  rfl
theorem ex_eq_drum {o : Oper} {a : Act} {w : World} (x y : Operand) (ho : o.op = .binOp .eql 47 x y 47) (D E : Nat → Nat) (hx : a.eval x = .agg (dc D)) (hy : a.eval y = .agg (dc E)) :
    (execOp a.eval o).run Try.prog w = .ok (.value (.bool (eqD D E))) w := by
  have he := run_eq_drum D E w
  have hg := guard_drum
  unfold execOp
  simp only [ho, hx, hy]
  simp [go_sem, he, hg]
/-- the tune is pinned on the drum, each note by one pin, without clashes -/
def tkB (m n : Nat) (P R : Nat → Int) (D : Nat → Nat) (l : Nat) (A B : Nat → Int) : Bool := decide (plL (clB m R D) n (m * n) = []) && (((List.range l).all fun i => decide ((trN P n D A B i).length = 1)) && ((List.range 96).all fun k => decide (rsD P n D A B l k = 0)))
theorem tkB_iff {m n : Nat} {P R : Nat → Int} {D : Nat → Nat} {l : Nat} {A B : Nat → Int} : tkB m n P R D l A B = true ↔ plL (clB m R D) n (m * n) = [] ∧ aOne P n D A B l ∧ ∀ k, k < 96 → rsD P n D A B l k = 0 := by
  simp only [tkB, Bool.and_eq_true, decide_eq_true_eq, List.all_eq_true, List.mem_range]
  exact Iff.rfl
theorem tkB_no {m n : Nat} {P R : Nat → Int} {D : Nat → Nat} {l : Nat} {A B : Nat → Int} (h : ¬ (plL (clB m R D) n (m * n) = [] ∧ aOne P n D A B l ∧ ∀ k, k < 96 → rsD P n D A B l k = 0)) : tkB m n P R D l A B = false := by rw [← Bool.not_eq_true, tkB_iff]; exact h
attribute [irreducible] tkB
set_option maxRecDepth 100000 in
set_option maxHeartbeats 4000000 in
theorem l03Played_any (gf gd Tf Td : Nat) (m : Nat) (a : Option Addr) (n c : Nat) (P R : Nat → Int) (D : Nat → Nat) (q : Option Addr) (l e0 : Nat) (A B : Nat → Int) (w : World) (hm : 2 ≤ m ∧ m ≤ 96) (hn : 1 ≤ n ∧ n ≤ 24) (hD : D32 D) (hP : I8 P) (hR : I8 R) (hv : vTune l A B = true) (hAm : ∀ i, i < l → A i < m)
    (hf : w.heap[gf]? = some (.cells #[.int .i16 (m : Int), .slice a n c] Tf (0, 0))) (hd : DrumAt w Td gd D) (hh : HamAt w a n P R) (ht : NoteAt w q l A B) :
    Calls Try.prog 36 #[.pointer (some ⟨gf, 0, none⟩), .slice q l e0, .pointer (some ⟨gd, 0, none⟩)] w fun e w' => ∃ v, e = .returned (.tuple #[v, .bool (tkB m n P R D l A B)]) ∧ Below w.heap.size w w' ∧ (tkB m n P R D l A B = true → OwnI w' w.heap.size v (toL P n D A B l)) := by
  have hcl := l02Clashes_any gf gd Tf Td m a n c P R D w hm hn hD hR hf hd hh
  obtain ⟨hl120, hnt, _⟩ := vTune_facts hv
  have HV := Lib.hid hv; have HD := Lib.hid hD; have HP := Lib.hid hP; have HR := Lib.hid hR; have HNT := Lib.hid hnt; have HAM := Lib.hid hAm
  clear hD hP hR hnt hAm hv
  have KB := Kp.base w
  have KF := kp_row hf; have KD := kp_drum hd; have KH := kp_ham hh; have KT := kp_note ht; clear hf hd hh ht
  obtain ⟨CL, hCL⟩ : ∃ y, plL (clB m R D) n (m * n) = y := ⟨_, rfl⟩
  rw [hCL] at hcl
  have HCL := Lib.hid hCL; have HCON := Lib.hid hcl; clear hCL hcl
  go_enter Try.func36, Try.ntmps36
  go_wp2_with fail
  refine HCON.out.mono ?_
  rintro e w1 ⟨v1, rfl, hb1, ho1⟩
  obtain ⟨b1, c1, rfl⟩ := OwnL.form ho1
  clear ho1 HCON
  replace KB := KB.on hb1
  replace KF := KF.on hb1
  replace KD := KD.on hb1
  replace KH := KH.on hb1
  replace KT := KT.on hb1
  have hsz1 := KB.here.size
  by_cases hc0 : 0 < CL.length
  · have hc0' : (0 : Int) < (CL.length : Int) := by omega
    have HB := Lib.hid (tkB_no (m := m) (n := n) (P := P) (R := R) (D := D) (l := l) (A := A) (B := B) (fun h => by rw [HCL.out] at h; rw [h.1] at hc0; simp at hc0))
    have hbe := (KB.alloc (.cells #[] 2)).here
    go_wp2
    refine bodyPost_ret (v := .tuple #[.slice (some ⟨w1.heap.size, 0, none⟩) 0 0, .bool false]) (by simp [results, Try.results36, go_sem]) rfl ⟨_, by rw [HB.out], hbe, fun h => by rw [HB.out] at h; cases h⟩
  · have hc0' : ¬ (0 : Int) < (CL.length : Int) := by omega
    have HC0 := Lib.hid (show CL = [] from List.eq_nil_of_length_eq_zero (by omega))
    go_wp2_with (first | (with_reducible refine load_drum rfl _ rfl gd rfl _ D KD.here ?_) | (with_reducible refine copy_drum rfl rfl rfl _ _ rfl D rfl rfl ?_; intro W hbW hzW hgW; have HBW := Lib.hid hbW; have HZW := Lib.hid hzW; have HGW := Lib.hid hgW; clear hbW hzW hgW))
    have hB1 : Below w1.heap.size w1 (W.alloc (.cells #[] 2)) := HBW.out.alloc (by have := HZW.out; omega) _
    have h0 : DrumAt (W.alloc (.cells #[] 2)) 47 w1.heap.size (rsD P n D A B 0) := by rw [rsD_zero]; exact (heap_alloc_old W _ (row_lt HGW.out)).trans HGW.out
    have hn0 : OwnI (W.alloc (.cells #[] 2)) W.heap.size (.slice (some ⟨W.heap.size, 0, none⟩) 0 0) (toL P n D A B 0) := by rw [toL_zero]; exact OwnI.nil W W.heap.size (Nat.le_refl _)
    have HB1 := Lib.hid hB1; have H0 := Lib.hid h0; have HN0 := Lib.hid hn0; clear hB1 h0 hn0
    go_loopw [10, 11] (fun v i w' => Below w1.heap.size w1 w' ∧ W.heap.size ≤ w'.heap.size ∧ ∃ k : Nat, k ≤ l ∧ i = .int .i64 k ∧ aOne P n D A B k ∧ DrumAt w' 47 w1.heap.size (rsD P n D A B k) ∧ OwnI w' W.heap.size v (toL P n D A B k)) (fun _ i _ => l - (intOf i).toNat)
    case atStart => exact ⟨HB1.out, by simp, 0, by omega, rfl, fun j hj => by omega, H0.out, HN0.out⟩
    case round =>
      clear HB1 H0 HN0
      obtain ⟨hb, hWz, k, hk, rfl, ha, hdr, hown⟩ := hrel
      have HA := Lib.hid ha; have HDR := Lib.hid hdr; have HO := Lib.hid hown; clear ha hdr hown
      have hszr := hb.size
      by_cases hlt : k < l
      · have hlt' : (k : Int) < l := by omega
        have hnk := HNT.out k hlt
        have hak := HAM.out k hlt
        obtain ⟨x, hx⟩ : ∃ x : Nat, A k = x := ⟨(A k).toNat, by omega⟩
        obtain ⟨p, hp⟩ : ∃ p, B k = p := ⟨_, rfl⟩
        obtain ⟨gq, oq, rfl, hgq, hcq⟩ := NoteAt.get KT.here (show 0 < l by omega)
        have cq := hcq k hlt
        rw [hx, hp] at cq
        rw [hx] at hak
        have KQ0 := (kp_cell cq.1 hgq).on hb; have KQ1 := (kp_cell cq.2 hgq).on hb
        obtain ⟨gh, off, rfl, hgh, hch⟩ := HamAt.get KH.here (show 0 < n by omega)
        have HCH := Lib.hid (fun (V : World) (hV : Below w1.heap.size w1 V) i (hi : i < n) => (hV.cell (p := ⟨gh, off + i * 2, none⟩) hgh).trans (hch i hi).1)
        have HTN := Lib.hid (show trN P n D A B k = trL P D x p n by rw [trN_def, hx, hp, Int.toNat_natCast])
        have HXX := Lib.hid (show (A k).toNat = x by rw [hx, Int.toNat_natCast]); have HPP := Lib.hid hp
        clear hcq cq hch hnk hx hp
        have HBR := Lib.hid hb
        have hx96 : x < 96 := by omega
        have hRD32 : D32 (rsD P n D A B k) := rsD_32 HD.out k
        have HRD := Lib.hid hRD32; clear hRD32
        clear hb
        go_wp2
        obtain ⟨Y, rfl⟩ : ∃ U, U = wr := ⟨wr, rfl⟩
        go_loopw [12, 13] (fun t j w' => Below Y.heap.size Y w' ∧ ∃ kk : Nat, kk ≤ n ∧ j = .int .i64 kk ∧ ((t = .int .i64 (-1) ∧ trL P D x p kk = []) ∨ ∃ t0 : Nat, t0 < n ∧ t = .int .i64 (t0 : Int) ∧ trL P D x p kk = [(t0 : Int)])) (fun _ j _ => n - (intOf j).toNat)
        case atStart => exact ⟨Below.refl _ _, 0, by omega, rfl, .inl ⟨rfl, trL_zero⟩⟩
        case round =>
          rename_i tv0 tv1 tv2
          obtain ⟨hb2, kk, hkk, rfl, hcase⟩ := hrel
          have HCASE := Lib.hid hcase; clear hcase
          have hbW := HBR.out.trans (hb2.mono hszr)
          have f1 := row_cell 1 (KF.at hbW)
          by_cases hkn : kk < n
          · have hkn' : (kk : Int) < n := by omega
            have hPk := HCH.out
            have KP0 := kp_cell (hPk _ hbW kk hkn) (Nat.lt_of_lt_of_le hgh hbW.size)
            have KF1 := KF.on hbW
            have KX0 := KQ0.on hb2; have KX1 := KQ1.on hb2
            have KR := (kp_drum HDR.out).on hb2
            have HB2 := Lib.hid hb2
            clear hPk hb2 hbW
            go_wp2
            clear f1
            obtain ⟨U, rfl⟩ : ∃ U, U = wr := ⟨wr, rfl⟩
            have hS0 := below_drew U
            have KB1 := kp_start U
            have q1 := i64_id (x := (x : Int)) (by omega)
            refine wp_region_S (fun V => Below U.heap.size U V) (by kernel_rfl) hS0 ?_
            refine take_val 0 (.pointer (some ⟨gf, 0, none⟩)) rfl (by kernel_rfl) (by kernel_rfl) (by kernel_rfl) (fun _ _ _ h => h) rfl (fun V hV => by simp [go_sem]) hS0 ?_
            simp only [List.getElem_toArray, List.getElem_cons_zero, List.getElem_cons_succ, Act.put, List.setIfInBounds_toArray, List.set_cons_zero, List.set_cons_succ]
            refine take_val 1 (.pointer (some ⟨gf, 0, none⟩)) rfl (by kernel_rfl) (by kernel_rfl) (by kernel_rfl) (fun _ _ _ h => h) rfl (fun V hV => by simp [go_sem]) hS0 ?_
            simp only [List.getElem_toArray, List.getElem_cons_zero, List.getElem_cons_succ, Act.put, List.setIfInBounds_toArray, List.set_cons_zero, List.set_cons_succ]
            refine take_val 2 (.pointer (some ⟨gf, 1, none⟩)) rfl (by kernel_rfl) (by kernel_rfl) (by kernel_rfl) (fun _ _ _ h => h) rfl (fun V hV => by simp [go_sem]) hS0 ?_
            simp only [List.getElem_toArray, List.getElem_cons_zero, List.getElem_cons_succ, Act.put, List.setIfInBounds_toArray, List.set_cons_zero, List.set_cons_succ]
            refine take_val 3 (.slice (some ⟨gh, off, none⟩) n c) rfl (by kernel_rfl) (by kernel_rfl) (by kernel_rfl) (fun _ _ _ h => h) rfl (fun V hV => by have h := row_cell 1 (KF1.at hV); simp [go_sem, h]) hS0 ?_
            simp only [List.getElem_toArray, List.getElem_cons_zero, List.getElem_cons_succ, Act.put, List.setIfInBounds_toArray, List.set_cons_zero, List.set_cons_succ]
            refine take_val 4 (.int .i64 kk) rfl (by kernel_rfl) (by kernel_rfl) (by kernel_rfl) (fun _ _ _ h => h) rfl (fun V hV => by simp [go_sem]) hS0 ?_
            simp only [List.getElem_toArray, List.getElem_cons_zero, List.getElem_cons_succ, Act.put, List.setIfInBounds_toArray, List.set_cons_zero, List.set_cons_succ]
            refine take_val 5 (.pointer (some ⟨gh, off + kk * 2, none⟩)) rfl (by kernel_rfl) (by kernel_rfl) (by kernel_rfl) (fun _ _ _ h => h) rfl (fun V hV => by simp [go_sem, hkn']) hS0 ?_
            simp only [List.getElem_toArray, List.getElem_cons_zero, List.getElem_cons_succ, Act.put, List.setIfInBounds_toArray, List.set_cons_zero, List.set_cons_succ]
            refine take_val 6 (.pointer (some ⟨gh, off + kk * 2, none⟩)) rfl (by kernel_rfl) (by kernel_rfl) (by kernel_rfl) (fun _ _ _ h => h) rfl (fun V hV => by simp [go_sem]) hS0 ?_
            simp only [List.getElem_toArray, List.getElem_cons_zero, List.getElem_cons_succ, Act.put, List.setIfInBounds_toArray, List.set_cons_zero, List.set_cons_succ]
            refine take_val 7 (.int .i8 (P kk)) rfl (by kernel_rfl) (by kernel_rfl) (by kernel_rfl) (fun _ _ _ h => h) rfl (fun V hV => by have h := KP0.at hV; simp [go_sem, h]) hS0 ?_
            simp only [List.getElem_toArray, List.getElem_cons_zero, List.getElem_cons_succ, Act.put, List.setIfInBounds_toArray, List.set_cons_zero, List.set_cons_succ]
            refine take_val 8 (.slice (some ⟨gq, oq, none⟩) l e0) rfl (by kernel_rfl) (by kernel_rfl) (by kernel_rfl) (fun _ _ _ h => h) rfl (fun V hV => by simp [go_sem]) hS0 ?_
            simp only [List.getElem_toArray, List.getElem_cons_zero, List.getElem_cons_succ, Act.put, List.setIfInBounds_toArray, List.set_cons_zero, List.set_cons_succ]
            refine take_val 9 (.int .i64 k) rfl (by kernel_rfl) (by kernel_rfl) (by kernel_rfl) (fun _ _ _ h => h) rfl (fun V hV => by simp [go_sem]) hS0 ?_
            simp only [List.getElem_toArray, List.getElem_cons_zero, List.getElem_cons_succ, Act.put, List.setIfInBounds_toArray, List.set_cons_zero, List.set_cons_succ]
            refine take_val 10 (.pointer (some ⟨gq, oq + k * 2, none⟩)) rfl (by kernel_rfl) (by kernel_rfl) (by kernel_rfl) (fun _ _ _ h => h) rfl (fun V hV => by simp [go_sem, hlt']) hS0 ?_
            simp only [List.getElem_toArray, List.getElem_cons_zero, List.getElem_cons_succ, Act.put, List.setIfInBounds_toArray, List.set_cons_zero, List.set_cons_succ]
            refine take_val 11 (.pointer (some ⟨gq, oq + k * 2 + 1, none⟩)) rfl (by kernel_rfl) (by kernel_rfl) (by kernel_rfl) (fun _ _ _ h => h) rfl (fun V hV => by simp [go_sem]) hS0 ?_
            simp only [List.getElem_toArray, List.getElem_cons_zero, List.getElem_cons_succ, Act.put, List.setIfInBounds_toArray, List.set_cons_zero, List.set_cons_succ]
            refine take_val 12 (.int .i8 p) rfl (by kernel_rfl) (by kernel_rfl) (by kernel_rfl) (fun _ _ _ h => h) rfl (fun V hV => by have h := KX1.at hV; simp [go_sem, h]) hS0 ?_
            simp only [List.getElem_toArray, List.getElem_cons_zero, List.getElem_cons_succ, Act.put, List.setIfInBounds_toArray, List.set_cons_zero, List.set_cons_succ]
            by_cases hpp : P kk = p
            · have HPK := Lib.hid (trL_rest HV.out hlt HA.out kk (by rw [HPP.out]; exact hpp))
              refine take_val 13 (.bool true) rfl (by kernel_rfl) (by kernel_rfl) (by kernel_rfl) (fun _ _ _ h => h) rfl (fun V hV => by simp [go_sem, hpp]) hS0 ?_
              simp only [List.getElem_toArray, List.getElem_cons_zero, List.getElem_cons_succ, Act.put, List.setIfInBounds_toArray, List.set_cons_zero, List.set_cons_succ]
              refine take_val 14 (.bool true) rfl (by kernel_rfl) (by kernel_rfl) (by kernel_rfl) (fun _ _ _ h => h) rfl (fun V hV => by simp [go_sem]) hS0 ?_
              simp only [List.getElem_toArray, List.getElem_cons_zero, List.getElem_cons_succ, Act.put, List.setIfInBounds_toArray, List.set_cons_zero, List.set_cons_succ]
              refine take_val 15 (.slice (some ⟨gq, oq, none⟩) l e0) rfl (by kernel_rfl) (by kernel_rfl) (by kernel_rfl) (fun _ _ _ h => h) rfl (fun V hV => by simp [go_sem]) hS0 ?_
              simp only [List.getElem_toArray, List.getElem_cons_zero, List.getElem_cons_succ, Act.put, List.setIfInBounds_toArray, List.set_cons_zero, List.set_cons_succ]
              refine take_val 16 (.int .i64 k) rfl (by kernel_rfl) (by kernel_rfl) (by kernel_rfl) (fun _ _ _ h => h) rfl (fun V hV => by simp [go_sem]) hS0 ?_
              simp only [List.getElem_toArray, List.getElem_cons_zero, List.getElem_cons_succ, Act.put, List.setIfInBounds_toArray, List.set_cons_zero, List.set_cons_succ]
              refine take_val 17 (.pointer (some ⟨gq, oq + k * 2, none⟩)) rfl (by kernel_rfl) (by kernel_rfl) (by kernel_rfl) (fun _ _ _ h => h) rfl (fun V hV => by simp [go_sem, hlt']) hS0 ?_
              simp only [List.getElem_toArray, List.getElem_cons_zero, List.getElem_cons_succ, Act.put, List.setIfInBounds_toArray, List.set_cons_zero, List.set_cons_succ]
              refine take_val 18 (.pointer (some ⟨gq, oq + k * 2, none⟩)) rfl (by kernel_rfl) (by kernel_rfl) (by kernel_rfl) (fun _ _ _ h => h) rfl (fun V hV => by simp [go_sem]) hS0 ?_
              simp only [List.getElem_toArray, List.getElem_cons_zero, List.getElem_cons_succ, Act.put, List.setIfInBounds_toArray, List.set_cons_zero, List.set_cons_succ]
              refine take_val 19 (.int .i16 (x : Int)) rfl (by kernel_rfl) (by kernel_rfl) (by kernel_rfl) (fun _ _ _ h => h) rfl (fun V hV => by have h := KX0.at hV; simp [go_sem, h]) hS0 ?_
              simp only [List.getElem_toArray, List.getElem_cons_zero, List.getElem_cons_succ, Act.put, List.setIfInBounds_toArray, List.set_cons_zero, List.set_cons_succ]
              refine take_val 20 (.int .i64 (x : Int)) rfl (by kernel_rfl) (by kernel_rfl) (by kernel_rfl) (fun _ _ _ h => h) rfl (fun V hV => by simp [go_sem, q1]) hS0 ?_
              simp only [List.getElem_toArray, List.getElem_cons_zero, List.getElem_cons_succ, Act.put, List.setIfInBounds_toArray, List.set_cons_zero, List.set_cons_succ]
              refine take_val 21 (.int .i64 kk) rfl (by kernel_rfl) (by kernel_rfl) (by kernel_rfl) (fun _ _ _ h => h) rfl (fun V hV => by simp [go_sem]) hS0 ?_
              simp only [List.getElem_toArray, List.getElem_cons_zero, List.getElem_cons_succ, Act.put, List.setIfInBounds_toArray, List.set_cons_zero, List.set_cons_succ]
              have hcon := l02Pin_any w1.heap.size 47 (rsD P n D A B k) x kk U.drew HRD.out hx96 (by omega) (KR.at hS0)
              have HPK2 := Lib.hid (show hasPin (rsD P n D A B k) x kk = hasPin D x kk by have h := HPK.out; rw [HXX.out] at h; exact h)
              rw [HPK2.out] at hcon
              cases hpin : hasPin D x kk
              · rw [hpin] at hcon
                have HTR := Lib.hid (trL_no (P := P) (D := D) (k := x) (p := p) (j := kk) (fun h => by rw [hpin] at h; cases h.1))
                refine step_call 22 55 #[.pointer (some ⟨w1.heap.size, 0, none⟩), .int .i64 (x : Int), .int .i64 (kk : Int)] (by kernel_rfl) rfl rfl (by simp [go_sem]) ?_
                refine (hcon).mono ?_
                rintro e V2 ⟨rfl, rfl⟩
                refine ⟨_, rfl, hS0, ?_⟩
                simp only [List.getElem_toArray, List.getElem_cons_zero, List.getElem_cons_succ, Act.put, List.setIfInBounds_toArray, List.set_cons_zero, List.set_cons_succ]
                refine take_val 23 (.bool false) rfl (by kernel_rfl) (by kernel_rfl) (by kernel_rfl) (fun _ _ _ h => h) rfl (fun V hV => by simp [go_sem]) hS0 ?_
                simp only [List.getElem_toArray, List.getElem_cons_zero, List.getElem_cons_succ, Act.put, List.setIfInBounds_toArray, List.set_cons_zero, List.set_cons_succ]
                refine wpAnyH_done (by kernel_rfl) ?_ _
                have HBE := Lib.hid (HB2.out.drew)
                clear hS0 hcon hpin
                go_wp2
                go_roundw
                case rel => exact ⟨HBE.out, kk + 1, by omega, by go_num, by rw [HTR.out]; exact HCASE.out⟩
                case measure => simp [intOf]; omega
              · rw [hpin] at hcon
                have HTR := Lib.hid (trL_yes (P := P) (D := D) (k := x) (p := p) (j := kk) hpin hpp)
                refine step_call 22 55 #[.pointer (some ⟨w1.heap.size, 0, none⟩), .int .i64 (x : Int), .int .i64 (kk : Int)] (by kernel_rfl) rfl rfl (by simp [go_sem]) ?_
                refine (hcon).mono ?_
                rintro e V2 ⟨rfl, rfl⟩
                refine ⟨_, rfl, hS0, ?_⟩
                simp only [List.getElem_toArray, List.getElem_cons_zero, List.getElem_cons_succ, Act.put, List.setIfInBounds_toArray, List.set_cons_zero, List.set_cons_succ]
                refine take_val 23 (.bool true) rfl (by kernel_rfl) (by kernel_rfl) (by kernel_rfl) (fun _ _ _ h => h) rfl (fun V hV => by simp [go_sem]) hS0 ?_
                simp only [List.getElem_toArray, List.getElem_cons_zero, List.getElem_cons_succ, Act.put, List.setIfInBounds_toArray, List.set_cons_zero, List.set_cons_succ]
                refine wpAnyH_done (by kernel_rfl) ?_ _
                have HBE := Lib.hid (HB2.out.drew)
                clear hS0 hcon hpin
                rcases HCASE.out with ⟨rfl, htr⟩ | ⟨t0, ht0, rfl, htr⟩
                · have HT2 := Lib.hid htr; clear htr
                  go_wp2
                  go_roundw
                  case rel => exact ⟨HBE.out, kk + 1, by omega, by go_num, .inr ⟨kk, hkn, rfl, by rw [HTR.out, HT2.out]; rfl⟩⟩
                  case measure => simp [intOf]; omega
                · have HB := Lib.hid (tkB_no (m := m) (n := n) (P := P) (R := R) (D := D) (l := l) (A := A) (B := B) (fun h => by
                    have h1 := h.2.1 k hlt
                    have h2 := trL_mono (P := P) (D := D) (k := x) (p := p) (kk + 1) (n - (kk + 1))
                    rw [show kk + 1 + (n - (kk + 1)) = n by omega, HTR.out, htr, ← HTN.out] at h2
                    simp at h2; omega))
                  have HT2 := Lib.hid htr; clear htr
                  have hbe := (KB.on (HBR.out.trans (HBE.out.mono hszr))).here.alloc (by have h1 := (KB.on (HBR.out.trans (HBE.out.mono hszr))).here.size; exact h1) (.cells #[] 2)
                  have HBF := Lib.hid hbe; clear hbe
                  go_wp2
                  refine bodyPost_ret (v := .tuple #[.slice (some ⟨U.heap.size, 0, none⟩) 0 0, .bool false]) (by simp [results, Try.results36, go_sem]) rfl ⟨_, by rw [HB.out], HBF.out, fun h => by rw [HB.out] at h; cases h⟩
            · have HTR := Lib.hid (trL_no (P := P) (D := D) (k := x) (p := p) (j := kk) (fun h => hpp h.2))
              refine take_val 13 (.bool false) rfl (by kernel_rfl) (by kernel_rfl) (by kernel_rfl) (fun _ _ _ h => h) rfl (fun V hV => by simp [go_sem, hpp]) hS0 ?_
              simp only [List.getElem_toArray, List.getElem_cons_zero, List.getElem_cons_succ, Act.put, List.setIfInBounds_toArray, List.set_cons_zero, List.set_cons_succ]
              refine take_val 14 (.bool false) rfl (by kernel_rfl) (by kernel_rfl) (by kernel_rfl) (fun _ _ _ h => h) rfl (fun V hV => by simp [go_sem]) hS0 ?_
              simp only [List.getElem_toArray, List.getElem_cons_zero, List.getElem_cons_succ, Act.put, List.setIfInBounds_toArray, List.set_cons_zero, List.set_cons_succ]
              refine skip_val 15 rfl (by kernel_rfl) (by kernel_rfl) (by kernel_rfl) (fun _ _ _ h => h) rfl hS0 ?_
              simp only [List.getElem_toArray, List.getElem_cons_zero, List.getElem_cons_succ, Act.put, List.setIfInBounds_toArray, List.set_cons_zero, List.set_cons_succ]
              refine skip_val 16 rfl (by kernel_rfl) (by kernel_rfl) (by kernel_rfl) (fun _ _ _ h => h) rfl hS0 ?_
              simp only [List.getElem_toArray, List.getElem_cons_zero, List.getElem_cons_succ, Act.put, List.setIfInBounds_toArray, List.set_cons_zero, List.set_cons_succ]
              refine skip_val 17 rfl (by kernel_rfl) (by kernel_rfl) (by kernel_rfl) (fun _ _ _ h => h) rfl hS0 ?_
              simp only [List.getElem_toArray, List.getElem_cons_zero, List.getElem_cons_succ, Act.put, List.setIfInBounds_toArray, List.set_cons_zero, List.set_cons_succ]
              refine skip_val 18 rfl (by kernel_rfl) (by kernel_rfl) (by kernel_rfl) (fun _ _ _ h => h) rfl hS0 ?_
              simp only [List.getElem_toArray, List.getElem_cons_zero, List.getElem_cons_succ, Act.put, List.setIfInBounds_toArray, List.set_cons_zero, List.set_cons_succ]
              refine skip_val 19 rfl (by kernel_rfl) (by kernel_rfl) (by kernel_rfl) (fun _ _ _ h => h) rfl hS0 ?_
              simp only [List.getElem_toArray, List.getElem_cons_zero, List.getElem_cons_succ, Act.put, List.setIfInBounds_toArray, List.set_cons_zero, List.set_cons_succ]
              refine skip_val 20 rfl (by kernel_rfl) (by kernel_rfl) (by kernel_rfl) (fun _ _ _ h => h) rfl hS0 ?_
              simp only [List.getElem_toArray, List.getElem_cons_zero, List.getElem_cons_succ, Act.put, List.setIfInBounds_toArray, List.set_cons_zero, List.set_cons_succ]
              refine skip_val 21 rfl (by kernel_rfl) (by kernel_rfl) (by kernel_rfl) (fun _ _ _ h => h) rfl hS0 ?_
              simp only [List.getElem_toArray, List.getElem_cons_zero, List.getElem_cons_succ, Act.put, List.setIfInBounds_toArray, List.set_cons_zero, List.set_cons_succ]
              refine skip_val 22 rfl (by kernel_rfl) (by kernel_rfl) (by kernel_rfl) (fun _ _ _ h => h) rfl hS0 ?_
              simp only [List.getElem_toArray, List.getElem_cons_zero, List.getElem_cons_succ, Act.put, List.setIfInBounds_toArray, List.set_cons_zero, List.set_cons_succ]
              refine take_val 23 (.bool false) rfl (by kernel_rfl) (by kernel_rfl) (by kernel_rfl) (fun _ _ _ h => h) rfl (fun V hV => by simp [go_sem]) hS0 ?_
              simp only [List.getElem_toArray, List.getElem_cons_zero, List.getElem_cons_succ, Act.put, List.setIfInBounds_toArray, List.set_cons_zero, List.set_cons_succ]
              refine wpAnyH_done (by kernel_rfl) ?_ _
              have HBE := Lib.hid (HB2.out.drew)
              clear hS0
              go_wp2
              go_roundw
              case rel => exact ⟨HBE.out, kk + 1, by omega, by go_num, by rw [HTR.out]; exact HCASE.out⟩
              case measure => simp [intOf]; omega
          · have hkn2 : kk = n := by omega
            have HB2 := Lib.hid hb2
            have HBW2 := Lib.hid hbW
            have HBU := Lib.hid ((KB.on hbW).here)
            have hkn' : ¬ (kk : Int) < n := by omega
            rcases HCASE.out with ⟨rfl, htr⟩ | ⟨t0, ht0, rfl, htr⟩
            · have HB := Lib.hid (tkB_no (m := m) (n := n) (P := P) (R := R) (D := D) (l := l) (A := A) (B := B) (fun h => by
                have h1 := h.2.1 k hlt
                rw [HTN.out, ← hkn2, htr] at h1
                simp at h1))
              clear hb2 hbW htr hkn2
              have hbe := HBU.out.alloc HBU.out.size (.cells #[] 2)
              have HBF := Lib.hid hbe; clear hbe
              go_wp2
              refine bodyPost_ret (v := .tuple #[.slice (some ⟨wr.heap.size, 0, none⟩) 0 0, .bool false]) (by simp [results, Try.results36, go_sem]) rfl ⟨_, by rw [HB.out], HBF.out, fun h => by rw [HB.out] at h; cases h⟩
            · rw [hkn2, ← HTN.out] at htr
              have hone : aOne P n D A B (k + 1) := fun j hj => if e : j = k then by rw [e, htr]; rfl else HA.out j (by omega)
              have htT : trT P n D A B k = t0 := by
                have h := (trT_at (hone k (by omega))).1
                rw [htr] at h
                simp at h
                omega
              have HONE := Lib.hid hone
              have HRS := Lib.hid (show rsD P n D A B (k + 1) = upd (rsD P n D A B k) x (andn (rsD P n D A B k x) (2 ^ t0)) by rw [rsD_succ, HXX.out, htT, clrP_def])
              have HTL := Lib.hid (show toL P n D A B (k + 1) = toL P n D A B k ++ [(t0 : Int)] by rw [toL_succ, htr])
              have hdr2 := (kp_drum HDR.out).at hb2
              have ho2 := (kp_OwnI HO.out).at hb2
              have KX0 := KQ0.on hb2
              clear hbW htr hone htT hkn2
              have hx96' : (x : Int) < 96 := by omega
              have cx := DrumAt.cell hdr2 x hx96
              have fx := DrumAt.frozen hdr2 x
              have c0 := KX0.here
              obtain ⟨b, hb2t⟩ : ∃ b, 2 ^ t0 = b := ⟨_, rfl⟩
              have hcon := fun W : World => l03Bit_any t0 W (show t0 < 24 by omega)
              rw [hb2t] at hcon HRS
              have HBT := Lib.hid hcon; clear hcon
              have hb32 : b < 4294967296 := by have := pow24 (show t0 < 24 by omega); omega
              have hor := bits_andNot_u32 (HRD.out x) hb32
              have hzr0 : W.heap.size ≤ wr.heap.size := Nat.le_trans hWz hb2.size
              have HO2 := Lib.hid ho2; have HDR2 := Lib.hid hdr2
              have hlen : (toL P n D A B k).length ≤ 120 := by rw [toL_len_one HA.out]; omega
              have HLEN := Lib.hid hlen
              clear hb2t ho2 hdr2 hb2 hlen
              go_wp2
              refine wp_region_still_tail 11 (by kernel_rfl) (by kernel_rfl) ?_
              simp only [List.take_succ_cons, List.take_zero, List.drop_succ_cons, List.drop_zero]
              repeat still_step
              still_call ((HBT.out _).mono fun _ _ h => ⟨h.1, h.2.symm⟩)
              repeat still_step
              refine wpStill_nil ?_
              have HOX := Lib.hid (show OwnI (wr.setCell ⟨w1.heap.size, x, none⟩ (.int .u32 ((andn (rsD P n D A B k x) b : Nat) : Int))) W.heap.size u10 (toL P n D A B k) from ownsRow_setCell_below HO2.out (by have := HZW.out; show w1.heap.size < _; omega) _)
              have hzr : W.heap.size ≤ wr.heap.size := hzr0
              go_wp2_with (at_builtin; go_loud (refine append_int rfl _ _ rfl W.heap.size _ (toL P n D A B k) rfl (OwnI.alloc HOX.out (.cells #[.int .i64 (t0 : Int)] 2)) wr.heap.size (t0 : Int) rfl (by have h := row_cell 0 (heap_alloc_new (wr.setCell ⟨w1.heap.size, x, none⟩ (.int .u32 ((andn (rsD P n D A B k x) b : Nat) : Int))) (.cells #[.int .i64 (t0 : Int)] 2)); simpa using h) (by have := HLEN.out; omega) (by simp; omega) ?_; intro v2 w5 hown2 hb5; have HO5 := Lib.hid hown2; have HB5 := Lib.hid hb5; clear hown2 hb5))
              go_roundw
              case rel =>
                have hgr : w1.heap.size < W.heap.size := by have := HZW.out; omega
                have hbs : Below w1.heap.size w1 ((wr.setCell ⟨w1.heap.size, x, none⟩ (.int .u32 ((andn (rsD P n D A B k x) b : Nat) : Int))).alloc (.cells #[.int .i64 (t0 : Int)] 2)) := ((HBW2.out).setCell (p := ⟨w1.heap.size, x, none⟩) (Nat.le_refl _) _).alloc (by simp; exact HBW2.out.size) _
                have hdr5 : DrumAt ((wr.setCell ⟨w1.heap.size, x, none⟩ (.int .u32 ((andn (rsD P n D A B k x) b : Nat) : Int))).alloc (.cells #[.int .i64 (t0 : Int)] 2)) 47 w1.heap.size (rsD P n D A B (k + 1)) := by
                  have h := DrumAt.setCell HDR2.out x (andn (rsD P n D A B k x) b) hx96
                  rw [← HRS.out] at h
                  exact (heap_alloc_old _ _ (row_lt h)).trans h
                refine ⟨hbs.drew.trans (HB5.out.mono (Nat.le_of_lt hgr)), Nat.le_trans (Nat.le_trans hzr (by simp)) HB5.out.size, k + 1, by omega, by go_num, HONE.out, (HB5.out.block _ hgr).trans hdr5, by rw [HTL.out]; exact HO5.out⟩
              case measure => simp [intOf]; omega
      · have hkl : k = l := by omega
        subst hkl
        have hlt' : ¬ (k : Int) < k := by omega
        have KR := kp_drum HDR.out
        have hres : tkB m n P R D k A B = eqD (rsD P n D A B k) (fun _ => 0) := by
          rw [Bool.eq_iff_iff, tkB_iff, eqD_iff]
          exact ⟨fun h => h.2.2, fun h => ⟨by rw [HCL.out, HC0.out], HA.out, h⟩⟩
        have HRES := Lib.hid hres; clear hres
        go_wp2
        obtain ⟨Y, rfl⟩ : ∃ U, U = wr := ⟨wr, rfl⟩
        obtain ⟨u10, rfl⟩ : ∃ y, y = u10 := ⟨u10, rfl⟩
        have hS0 := below_drew Y
        refine wp_region_S (fun V => Below Y.heap.size Y V) (by kernel_rfl) hS0 ?_
        refine take_val 0 (u10) rfl (by kernel_rfl) (by kernel_rfl) (by kernel_rfl) (fun _ _ _ h => h) rfl (fun V hV => by simp [go_sem]) hS0 ?_
        simp only [List.getElem_toArray, List.getElem_cons_zero, List.getElem_cons_succ, Act.put, List.setIfInBounds_toArray, List.set_cons_zero, List.set_cons_succ]
        refine take_val 1 (.agg (dc (rsD P n D A B k))) rfl (by kernel_rfl) (by kernel_rfl) (by kernel_rfl) (fun _ _ _ h => h) rfl (fun V hV => ex_load_drum _ rfl w1.heap.size rfl _ (rsD P n D A B k) (KR.at hV)) hS0 ?_
        simp only [List.getElem_toArray, List.getElem_cons_zero, List.getElem_cons_succ, Act.put, List.setIfInBounds_toArray, List.set_cons_zero, List.set_cons_succ]
        refine take_val 2 (.agg (dc fun _ => 0)) rfl (by kernel_rfl) (by kernel_rfl) (by kernel_rfl) (fun _ _ _ h => h) rfl (fun V hV => ex_build_drum0 rfl) hS0 ?_
        simp only [List.getElem_toArray, List.getElem_cons_zero, List.getElem_cons_succ, Act.put, List.setIfInBounds_toArray, List.set_cons_zero, List.set_cons_succ]
        refine take_val 3 (.bool (eqD (rsD P n D A B k) (fun _ => 0))) rfl (by kernel_rfl) (by kernel_rfl) (by kernel_rfl) (fun _ _ _ h => h) rfl (fun V hV => ex_eq_drum _ _ rfl _ _ rfl rfl) hS0 ?_
        simp only [List.getElem_toArray, List.getElem_cons_zero, List.getElem_cons_succ, Act.put, List.setIfInBounds_toArray, List.set_cons_zero, List.set_cons_succ]
        refine take_val 4 (u10) rfl (by kernel_rfl) (by kernel_rfl) (by kernel_rfl) (fun _ _ _ h => h) rfl (fun V hV => by simp [go_sem]) hS0 ?_
        simp only [List.getElem_toArray, List.getElem_cons_zero, List.getElem_cons_succ, Act.put, List.setIfInBounds_toArray, List.set_cons_zero, List.set_cons_succ]
        refine take_val 5 (.bool (eqD (rsD P n D A B k) (fun _ => 0))) rfl (by kernel_rfl) (by kernel_rfl) (by kernel_rfl) (fun _ _ _ h => h) rfl (fun V hV => by simp [go_sem]) hS0 ?_
        simp only [List.getElem_toArray, List.getElem_cons_zero, List.getElem_cons_succ, Act.put, List.setIfInBounds_toArray, List.set_cons_zero, List.set_cons_succ]
        refine wpAnyH_done (by kernel_rfl) ?_ _
        have HBE := Lib.hid ((KB.on hb).here.drew)
        clear hS0
        go_wp2
        refine bodyPost_ret (v := .tuple #[u10, .bool (eqD (rsD P n D A B k) (fun _ => 0))]) (by simp [results, Try.results36, go_sem]) rfl ⟨u10, by rw [HRES.out], HBE.out, fun _ => ?_⟩
        have h := HO.out
        exact own_mono h (by have h1 := HZW.out; have h2 := KB.here.size; omega)
end Go.Proofs.Yteffaghcjpeblaa
