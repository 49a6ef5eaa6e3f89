/- A programme is turned: plain laws. No conditions. -/
import Derived.Test.YtfefclngfeihiaaSo
import Derived.Test.YtfefclngfeihiaaVp
import Derived.Test.YtfefclngfeihiaaSt
import Derived.Outline
namespace Go.Proofs.Ytfefclngfeihiaa
open Go.RowKit
set_option linter.unusedVariables false
set_option linter.unusedSimpArgs false

theorem wrapI16 (n : Int) : IntKind.i16.wrap n = (n + 32768) % 65536 - 32768 := by
  simp [IntKind.wrap, IntKind.bits, IntKind.signed]
  split <;> omega
section
variable (s x : Int) (m : Nat) (F T : Nat → Int)
/-- where a section begins then -/
def mvF (i : Nat) : Int := (F i + x) % s
theorem mvF_tmod {i : Nat} (h : 0 ≤ F i + x) : (F i + x).tmod s = mvF s x F i := Int.tmod_eq_emod_of_nonneg h
theorem mvF_in {i : Nat} (h : 0 < s) : 0 ≤ mvF s x F i ∧ mvF s x F i < s := ⟨Int.emod_nonneg _ (by omega), Int.emod_lt_of_pos _ h⟩
/-- the sections, moved -/
def mvL : List (Int × Int) := (List.range m).map fun i => (mvF s x F i, T i)
/-- the first section of the new day, the last d having been looked at -/
def stD : Nat → Nat
  | 0 => m
  | d + 1 => if s ≤ F (m - (d + 1)) + x then m - (d + 1) else stD d
theorem stD_zero : stD s x m F 0 = m := rfl
theorem stD_yes {d : Nat} (h : s ≤ F (m - (d + 1)) + x) : stD s x m F (d + 1) = m - (d + 1) := if_pos h
theorem stD_no {d : Nat} (h : ¬ s ≤ F (m - (d + 1)) + x) : stD s x m F (d + 1) = stD s x m F d := if_neg h
theorem stD_le (d : Nat) : stD s x m F d ≤ m := by
  induction d with
  | zero => exact Nat.le_refl _
  | succ d ih => rw [stD]; split <;> omega
def stN : Nat := stD s x m F m
theorem stN_def : stN s x m F = stD s x m F m := rfl
/-- the sections in the order of the new day -/
def rotL : List (Int × Int) := (List.range m).map fun j => (mvF s x F ((stN s x m F + j) % m), T ((stN s x m F + j) % m))
/-- a section crosses midnight -/
def crQ (i : Nat) : Bool := decide (F i + x < s) && decide (s < F i + x + T i)
def crB : Bool := anyB (crQ s x F T) m
/-- a quarter's section then -/
def tuO (O : Nat → Int) (q : Nat) : Int := if 0 ≤ O q then (O q - (stN s x m F : Int) + m) % m else -1
theorem crQ_yes {i : Nat} (h1 : F i + x < s) (h2 : s < F i + x + T i) : crQ s x F T i = true := by unfold crQ; rw [decide_eq_true h1, decide_eq_true h2]; rfl
theorem crQ_no {i : Nat} (h : ¬ (F i + x < s ∧ s < F i + x + T i)) : crQ s x F T i = false := by
  unfold crQ
  by_cases h1 : F i + x < s
  · rw [decide_eq_false (fun h2 => h ⟨h1, h2⟩), Bool.and_false]
  · rw [decide_eq_false h1]; rfl
theorem tuO_yes {O : Nat → Int} {q : Nat} (h : 0 ≤ O q) : tuO s x m F O q = (O q - (stN s x m F : Int) + m) % m := if_pos h
theorem tuO_no {O : Nat → Int} {q : Nat} (h : ¬ 0 ≤ O q) : tuO s x m F O q = -1 := if_neg h
theorem mvL_len : (mvL s x m F T).length = m := by simp [mvL]
theorem rotL_len : (rotL s x m F T).length = m := by simp [rotL]
theorem mvL_get {i : Nat} (h : i < m) : (mvL s x m F T).getD i (0, 0) = (mvF s x F i, T i) := by simp [mvL, List.getD, h]
theorem mv_take {k : Nat} (h : k < m) : (mvL s x m F T).take (k + 1) = (mvL s x m F T).take k ++ [(mvF s x F k, T k)] := by
  rw [List.take_add_one]
  congr 1
  simp [mvL, h]
theorem mv_take_len {k : Nat} (h : k ≤ m) : ((mvL s x m F T).take k).length = k := by rw [List.length_take, mvL_len]; omega
theorem mv_take_all : (mvL s x m F T).take m = mvL s x m F T := List.take_of_length_le (by rw [mvL_len]; exact Nat.le_refl _)
theorem rot_take {k : Nat} (h : k < m) : (rotL s x m F T).take (k + 1) = (rotL s x m F T).take k ++ [(mvF s x F ((stN s x m F + k) % m), T ((stN s x m F + k) % m))] := by
  rw [List.take_add_one]
  congr 1
  simp [rotL, h]
theorem rot_take_len {k : Nat} (h : k ≤ m) : ((rotL s x m F T).take k).length = k := by rw [List.length_take, rotL_len]; omega
theorem rot_take_all : (rotL s x m F T).take m = rotL s x m F T := List.take_of_length_le (by rw [rotL_len]; exact Nat.le_refl _)
theorem rotL_get {j : Nat} (h : j < m) : (rotL s x m F T).getD j (0, 0) = (mvF s x F ((stN s x m F + j) % m), T ((stN s x m F + j) % m)) := by simp [rotL, List.getD, h]
theorem crB_yes {i : Nat} (hi : i < m) (h : crQ s x F T i = true) : crB s x m F T = true := anyB_iff.2 ⟨i, hi, h⟩
theorem crB_no (h : ∀ i, i < m → crQ s x F T i = false) : crB s x m F T = false := anyB_false h
variable {s x m F T}
theorem secs_mono (h : ∀ k, k < m → endTo F T k ≤ F k ∧ F k < s ∧ 1 ≤ T k ∧ F k + T k ≤ s) : ∀ d i, i + d + 1 < m → F i + T i ≤ F (i + d + 1) := by
  intro d
  induction d with
  | zero =>
    intro i hi
    have h1 := (h (i + 1) hi).1
    rw [endTo_succ] at h1
    exact h1
  | succ d ih =>
    intro i hi
    have h1 := ih i (by omega)
    have h2 := (h (i + (d + 1) + 1) hi).1
    rw [endTo_succ] at h2
    have h3 := (h (i + d + 1) (by omega)).2.2.1
    have e : i + (d + 1) = i + d + 1 := by omega
    rw [e] at h2 ⊢
    omega
section
variable (h : ∀ k, k < m → endTo F T k ≤ F k ∧ F k < s ∧ 1 ≤ T k ∧ F k + T k ≤ s) (hx : 0 ≤ x ∧ x < s)
include h
theorem secs_lt {i j : Nat} (hij : i < j) (hj : j < m) : F i + T i ≤ F j := by
  have h1 := secs_mono h (j - i - 1) i (by omega)
  rwa [show i + (j - i - 1) + 1 = j by omega] at h1
theorem secs_zero {i : Nat} (hi : i < m) : 0 ≤ F i := by
  by_cases h0 : i = 0
  · subst h0; have := (h 0 hi).1; rwa [endTo_zero] at this
  · have h1 := secs_lt h (show 0 < i by omega) hi
    have h2 := (h 0 (by omega)).1
    have h3 := (h 0 (by omega)).2.2.1
    rw [endTo_zero] at h2
    omega
theorem stD_spec : ∀ d, d ≤ m → m - d ≤ stD s x m F d ∧ (∀ i, m - d ≤ i → i < stD s x m F d → F i + x < s) ∧ ∀ i, stD s x m F d ≤ i → i < m → s ≤ F i + x := by
  intro d
  induction d with
  | zero => intro _; rw [stD_zero]; exact ⟨by omega, fun i h1 h2 => by omega, fun i h1 h2 => by omega⟩
  | succ d ih =>
    intro hd
    obtain ⟨i0, i1, i2⟩ := ih (by omega)
    by_cases e : s ≤ F (m - (d + 1)) + x
    · rw [stD_yes s x m F e]
      refine ⟨Nat.le_refl _, fun i h1 h2 => by omega, fun i h1 h2 => ?_⟩
      by_cases e2 : i = m - (d + 1)
      · rw [e2]; exact e
      · have h3 := secs_lt h (show m - (d + 1) < i by omega) h2
        have h4 := (h (m - (d + 1)) (by omega)).2.2.1
        omega
    · rw [stD_no s x m F e]
      refine ⟨by omega, fun i h1 h2 => ?_, i2⟩
      by_cases e2 : i = m - (d + 1)
      · rw [e2]; omega
      · exact i1 i (by omega) h2
theorem stN_lo {i : Nat} (hi : i < stN s x m F) : F i + x < s := (stD_spec h m (Nat.le_refl _)).2.1 i (by omega) hi
theorem stN_hi {i : Nat} (h1 : stN s x m F ≤ i) (h2 : i < m) : s ≤ F i + x := (stD_spec h m (Nat.le_refl _)).2.2 i h1 h2
omit h in
theorem stN_le : stN s x m F ≤ m := stD_le s x m F m
include hx
theorem mvF_lo {i : Nat} (hi : i < stN s x m F) : mvF s x F i = F i + x := by
  have h1 := stN_lo h hi
  have h2 := secs_zero h (show i < m from Nat.lt_of_lt_of_le hi stN_le)
  exact Int.emod_eq_of_lt (by omega) h1
theorem mvF_hi {i : Nat} (h1 : stN s x m F ≤ i) (h2 : i < m) : mvF s x F i = F i + x - s := by
  have h3 := stN_hi h h1 h2
  have h4 := (h i h2).2.1
  unfold mvF
  rw [← Int.sub_emod_right (F i + x) s]
  exact Int.emod_eq_of_lt (by omega) (by omega)
theorem rot_at {j : Nat} (hj : j < m) : (stN s x m F + j < m ∧ (stN s x m F + j) % m = stN s x m F + j ∧ mvF s x F (stN s x m F + j) = F (stN s x m F + j) + x - s) ∨
    (m ≤ stN s x m F + j ∧ (stN s x m F + j) % m = stN s x m F + j - m ∧ stN s x m F + j - m < stN s x m F ∧ mvF s x F (stN s x m F + j - m) = F (stN s x m F + j - m) + x) := by
  have hle := stN_le (s := s) (x := x) (m := m) (F := F)
  by_cases e : stN s x m F + j < m
  · exact .inl ⟨e, Nat.mod_eq_of_lt e, mvF_hi h hx (by omega) e⟩
  · refine .inr ⟨by omega, ?_, by omega, mvF_lo h hx (by omega)⟩
    rw [Nat.mod_eq_sub_mod (by omega)]
    exact Nat.mod_eq_of_lt (by omega)
/-- what the turned list holds at a place -/
theorem rot_chain {j : Nat} (hj : j < m) : ∃ f t, (rotL s x m F T).getD j (0, 0) = (f, t) ∧ 0 ≤ f ∧ f < s ∧ 1 ≤ t ∧ (j + 1 < m → f + t ≤ ((rotL s x m F T).getD (j + 1) (0, 0)).1) ∧ (j + 1 = m → (f + t ≤ s ↔ crB s x m F T = false)) := by
  have hle := stN_le (s := s) (x := x) (m := m) (F := F)
  refine ⟨_, _, rotL_get s x m F T hj, ?_⟩
  have hcr : ∀ i, i < m → F i + x < s → s < F i + x + T i → i + 1 = stN s x m F := by
    intro i hi h1 h2
    have h3 : i < stN s x m F := by
      apply Classical.byContradiction
      intro e
      have := stN_hi h (show stN s x m F ≤ i by omega) hi
      omega
    apply Classical.byContradiction
    intro e
    have h4 := stN_lo h (show i + 1 < stN s x m F by omega)
    have h5 := secs_lt h (show i < i + 1 by omega) (show i + 1 < m by omega)
    omega
  rcases rot_at h hx hj with ⟨h1, h2, h3⟩ | ⟨h1, h2, h0, h3⟩
  · rw [h2, h3]
    have a1 := h _ h1
    have a2 := stN_hi h (show stN s x m F ≤ stN s x m F + j by omega) h1
    refine ⟨by omega, by omega, a1.2.2.1, fun hj2 => ?_, fun hj2 => ?_⟩
    · rw [rotL_get s x m F T hj2]
      rcases rot_at h hx hj2 with ⟨b1, b2, b3⟩ | ⟨b1, b2, b0, b3⟩
      · rw [b2]
        show _ ≤ mvF s x F (stN s x m F + (j + 1))
        rw [b3]
        have := secs_lt h (show stN s x m F + j < stN s x m F + (j + 1) by omega) b1
        omega
      · rw [b2]
        show _ ≤ mvF s x F (stN s x m F + (j + 1) - m)
        rw [b3]
        have := secs_zero h (show stN s x m F + (j + 1) - m < m by omega)
        omega
    · have hst : stN s x m F = 0 := by omega
      refine ⟨fun _ => anyB_false fun i hi => crQ_no s x F T fun hc => ?_, fun _ => by omega⟩
      have := hcr i hi hc.1 hc.2
      omega
  · rw [h2, h3]
    have a1 := h _ (show stN s x m F + j - m < m by omega)
    have a2 := stN_lo h h0
    have a3 := secs_zero h (show stN s x m F + j - m < m by omega)
    refine ⟨by omega, by omega, a1.2.2.1, fun hj2 => ?_, fun hj2 => ?_⟩
    · rw [rotL_get s x m F T hj2]
      rcases rot_at h hx hj2 with ⟨b1, b2, b3⟩ | ⟨b1, b2, b0, b3⟩
      · omega
      · rw [b2]
        show _ ≤ mvF s x F (stN s x m F + (j + 1) - m)
        rw [b3]
        have := secs_lt h (show stN s x m F + j - m < stN s x m F + (j + 1) - m by omega) (by omega)
        omega
    · refine ⟨fun h4 => anyB_false fun i hi => crQ_no s x F T fun hc => ?_, fun h4 => ?_⟩
      · have h5 := hcr i hi hc.1 hc.2
        have h6 : i = stN s x m F + j - m := by omega
        rw [h6] at hc
        omega
      · apply Classical.byContradiction
        intro h5
        have h6 : crB s x m F T = true := anyB_iff.2 ⟨_, show stN s x m F + j - m < m by omega, crQ_yes s x F T a2 (by omega)⟩
        rw [h6] at h4
        cases h4
/-- the turned list is in order -/
theorem rot_lt {i j : Nat} (hij : i < j) (hj : j < m) : ((rotL s x m F T).getD i (0, 0)).1 < ((rotL s x m F T).getD j (0, 0)).1 := by
  have key : ∀ d i, i + d + 1 < m → ((rotL s x m F T).getD i (0, 0)).1 < ((rotL s x m F T).getD (i + d + 1) (0, 0)).1 := by
    intro d
    induction d with
    | zero =>
      intro i hi
      obtain ⟨f, t, e, _, _, ht, hn, _⟩ := rot_chain h hx (show i < m by omega)
      have := hn hi
      rw [e]
      show f < _
      simp only [Nat.add_zero]
      omega
    | succ d ih =>
      intro i hi
      have h1 := ih i (by omega)
      obtain ⟨f, t, e, _, _, ht, hn, _⟩ := rot_chain h hx (show i + d + 1 < m by omega)
      have := hn hi
      rw [e] at h1
      have e2 : i + (d + 1) + 1 = i + d + 1 + 1 := by omega
      rw [e2]
      omega
  have := key (j - i - 1) i (by omega)
  rwa [show i + (j - i - 1) + 1 = j by omega] at this
theorem rot_str : StrN (rotL s x m F T) := by
  unfold StrN
  rw [List.pairwise_iff_getElem]
  intro i j hi hj hij
  rw [rotL_len] at hi hj
  have := rot_lt h hx hij hj
  rw [getD_at (by rw [rotL_len]; exact hi), getD_at (by rw [rotL_len]; exact hj)] at this
  exact bfN_iff.2 (.inl this)
omit h hx in
theorem rot_mem (z : Int × Int) : z ∈ rotL s x m F T ↔ z ∈ mvL s x m F T := by
  have hle := stN_le (s := s) (x := x) (m := m) (F := F)
  unfold rotL mvL
  simp only [List.mem_map, List.mem_range]
  constructor
  · rintro ⟨j, hj, rfl⟩
    exact ⟨_, Nat.mod_lt _ (by omega), rfl⟩
  · rintro ⟨i, hi, rfl⟩
    by_cases e : stN s x m F ≤ i
    · refine ⟨i - stN s x m F, by omega, ?_⟩
      rw [show stN s x m F + (i - stN s x m F) = i by omega, Nat.mod_eq_of_lt hi]
    · refine ⟨i + m - stN s x m F, by omega, ?_⟩
      rw [show stN s x m F + (i + m - stN s x m F) = i + m by omega, Nat.add_mod_right, Nat.mod_eq_of_lt hi]
omit h hx in
/-- the place of a section in the turned list -/
theorem rot_place {k : Nat} (hk : k < m) : ∃ p : Nat, p < m ∧ (p : Int) = ((k : Int) - (stN s x m F : Int) + m) % m ∧ (rotL s x m F T).getD p (0, 0) = (mvF s x F k, T k) := by
  have hle := stN_le (s := s) (x := x) (m := m) (F := F)
  by_cases e : stN s x m F ≤ k
  · refine ⟨k - stN s x m F, by omega, ?_, ?_⟩
    · rw [Int.add_emod_right, Int.emod_eq_of_lt (by omega) (by omega)]; omega
    · rw [rotL_get s x m F T (by omega), show stN s x m F + (k - stN s x m F) = k by omega, Nat.mod_eq_of_lt hk]
  · refine ⟨k + m - stN s x m F, by omega, ?_, ?_⟩
    · rw [Int.emod_eq_of_lt (by omega) (by omega)]; omega
    · rw [rotL_get s x m F T (by omega), show stN s x m F + (k + m - stN s x m F) = k + m by omega, Nat.add_mod_right, Nat.mod_eq_of_lt hk]
/-- equal places hold the same -/
theorem rot_inj {i j : Nat} (hi : i < m) (hj : j < m) (e : ((rotL s x m F T).getD i (0, 0)).1 = ((rotL s x m F T).getD j (0, 0)).1) : i = j := by
  rcases Nat.lt_trichotomy i j with h1 | h1 | h1
  · have := rot_lt h hx h1 hj; omega
  · exact h1
  · have := rot_lt h hx h1 hi; omega
theorem mv_inj {i j : Nat} (hi : i < m) (hj : j < m) (e : mvF s x F i = mvF s x F j) : i = j := by
  obtain ⟨p, hp, hpe, hpg⟩ := rot_place (s := s) (x := x) (F := F) (T := T) hi
  obtain ⟨q, hq, hqe, hqg⟩ := rot_place (s := s) (x := x) (F := F) (T := T) hj
  have h1 := rot_inj h hx hp hq (by rw [hpg, hqg]; exact e)
  subst h1
  have hle := stN_le (s := s) (x := x) (m := m) (F := F)
  rw [hpg] at hqg
  rw [hpe] at hqe
  by_cases e1 : stN s x m F ≤ i <;> by_cases e2 : stN s x m F ≤ j
  · rw [mvF_hi h hx e1 hi, mvF_hi h hx e2 hj] at e
    rcases Nat.lt_trichotomy i j with h1 | h1 | h1
    · have := secs_lt h h1 hj; have := (h i hi).2.2.1; omega
    · exact h1
    · have := secs_lt h h1 hi; have := (h j hj).2.2.1; omega
  · rw [mvF_hi h hx e1 hi, mvF_lo h hx (by omega)] at e
    have := (h i hi).2.1; have := secs_zero h hj; omega
  · rw [mvF_lo h hx (by omega), mvF_hi h hx e2 hj] at e
    have := (h j hj).2.1; have := secs_zero h hi; omega
  · rw [mvF_lo h hx (by omega), mvF_lo h hx (by omega)] at e
    rcases Nat.lt_trichotomy i j with h1 | h1 | h1
    · have := secs_lt h h1 hj; have := (h i hi).2.2.1; omega
    · exact h1
    · have := secs_lt h h1 hi; have := (h j hj).2.2.1; omega
/-- the moved sections, put in order, are the turned list -/
theorem sorted_rot {d : Array (Int × Int)} (hp : d.toList.Perm (mvL s x m F T)) (hs : ∀ i j, i < j → j < d.size → ¬ d[j]!.1 < d[i]!.1) : d.toList = rotL s x m F T := by
  have hnd : (mvL s x m F T).Pairwise fun a b => a.1 ≠ b.1 := by
    rw [List.pairwise_iff_getElem]
    intro i j hi hj hij e
    rw [mvL_len] at hi hj
    rw [← getD_at (by rw [mvL_len]; exact hi), ← getD_at (by rw [mvL_len]; exact hj), mvL_get s x m F T hi, mvL_get s x m F T hj] at e
    have := mv_inj h hx hi hj e
    omega
  have hd2 : d.toList.Pairwise fun a b => a.1 ≠ b.1 := (hp.pairwise_iff (fun hne => Ne.symm hne)).2 hnd
  refine StrN.uniq ?_ (rot_str h hx) fun z => (hp.mem_iff).trans (rot_mem z).symm
  unfold StrN
  rw [List.pairwise_iff_getElem] at hd2 ⊢
  intro i j hi hj hij
  have h1 := hd2 i j hi hj hij
  have h2 := hs i j hij (by simpa using hj)
  have e1 : d[i]! = d.toList[i] := by rw [Array.length_toList] at hi; rw [getElem!_pos d i hi]; simp
  have e2 : d[j]! = d.toList[j] := by rw [Array.length_toList] at hj; rw [getElem!_pos d j hj]; simp
  rw [e1, e2] at h2
  exact bfN_iff.2 (.inl (by omega))
/-- the turned sections are good unless one crosses midnight -/
theorem rot_secs (hm : m ≤ 12) : vSecs s m (fun i => ((rotL s x m F T).getD i (0, 0)).1) (fun i => ((rotL s x m F T).getD i (0, 0)).2) = !crB s x m F T := by
  cases hc : crB s x m F T
  · refine vSecs_iff.2 ⟨hm, fun k hk => ?_⟩
    obtain ⟨f, t, e, h0, h1, h2, h3, h4⟩ := rot_chain h hx hk
    have hend : endTo (fun i => ((rotL s x m F T).getD i (0, 0)).1) (fun i => ((rotL s x m F T).getD i (0, 0)).2) k ≤ f := by
      cases k with
      | zero => rw [endTo_zero]; exact h0
      | succ k =>
        rw [endTo_succ]
        obtain ⟨f', t', e', _, _, _, h3', _⟩ := rot_chain h hx (show k < m by omega)
        have := h3' hk
        rw [e] at this
        simp only [e']
        exact this
    simp only [e]
    refine ⟨hend, h1, h2, ?_⟩
    by_cases hl : k + 1 < m
    · obtain ⟨f', t', e', _, h1', _, _, _⟩ := rot_chain h hx hl
      have := h3 hl
      rw [e'] at this
      simp only at this
      omega
    · exact (h4 (by omega)).2 hc
  · refine vSecs_false fun hv => ?_
    by_cases hm0 : m = 0
    · subst hm0
      have : crB s x 0 F T = false := anyB_false fun i hi => by omega
      rw [this] at hc
      cases hc
    · obtain ⟨f, t, e, _, _, _, _, h4⟩ := rot_chain h hx (show m - 1 < m by omega)
      have h5 := (hv.2 (m - 1) (by omega)).2.2.2
      simp only [e] at h5
      rw [(h4 (by omega)).1 h5] at hc
      cases hc
end
end
attribute [irreducible] mvF mvL stD stN rotL crQ crB tuO
end Go.Proofs.Ytfefclngfeihiaa
