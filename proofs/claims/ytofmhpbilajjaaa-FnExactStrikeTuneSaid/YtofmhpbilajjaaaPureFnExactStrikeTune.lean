/- The Go program's StrikeTune returns what the reference's StrikeTune returns, for all arguments, in memory of its own: the plain statement, over numbers and lists. No conditions. -/
import Derived.Test.YtofmhpbilajjaaaPFnExactStrikeTunex3
namespace Go.Proofs.Ytofmhpbilajjaaa.Pure
open Go.RowKit Go.Proofs.Ytofmhpbilajjaaa.PFnExactStrikeTune Go.Proofs.YtofmhpbilajjaaaW.PrintWords Go.Proofs.YtofmhpbilajjaaaW.PrintLast

theorem wrap_id {x : Int} (h0 : -9223372036854775808 ≤ x) (h : x ≤ 9223372036854775807) : wrap64 x = x := by
  unfold wrap64
  omega

theorem in_spec (a b c : Int) : spec_l00In.f a b c = some (decide (b ≤ a ∧ a ≤ c)) := by
  unfold spec_l00In.f
  split
  · congr 1; simp; omega
  · congr 1; simp; omega

theorem in_impl (a b c : Int) : impl_within.f a b c = some (decide (b ≤ a ∧ a ≤ c)) := by
  unfold impl_within.f
  split
  · congr 1; simp; omega
  · congr 1; simp; omega

theorem eq_note (a b : Int) : laws_eqNote.f a b a b = some true := by
  unfold laws_eqNote.f
  rw [if_pos rfl, if_pos rfl]

theorem eq_self (xs : List S102) (hn : xs.length ≤ 1000000) (d : Nat) : ∀ (k : Nat) (i : Int), 0 ≤ i → i ≤ xs.length → (xs.length : Int) - i = d → d < k →
    laws_eqTune.l0 k xs xs i = some true := by
  induction d with
  | zero =>
    intro k i h0 h1 hd hk
    obtain ⟨k, rfl⟩ : ∃ m, k = m + 1 := ⟨k - 1, by omega⟩
    simp only [laws_eqTune.l0]
    rw [if_neg (by omega)]
  | succ d ih =>
    intro k i h0 h1 hd hk
    obtain ⟨k, rfl⟩ : ∃ m, k = m + 1 := ⟨k - 1, by omega⟩
    simp only [laws_eqTune.l0]
    rw [if_pos (by omega), if_pos h0, if_pos (by omega), eq_note]
    simp only [Option.bind_some, if_true]
    rw [wrap_id (by omega) (by omega)]
    exact ih k (i + 1) (by omega) (by omega) (by omega) (by omega)

/-- A row whose elements from place i on bear the marks from m on. -/
def Marked (xs : List S102) (i m : Int) : Prop :=
  ∀ j : Nat, i ≤ j → j < xs.length → xs.getD j z102 = ⟨IntKind.i16.wrap (m + 2 * (j - i)), IntKind.i8.wrap (m + 2 * (j - i) + 1)⟩

theorem mark_tells (d : Nat) : ∀ (k : Nat) (xs : List S102) (m i : Int), xs.length ≤ 1000000 → 0 ≤ m → m ≤ 10000000 + 2 * i → 0 ≤ i → i ≤ xs.length → (xs.length : Int) - i = d → d < k →
    ∃ ys, laws_markTune.l0 k xs m i = some (m + 2 * d, ys) ∧ ys.length = xs.length ∧ (∀ j : Nat, j < i → ys.getD j z102 = xs.getD j z102) ∧ Marked ys i m := by
  induction d with
  | zero =>
    intro k xs m i hn hm0 hm h0 h1 hd hk
    obtain ⟨k, rfl⟩ : ∃ m, k = m + 1 := ⟨k - 1, by omega⟩
    refine ⟨xs, ?_, rfl, fun _ _ => rfl, fun j hj hj' => by omega⟩
    simp only [laws_markTune.l0]
    rw [if_neg (by omega)]
    simp
  | succ d ih =>
    intro k xs m i hn hm0 hm h0 h1 hd hk
    obtain ⟨k, rfl⟩ : ∃ m, k = m + 1 := ⟨k - 1, by omega⟩
    obtain ⟨n, rfl⟩ := Int.eq_ofNat_of_zero_le h0
    let y1 := xs.set n (⟨IntKind.i16.wrap m, (rd_T102 xs n).f1⟩ : S102)
    let y2 := y1.set n (⟨(rd_T102 y1 n).f0, IntKind.i8.wrap (m + 1)⟩ : S102)
    have hl1 : y1.length = xs.length := by simp [y1]
    have hl2 : y2.length = xs.length := by simp [y2, hl1]
    obtain ⟨ys, hr, hl, hold, hmk⟩ := ih k y2 (m + 2) (n + 1) (by omega) (by omega) (by omega) (by omega) (by omega) (by omega) (by omega)
    have hn2 : y2.getD n z102 = ⟨IntKind.i16.wrap m, IntKind.i8.wrap (m + 1)⟩ := by
      have hlt : n < xs.length := by omega
      simp [y2, y1, rd_T102, List.getD, hlt]
    refine ⟨ys, ?_, by omega, ?_, ?_⟩
    · simp only [laws_markTune.l0]
      rw [if_pos (by omega), if_pos h0]
      simp only [Option.bind_some, Int.toNat_natCast]
      rw [wrap_id (x := m + 1) (by omega) (by omega), wrap_id (x := m + 1 + 1) (by omega) (by omega), wrap_id (x := (n : Int) + 1) (by omega) (by omega), show m + 1 + 1 = m + 2 from by omega]
      have hr' := hr
      simp only [y2, y1] at hr'
      rw [hr']
      congr 2
      omega
    · intro j hj
      rw [hold j (by omega)]
      have hjn : n ≠ j := by omega
      simp [y2, y1, List.getD, List.getElem?_set_ne hjn]
    · intro j hj hj'
      by_cases e : j = n
      · subst e
        rw [hold j (by omega), hn2]
        simp
      · have := hmk j (by omega) hj'
        rw [this]
        rw [show m + 2 + 2 * ((j : Int) - (n + 1)) = m + 2 * (j - n) from by omega]

theorem held_tells (d : Nat) : ∀ (k : Nat) (xs : List S102) (m i : Int), xs.length ≤ 1000000 → 0 ≤ m → m ≤ 10000000 + 2 * i → 0 ≤ i → i ≤ xs.length → (xs.length : Int) - i = d → d < k → Marked xs i m →
    laws_heldTune.l0 k xs m i = some (m + 2 * d) := by
  induction d with
  | zero =>
    intro k xs m i hn hm0 hm h0 h1 hd hk hM
    obtain ⟨k, rfl⟩ : ∃ m, k = m + 1 := ⟨k - 1, by omega⟩
    simp only [laws_heldTune.l0]
    rw [if_neg (by omega)]
    simp
  | succ d ih =>
    intro k xs m i hn hm0 hm h0 h1 hd hk hM
    obtain ⟨k, rfl⟩ : ∃ m, k = m + 1 := ⟨k - 1, by omega⟩
    obtain ⟨n, rfl⟩ := Int.eq_ofNat_of_zero_le h0
    have hrd : rd_T102 xs (n : Int) = ⟨IntKind.i16.wrap m, IntKind.i8.wrap (m + 1)⟩ := by
      have := hM n (by omega) (by omega)
      simp only [Int.sub_self, Int.mul_zero, Int.add_zero] at this
      simpa [rd_T102] using this
    simp only [laws_heldTune.l0]
    rw [if_pos (by omega), if_pos h0, hrd, wrap_id (x := m + 1) (by omega) (by omega)]
    simp only [if_true]
    rw [wrap_id (x := m + 1 + 1) (by omega) (by omega), wrap_id (x := (n : Int) + 1) (by omega) (by omega), show m + 1 + 1 = m + 2 from by omega]
    rw [ih k xs (m + 2) (n + 1) hn (by omega) (by omega) (by omega) (by omega) (by omega) (by omega)]
    · congr 1; omega
    · intro j hj hj'
      have := hM j (by omega) hj'
      rw [this]
      rw [show m + 2 + 2 * ((j : Int) - (n + 1)) = m + 2 * (j - n) from by omega]

theorem strikes (hour pitch gap : Int) (hh : hour ≤ 12) (hg0 : 1 ≤ gap) (hg : gap ≤ 16) (d : Nat) : ∀ (k : Nat) (acc : List S102) (i : Int), 0 ≤ i → i ≤ hour → hour - i = d → d < k → acc.length + d ≤ 12 →
    ∃ r, spec_l04Strikes.l0 k hour pitch gap 0 acc i = some r ∧ impl_StrikeTune.l0 k pitch gap acc hour i = some (r, 0) ∧ r.length ≤ 12 := by
  induction d with
  | zero =>
    intro k acc i h0 h1 hd hk hl
    obtain ⟨k, rfl⟩ : ∃ m, k = m + 1 := ⟨k - 1, by omega⟩
    refine ⟨acc, ?_, ?_, by omega⟩
    · simp only [spec_l04Strikes.l0]
      rw [if_neg (by omega)]
    · simp only [impl_StrikeTune.l0]
      rw [if_neg (by omega)]
  | succ d ih =>
    intro k acc i h0 h1 hd hk hl
    obtain ⟨k, rfl⟩ : ∃ m, k = m + 1 := ⟨k - 1, by omega⟩
    have hp0 : 0 ≤ i * gap := Int.mul_nonneg h0 (by omega)
    have hp1 : i * gap ≤ 12 * 16 := Int.le_trans (Int.mul_le_mul_of_nonneg_right (show i ≤ 12 by omega) (by omega)) (Int.mul_le_mul_of_nonneg_left hg (by omega))
    obtain ⟨r, hs, hi, hr⟩ := ih k (acc ++ [(⟨IntKind.i16.wrap (i * gap), IntKind.i8.wrap pitch⟩ : S102)]) (i + 1) (by omega) (by omega) (by omega) (by omega) (by simp; omega)
    refine ⟨r, ?_, ?_, hr⟩
    · simp only [spec_l04Strikes.l0]
      rw [if_pos (by omega), if_pos (by omega), Int.zero_add, wrap_id (x := i * gap) (by omega) (by omega), wrap_id (x := i * gap) (by omega) (by omega), wrap_id (x := i + 1) (by omega) (by omega)]
      exact hs
    · simp only [impl_StrikeTune.l0]
      rw [if_pos (by omega), if_pos (by omega), wrap_id (x := i * gap) (by omega) (by omega), wrap_id (x := i + 1) (by omega) (by omega)]
      exact hi

/-- What both functions hand back. -/
theorem both (k : Nat) (hk : 20 ≤ k) (hour pitch gap : Int) : ∃ r c, spec_StrikeTune.f k hour pitch gap = some (r, c) ∧ impl_StrikeTune.f k hour pitch gap = some (r, c) ∧ r.length ≤ 12 := by
  obtain ⟨k, rfl⟩ : ∃ m, k = m + 1 := ⟨k - 1, by omega⟩
  by_cases h1 : 1 ≤ hour ∧ hour ≤ 12
  · by_cases h2 : 0 ≤ pitch ∧ pitch ≤ 47
    · by_cases h3 : 1 ≤ gap ∧ gap ≤ 16
      · obtain ⟨r, hs, _, hr⟩ := strikes hour pitch gap h1.2 h3.1 h3.2 hour.toNat (k + 1) [] 0 (by omega) (by omega) (by omega) (by omega) (by simp; omega)
        obtain ⟨r', hs', hi, _⟩ := strikes hour pitch gap h1.2 h3.1 h3.2 hour.toNat k [] 0 (by omega) (by omega) (by omega) (by omega) (by simp; omega)
        have hmono := spec_l04Strikes.mono_l k
        obtain ⟨r2, hs2, hi2, _⟩ := strikes hour pitch gap h1.2 h3.1 h3.2 hour.toNat k [] 0 (by omega) (by omega) (by omega) (by omega) (by simp; omega)
        have he : r = r' := by
          have h := hmono hour pitch gap 0 [] 0
          rw [hs'] at h
          have := h _ rfl
          rw [hs] at this
          exact Option.some.inj this
        subst he
        refine ⟨r, 0, ?_, ?_, hr⟩
        · unfold spec_StrikeTune.f spec_l04Bell.f
          simp only [in_spec, Option.bind_some, h1, h2, h3, and_self, decide_true, if_true]
          unfold spec_l04Strikes.f
          rw [hs]
          rfl
        · unfold impl_StrikeTune.f impl_isPitch.f
          simp only [in_impl, Option.bind_some, h1, h2, h3, and_self, decide_true, if_true]
          simp only [impl_StrikeTune.j0]
          simpa using hi
      · refine ⟨[], 2, ?_, ?_, by simp⟩
        · unfold spec_StrikeTune.f spec_l04Bell.f
          simp only [in_spec, Option.bind_some, h1, h2, h3, and_self, decide_true, decide_false, if_true]
          simp
        · unfold impl_StrikeTune.f impl_isPitch.f
          simp only [in_impl, Option.bind_some, h1, h2, h3, and_self, decide_true, decide_false, if_true]
          simp only [impl_StrikeTune.j0]
          simp
    · refine ⟨[], 2, ?_, ?_, by simp⟩
      · unfold spec_StrikeTune.f spec_l04Bell.f
        simp only [in_spec, Option.bind_some, h1, h2, and_self, decide_true, decide_false, if_true]
        simp
      · unfold impl_StrikeTune.f impl_isPitch.f
        simp only [in_impl, Option.bind_some, h1, h2, and_self, decide_true, decide_false, if_true]
        simp only [impl_StrikeTune.j0]
        simp
  · refine ⟨[], 2, ?_, ?_, by simp⟩
    · unfold spec_StrikeTune.f
      simp only [in_spec, Option.bind_some, h1, decide_false]
      simp
    · unfold impl_StrikeTune.f
      simp only [in_impl, Option.bind_some, h1, decide_false]
      simp only [impl_StrikeTune.j0]
      simp

/-- YOURS: ∀ (a0 : Int) (a1 : Int) (a2 : Int), (Lit.int .i64 a0).wf = true → (Lit.int .i64 a1).wf = true → (Lit.int .i64 a2).wf = true → ∃ k, laws_FnExactStrikeTune.f k a0 a1 a2 = some true -/
theorem FnExactStrikeTune : laws_FnExactStrikeTune.Pure := by
  intro a0 a1 a2 _ _ _
  refine ⟨42, ?_⟩
  have eqt : ∀ (k : Nat) (r : List S102), 20 ≤ k → r.length ≤ 12 → laws_eqTune.f k r r = some true := by
    intro k r hk hr
    unfold laws_eqTune.f
    rw [if_pos rfl]
    exact eq_self r (by omega) r.length k 0 (by omega) (by omega) (by omega) (by omega)
  obtain ⟨r, c, hs, hi, hr⟩ := both 42 (by omega) a0 a1 a2
  obtain ⟨r1, c1, hs1, hi1, hr1⟩ := both 41 (by omega) a0 a1 a2
  have hmono := impl_StrikeTune.mono a0 a1 a2 41
  have he : (r, c) = (r1, c1) := by
    rw [hi1] at hmono
    have := hmono _ rfl
    rw [hi] at this
    exact Option.some.inj this
  have he1 : r1 = r := (congrArg Prod.fst he).symm
  have he2 : c1 = c := (congrArg Prod.snd he).symm
  subst he1 he2
  obtain ⟨ys, hm, hl, _, hM⟩ := mark_tells r1.length 41 r1 1 0 (by omega) (by omega) (by omega) (by omega) (by omega) (by omega) (by omega)
  have hh : ∀ k, 20 ≤ k → laws_heldTune.f k ys 1 = some (1 + 2 * (r1.length : Int)) := by
    intro k hk
    unfold laws_heldTune.f
    rw [← hl]
    exact held_tells ys.length k ys 1 0 (by omega) (by omega) (by omega) (by omega) (by omega) (by omega) (by omega) hM
  unfold laws_FnExactStrikeTune.f
  rw [hs, hi]
  simp only [Option.bind_some]
  rw [eqt 42 r1 (by omega) hr1]
  simp only [Option.bind_some, if_true, bne_self_eq_false]
  simp only [laws_FnExactStrikeTune.j0]
  unfold laws_markTune.f
  rw [if_neg (by simp), hm]
  simp only [Option.bind_some]
  rw [hh 41 (by omega)]
  simp only [Option.bind_some]
  rw [if_neg (by omega), if_pos trivial, hi1]
  simp only [Option.bind_some]
  rw [eqt 41 r1 (by omega) hr1]
  simp only [Option.bind_some, if_true, bne_self_eq_false]
  simp only [laws_FnExactStrikeTune.j1]
  rw [if_neg (by simp), hh 40 (by omega)]
  simp only [Option.bind_some]
  rw [if_neg (by omega), if_pos trivial]

end Go.Proofs.Ytofmhpbilajjaaa.Pure
