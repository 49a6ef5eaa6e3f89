/- The whole chime of a quarter, by the reference and by the program. No conditions. -/
import Derived.Test.YteffaghcjpeblaaGreatCh
import Derived.Test.YteffaghcjpeblaaGreatCatN
import Derived.Outline
namespace Go.Proofs.YteffaghcjpeblaaGreat
open Go.RowKit
set_option linter.unusedVariables false
set_option linter.unusedSimpArgs false

/-! The whole chime of a quarter, by the reference and by the program. No conditions. -/
theorem i8_idW {x : Int} (h : -128 ≤ x ∧ x ≤ 127) : IntKind.i8.wrap x = x := by simp [IntKind.wrap, IntKind.bits, IntKind.signed]; omega
/-- a bell is struck so often -/
def stkL (p gap fr : Int) : Nat → List (Int × Int)
  | 0 => []
  | k + 1 => stkL p gap fr k ++ [(fr + (k : Int) * gap, p)]
theorem stkL_zero (p gap fr : Int) : stkL p gap fr 0 = [] := rfl
theorem stkL_succ (p gap fr : Int) (k : Nat) : stkL p gap fr (k + 1) = stkL p gap fr k ++ [(fr + (k : Int) * gap, p)] := rfl
theorem stkL_len (p gap fr : Int) (k : Nat) : (stkL p gap fr k).length = k := by
  induction k with
  | zero => rfl
  | succ k ih => rw [stkL_succ, List.length_append, ih]; rfl
theorem stkL_get (p gap fr : Int) (k i : Nat) (h : i < k) : (stkL p gap fr k).getD i (0, 0) = (fr + (i : Int) * gap, p) := by
  induction k with
  | zero => omega
  | succ k ih =>
    rw [stkL_succ]
    by_cases e : i = k
    · subst e
      have hl : i < (stkL p gap fr i ++ [(fr + (i : Int) * gap, p)]).length := by rw [List.length_append, stkL_len]; simp
      rw [getD_at hl, List.getElem_append_right (by rw [stkL_len]; exact Nat.le_refl _)]
      simp [stkL_len]
    · have hl : i < (stkL p gap fr k).length := by rw [stkL_len]; omega
      have hl2 : i < (stkL p gap fr k ++ [(fr + (k : Int) * gap, p)]).length := by rw [List.length_append]; omega
      rw [getD_at hl2, List.getElem_append_left hl, ← getD_at hl]
      exact ih (by omega)
theorem stkL_mem (p gap fr : Int) (k : Nat) (z : Int × Int) : z ∈ stkL p gap fr k ↔ ∃ i : Nat, i < k ∧ z = (fr + (i : Int) * gap, p) := by
  induction k with
  | zero => simp [stkL]
  | succ k ih =>
    rw [stkL_succ, List.mem_append, ih, List.mem_singleton]
    constructor
    · rintro (⟨i, hi, h⟩ | h)
      · exact ⟨i, by omega, h⟩
      · exact ⟨k, by omega, h⟩
    · rintro ⟨i, hi, h⟩
      by_cases e : i = k
      · subst e; exact .inr h
      · exact .inl ⟨i, by omega, h⟩
theorem stkL_str {p gap fr : Int} (hg : 1 ≤ gap) (k : Nat) : StrN (stkL p gap fr k) := by
  induction k with
  | zero => exact List.Pairwise.nil
  | succ k ih =>
    rw [stkL_succ]
    refine List.pairwise_append.2 ⟨ih, List.pairwise_singleton _ _, fun x hx y hy => ?_⟩
    obtain ⟨i, hi, rfl⟩ := (stkL_mem _ _ _ _ _).1 hx
    rw [List.mem_singleton.1 hy, bfN_iff]
    left
    have h1 : ((i : Int) + 1) * gap ≤ (k : Int) * gap := Int.mul_le_mul_of_nonneg_right (by omega) (by omega)
    rw [Int.add_mul] at h1
    simp only
    omega
attribute [irreducible] stkL
/-- the hour of a quarter -/
def hrQ (q : Nat) : Nat := if q < 4 then 12 else q / 4
theorem hrQ_low {q : Nat} (h : q < 4) : hrQ q = 12 := if_pos h
theorem hrQ_high {q : Nat} (h : ¬ q < 4) : hrQ q = q / 4 := if_neg h
theorem hrQ_bound {q : Nat} (h : q < 48) : 1 ≤ hrQ q ∧ hrQ q ≤ 12 := by unfold hrQ; split <;> omega
theorem hrQ_mod {q : Nat} (h : q < 48) : (q / 4 + 11) % 12 + 1 = hrQ q := by unfold hrQ; split <;> omega
attribute [irreducible] hrQ
/-- a list is a tune -/
def vL (l : List (Int × Int)) : Bool := vTune l.length (fun i => (l.getD i (0, 0)).1) (fun i => (l.getD i (0, 0)).2)
theorem vL_def (l : List (Int × Int)) : vTune l.length (fun i => (l.getD i (0, 0)).1) (fun i => (l.getD i (0, 0)).2) = vL l := rfl
theorem vL_str {l : List (Int × Int)} (h : StrN l) (hn : ∀ z ∈ l, noteB z.1 z.2 = true) : vL l = decide ((l.length : Int) ≤ 120) := vTune_str h hn
theorem vL_bad {l : List (Int × Int)} {z : Int × Int} (hz : z ∈ l) (h : noteB z.1 z.2 = false) : vL l = false := by
  obtain ⟨i, hi, rfl⟩ := List.mem_iff_getElem.1 hz
  unfold vL
  refine vTune_bad hi (tbad_note ?_)
  rw [getD_at hi]; exact h
attribute [irreducible] vL
theorem sxL_str (s : Int) (n : Nat) (P F S : Nat → Int) (D : Nat → Nat) (o : Int) : StrN (sxL s n P F S D o) := by
  by_cases h : o < 0
  · rw [sxL_no h]; exact List.Pairwise.nil
  · obtain ⟨k, rfl⟩ : ∃ k : Nat, o = k := ⟨o.toNat, by omega⟩
    rw [sxL_yes]; exact srtN_str _
theorem sxL_note {s : Int} {n : Nat} {P F S : Nat → Int} {D : Nat → Nat} {o : Int} {m : Nat} (hs : s ≤ 96) (hn : 0 < n) (hP : ∀ t, t < n → 0 ≤ P t ∧ P t ≤ 47) (hsec : ∀ k, k < m → 0 ≤ F k ∧ F k < s ∧ 1 ≤ S k ∧ F k + S k ≤ s) (ho : o ≤ (m : Int) - 1) :
    ∀ z ∈ sxL s n P F S D o, noteB z.1 z.2 = true ∧ z.1 < sxS S o := by
  by_cases h : o < 0
  · rw [sxL_no h]; intro z hz; exact absurd hz List.not_mem_nil
  · obtain ⟨k, rfl⟩ : ∃ k : Nat, o = k := ⟨o.toNat, by omega⟩
    rw [sxL_yes, sxS_yes]
    intro z hz
    refine ⟨sec_notes hs hn (hsec k (by omega)).1 hP z hz, ?_⟩
    rw [srtN_mem, ntL_mem] at hz
    obtain ⟨y, hy, rfl⟩ := hz
    obtain ⟨i, t, hi, ht, hp, rfl⟩ := (plL_mem _ n hn _ _).1 hy
    rw [plP_def, Bool.and_eq_true, inB_iff] at hp
    simp only; omega
/-- the chime with the strikes behind it is in order -/
theorem whole_str {L : List (Int × Int)} {p gap fr : Int} {h : Nat} (hL : StrN L) (hf : ∀ z ∈ L, z.1 < fr) (hg : 1 ≤ gap) : StrN (L ++ stkL p gap fr h) := by
  refine List.pairwise_append.2 ⟨hL, stkL_str hg h, fun x hx y hy => ?_⟩
  obtain ⟨i, hi, rfl⟩ := (stkL_mem _ _ _ _ _).1 hy
  rw [bfN_iff]
  left
  have h1 := hf x hx
  have h2 : 0 ≤ (i : Int) * gap := Int.mul_nonneg (by omega) (by omega)
  simp only
  omega
/-- WholeChime -/
def wcZ (s : Int) (n : Nat) (P R : Nat → Int) (D : Nat → Nat) (m : Nat) (F S O : Nat → Int) (q p gap : Int) : Int := wcode (whB s n P R D m F S O) (inB q 0 47 && (inB p 0 47 && inB gap 1 16))
def wcM (s : Int) (n : Nat) (P : Nat → Int) (D : Nat → Nat) (F S O : Nat → Int) (q p gap : Int) : List (Int × Int) := if q.toNat % 4 = 0 then sxL s n P F S D (O q.toNat) ++ stkL p gap (sxS S (O q.toNat)) (hrQ q.toNat) else sxL s n P F S D (O q.toNat)
def wcV (s : Int) (n : Nat) (P R : Nat → Int) (D : Nat → Nat) (m : Nat) (F S O : Nat → Int) (q p gap : Int) : List (Int × Int) :=
  if wcZ s n P R D m F S O q p gap = 0 then (if (sxL s n P F S D (O q.toNat)).length ≤ 120 then (if vL (wcM s n P D F S O q p gap) = true then wcM s n P D F S O q p gap else []) else []) else []
def wcC (s : Int) (n : Nat) (P R : Nat → Int) (D : Nat → Nat) (m : Nat) (F S O : Nat → Int) (q p gap : Int) : Int :=
  if wcZ s n P R D m F S O q p gap = 0 then (if (sxL s n P F S D (O q.toNat)).length ≤ 120 then (if vL (wcM s n P D F S O q p gap) = true then 0 else 3) else 3) else wcZ s n P R D m F S O q p gap
section
variable {s : Int} {n : Nat} {P R : Nat → Int} {D : Nat → Nat} {m : Nat} {F S O : Nat → Int} {q p gap z : Int}
theorem wc_no (h : wcZ s n P R D m F S O q p gap = z) (hz : ¬ z = 0) : wcV s n P R D m F S O q p gap = [] ∧ wcC s n P R D m F S O q p gap = z := by subst h; exact ⟨if_neg hz, if_neg hz⟩
theorem wc_long (h : wcZ s n P R D m F S O q p gap = 0) (h2 : ¬ (sxL s n P F S D (O q.toNat)).length ≤ 120) : wcV s n P R D m F S O q p gap = [] ∧ wcC s n P R D m F S O q p gap = 3 := by
  unfold wcV wcC; rw [if_pos h, if_pos h, if_neg h2, if_neg h2]; exact ⟨rfl, rfl⟩
theorem wc_bad (h : wcZ s n P R D m F S O q p gap = 0) (h2 : (sxL s n P F S D (O q.toNat)).length ≤ 120) (h3 : vL (wcM s n P D F S O q p gap) = false) : wcV s n P R D m F S O q p gap = [] ∧ wcC s n P R D m F S O q p gap = 3 := by
  have h4 : ¬ vL (wcM s n P D F S O q p gap) = true := by rw [h3]; simp
  unfold wcV wcC; rw [if_pos h, if_pos h, if_pos h2, if_pos h2, if_neg h4, if_neg h4]; exact ⟨rfl, rfl⟩
theorem wc_yes (h : wcZ s n P R D m F S O q p gap = 0) (h2 : (sxL s n P F S D (O q.toNat)).length ≤ 120) (h3 : vL (wcM s n P D F S O q p gap) = true) : wcV s n P R D m F S O q p gap = wcM s n P D F S O q p gap ∧ wcC s n P R D m F S O q p gap = 0 := by
  unfold wcV wcC; rw [if_pos h, if_pos h, if_pos h2, if_pos h2, if_pos h3, if_pos h3]; exact ⟨rfl, rfl⟩
theorem wcM_low {k : Nat} (h : k % 4 = 0) : wcM s n P D F S O (k : Int) p gap = sxL s n P F S D (O k) ++ stkL p gap (sxS S (O k)) (hrQ k) := by unfold wcM; rw [Int.toNat_natCast, if_pos h]
theorem wcM_not {k : Nat} (h : ¬ k % 4 = 0) : wcM s n P D F S O (k : Int) p gap = sxL s n P F S D (O k) := by unfold wcM; rw [Int.toNat_natCast, if_neg h]
theorem wcV_len : (wcV s n P R D m F S O q p gap).length ≤ 1000000 := by
  unfold wcV
  split
  · split
    · split
      · rename_i h
        have := (vTune_facts (show vTune _ _ _ = true by rw [vL_def]; exact h)).1
        omega
      · simp
    · simp
  · simp
end
theorem wcZ_def (s : Int) (n : Nat) (P R : Nat → Int) (D : Nat → Nat) (m : Nat) (F S O : Nat → Int) (q p gap : Int) : wcZ s n P R D m F S O q p gap = wcode (whB s n P R D m F S O) (inB q 0 47 && (inB p 0 47 && inB gap 1 16)) := rfl
attribute [irreducible] wcZ wcM wcV wcC
theorem mul_bound {k : Nat} {gap : Int} (hk : k ≤ 12) (hg : 1 ≤ gap ∧ gap ≤ 16) : 0 ≤ (k : Int) * gap ∧ (k : Int) * gap ≤ 192 :=
  ⟨Int.mul_nonneg (by omega) (by omega), by have := Int.mul_le_mul (show (k : Int) ≤ 12 by omega) hg.2 (by omega) (by omega); omega⟩
set_option maxRecDepth 100000 in
theorem l04Strikes_any (h : Nat) (p gap fr : Int) (w : World) (hh : h ≤ 12) (hp : 0 ≤ p ∧ p ≤ 47) (hg : 1 ≤ gap ∧ gap ≤ 16) (hf : 0 ≤ fr ∧ fr ≤ 96) :
    Calls Tryz.prog 59 #[.int .i64 (h : Int), .int .i64 p, .int .i64 gap, .int .i64 fr] w fun e w' => ∃ v, e = .returned v ∧ Below w.heap.size w w' ∧ OwnN w' w.heap.size v (stkL p gap fr h) := by
  have H0 := Lib.hid (show OwnN (w.alloc (.cells #[] 75)) w.heap.size (.slice (some ⟨w.heap.size, 0, none⟩) 0 0) (stkL p gap fr 0) by rw [stkL_zero]; exact OwnL.nil w w.heap.size (Nat.le_refl _))
  have HB0 := Lib.hid ((Below.refl w.heap.size w).alloc (Nat.le_refl _) (.cells #[] 75))
  have q4 := i8_idW (x := p) (by omega)
  go_enter Tryz.func59, Tryz.ntmps59
  go_wp2
  go_loopw [9, 10] (fun v i w' => Below w.heap.size w w' ∧ ∃ k : Nat, k ≤ h ∧ i = .int .i64 k ∧ OwnN w' w.heap.size v (stkL p gap fr k)) (fun _ i _ => h - (intOf i).toNat)
  case atStart => exact ⟨HB0.out, 0, by omega, rfl, H0.out⟩
  case round =>
    clear H0 HB0
    obtain ⟨hb, k, hk, rfl, hown⟩ := hrel
    by_cases hlt : k < h
    · have hlt' : (k : Int) < h := by omega
      have hmb := mul_bound (k := k) (gap := gap) (by omega) hg
      obtain ⟨y, hy⟩ : ∃ y, (k : Int) * gap = y := ⟨_, rfl⟩
      rw [hy] at hmb
      have q0 : IntKind.i64.wrap ((k : Int) * gap) = y := by rw [hy]; exact i64_id (by omega)
      have q1 := i64_id (x := fr + y) (by omega)
      have q2 := i16_idP (x := fr + y) (by omega)
      have HS := Lib.hid (show stkL p gap fr (k + 1) = stkL p gap fr k ++ [(fr + y, p)] by rw [stkL_succ, hy])
      have HL := Lib.hid (stkL_len p gap fr k)
      have HOA := Lib.hid (OwnN.alloc hown (.cells #[.int .i16 (fr + y), .int .i8 p] 75))
      have HB := Lib.hid hb
      have hsz := hb.size
      clear hown hb hy
      go_wp2_with (at_builtin; go_loud (refine append_notesT rfl _ _ rfl w.heap.size _ _ rfl HOA.out ⟨wr.heap.size, 0, none⟩ 1 1 [(fr + y, p)] rfl rfl (one_cells (enc := encN) (heap_alloc_new wr _)) (by rw [HL.out]; omega) (by simp; omega) ?_; intro v2 w2 hown2 hb2; have HO2 := Lib.hid hown2; have HB2 := Lib.hid hb2; clear hown2 hb2))
      go_roundw
      case rel => exact ⟨(HB.out.alloc hsz _).trans HB2.out, k + 1, by omega, by go_num, by rw [HS.out]; exact HO2.out⟩
      case measure => simp [intOf]; omega
    · have hkh : k = h := by omega
      subst hkh
      have HO := Lib.hid hown
      clear hown
      go_wp2
      go_ret
      exact ⟨_, rfl, hb, HO.out⟩
/-- StrikeTune may be called so -/
def skB (h : Nat) (p gap : Int) : Bool := inB h 1 12 && (inB p 0 47 && inB gap 1 16)
set_option maxRecDepth 100000 in
theorem strike_yes (h : Nat) (p gap : Int) (w : World) (hh : 1 ≤ h ∧ h ≤ 12) (hp : 0 ≤ p ∧ p ≤ 47) (hg : 1 ≤ gap ∧ gap ≤ 16) :
    Calls Tryz.prog 62 #[.int .i64 (h : Int), .int .i64 p, .int .i64 gap] w fun e w' => ∃ v, e = .returned (.tuple #[v, .int .i64 0]) ∧ Below w.heap.size w w' ∧ OwnN w' w.heap.size v (stkL p gap 0 h) := by
  have H0 := Lib.hid (show OwnN (w.alloc (.cells #[] 75)) w.heap.size (.slice (some ⟨w.heap.size, 0, none⟩) 0 0) (stkL p gap 0 0) by rw [stkL_zero]; exact OwnL.nil w w.heap.size (Nat.le_refl _))
  have HB0 := Lib.hid ((Below.refl w.heap.size w).alloc (Nat.le_refl _) (.cells #[] 75))
  have q4 := i8_idW (x := p) (by omega)
  have h1 : inB (h : Int) 1 12 = true := inB_true ⟨by omega, by omega⟩
  have h2 : inB p 0 47 = true := inB_true hp
  have h3 : inB gap 1 16 = true := inB_true hg
  go_enter Tryz.func62, Tryz.ntmps62
  go_wp2_with (first | (go_at_call 79; refine (within_any _ _ _ _).mono ?_; (first | rw [h1] | rw [h3]); rintro e w' ⟨rfl, rfl⟩) | (go_at_call 104; refine (isPitch_any _ _).mono ?_; rw [h2]; rintro e w' ⟨rfl, rfl⟩))
  clear h1 h2 h3
  go_loopw [8, 25] (fun v i w' => Below w.heap.size w w' ∧ ∃ k : Nat, k ≤ h ∧ i = .int .i64 k ∧ OwnN w' w.heap.size v (stkL p gap 0 k)) (fun _ i _ => h - (intOf i).toNat)
  case atStart => exact ⟨HB0.out, 0, by omega, rfl, H0.out⟩
  case round =>
    clear H0 HB0
    obtain ⟨hb, k, hk, rfl, hown⟩ := hrel
    by_cases hlt : k < h
    · have hlt' : (k : Int) < h := by omega
      have hmb := mul_bound (k := k) (gap := gap) (by omega) hg
      obtain ⟨y, hy⟩ : ∃ y, (k : Int) * gap = y := ⟨_, rfl⟩
      rw [hy] at hmb
      have q0 : IntKind.i64.wrap ((k : Int) * gap) = y := by rw [hy]; exact i64_id (by omega)
      have q2 := i16_idP (x := y) (by omega)
      have HS := Lib.hid (show stkL p gap 0 (k + 1) = stkL p gap 0 k ++ [(y, p)] by rw [stkL_succ, hy, Int.zero_add])
      have HL := Lib.hid (stkL_len p gap 0 k)
      have HOA := Lib.hid (OwnN.alloc hown (.cells #[.int .i16 y, .int .i8 p] 75))
      have HB := Lib.hid hb
      have hsz := hb.size
      clear hown hb hy
      go_wp2_with (at_builtin; go_loud (refine append_notesT rfl _ _ rfl w.heap.size _ _ rfl HOA.out ⟨wr.heap.size, 0, none⟩ 1 1 [(y, p)] rfl rfl (one_cells (enc := encN) (heap_alloc_new wr _)) (by rw [HL.out]; omega) (by simp; omega) ?_; intro v2 w2 hown2 hb2; have HO2 := Lib.hid hown2; have HB2 := Lib.hid hb2; clear hown2 hb2))
      go_roundw
      case rel => exact ⟨(HB.out.alloc hsz _).trans HB2.out, k + 1, by omega, by go_num, by rw [HS.out]; exact HO2.out⟩
      case measure => simp [intOf]; omega
    · have hkh : k = h := by omega
      subst hkh
      have HO := Lib.hid hown
      clear hown
      go_wp2
      refine bodyPost_ret (v := .tuple #[u8, .int .i64 0]) (by simp [results, Tryz.results62, go_sem]) rfl ⟨u8, rfl, hb, HO.out⟩
theorem strike_no (h : Nat) (p gap : Int) (w : World) (hh : 1 ≤ h ∧ h ≤ 12) (hno : (inB p 0 47 && inB gap 1 16) = false) :
    Calls Tryz.prog 62 #[.int .i64 (h : Int), .int .i64 p, .int .i64 gap] w fun e w' => e = .returned (.tuple #[.slice none 0 0, .int .i64 2]) ∧ w = w' := by
  have h1 : inB (h : Int) 1 12 = true := inB_true ⟨by omega, by omega⟩
  go_enter Tryz.func62, Tryz.ntmps62
  cases h2 : inB p 0 47
  · go_wp2_with (first | (go_at_call 79; refine (within_any _ _ _ _).mono ?_; rw [h1]; rintro e w' ⟨rfl, rfl⟩) | (go_at_call 104; refine (isPitch_any _ _).mono ?_; rw [h2]; rintro e w' ⟨rfl, rfl⟩))
    refine bodyPost_ret (v := .tuple #[.slice none 0 0, .int .i64 2]) (by simp [results, Tryz.results62, go_sem]) rfl ⟨rfl, rfl⟩
  · rw [h2, Bool.true_and] at hno
    go_wp2_with (first | (go_at_call 79; refine (within_any _ _ _ _).mono ?_; (first | rw [h1] | rw [hno]); rintro e w' ⟨rfl, rfl⟩) | (go_at_call 104; refine (isPitch_any _ _).mono ?_; rw [h2]; rintro e w' ⟨rfl, rfl⟩))
    refine bodyPost_ret (v := .tuple #[.slice none 0 0, .int .i64 2]) (by simp [results, Tryz.results62, go_sem]) rfl ⟨rfl, rfl⟩
theorem hourOf_any (q : Nat) (w : World) (hq : q < 48) : Calls Tryz.prog 63 #[.int .i64 (q : Int)] w fun e w' => e = .returned (.int .i64 (hrQ q : Nat)) ∧ w = w' := by
  have hm := hrQ_mod hq
  obtain ⟨h4, hh4⟩ : ∃ y, q / 4 = y := ⟨_, rfl⟩
  have e1 : (q : Int).tdiv 4 = (h4 : Int) := by rw [← hh4]; rfl
  have e1' : (q : Int) / 4 = (h4 : Int) := by rw [← hh4]; rfl
  rw [hh4] at hm
  have hb : h4 < 12 := by omega
  obtain ⟨r, hr⟩ : ∃ y, (h4 + 11) % 12 = y := ⟨_, rfl⟩
  have e2 : ((h4 : Int) + 11).tmod 12 = (r : Int) := by rw [← hr]; rfl
  have e2' : ((h4 : Int) + 11) % 12 = (r : Int) := by rw [← hr]; rfl
  rw [hr] at hm
  have hrb : r < 12 := by omega
  have q1 := i64_id (x := (h4 : Int)) (by omega)
  have q2 := i64_id (x := (h4 : Int) + 11) (by omega)
  have q3 := i64_id (x := (r : Int)) (by omega)
  have q4 := i64_id (x := (r : Int) + 1) (by omega)
  have HM := Lib.hid hm
  clear hm hh4 hr
  go_enter Tryz.func63, Tryz.ntmps63
  go_wp2
  go_ret
  exact ⟨ret_int (by rw [← HM.out]; rfl), rfl⟩
theorem l04Hour_any (q : Nat) (w : World) (hq : q < 48) : Calls Tryz.prog 60 #[.int .i64 (q : Int)] w fun e w' => e = .returned (.int .i64 (hrQ q : Nat)) ∧ w = w' := by
  by_cases h : q < 4
  · have h' : (q : Int) < 4 := by omega
    have HM := Lib.hid (hrQ_low h)
    go_enter Tryz.func60, Tryz.ntmps60
    go_wp2
    go_ret
    exact ⟨ret_int (by rw [HM.out]; rfl), rfl⟩
  · have h' : ¬ (q : Int) < 4 := by omega
    have HM := Lib.hid (hrQ_high h)
    obtain ⟨h4, hh4⟩ : ∃ y, q / 4 = y := ⟨_, rfl⟩
    have e1 : (q : Int).tdiv 4 = (h4 : Int) := by rw [← hh4]; rfl
    have e1' : (q : Int) / 4 = (h4 : Int) := by rw [← hh4]; rfl
    have q1 := i64_id (x := (h4 : Int)) (by omega)
    rw [hh4] at HM
    clear hh4
    go_enter Tryz.func60, Tryz.ntmps60
    go_wp2
    go_ret
    exact ⟨ret_int (by rw [HM.out]), rfl⟩
theorem whole1_any (gb : Nat) (at_ p by_ : Int) (w : World) (ha : 0 ≤ at_ ∧ at_ ≤ 1000) (hb : 0 ≤ by_ ∧ by_ ≤ 1000) (hg : w.heap[gb]? = some (.cells #[.int .i64 by_] 2 (0, 0))) :
    Calls Tryz.prog 65 #[.int .i64 at_, .int .i64 p, .pointer (some ⟨gb, 0, none⟩)] w fun e w' => e = .returned (.tuple #[.int .i64 (at_ + by_), .int .i64 p]) ∧ w = w' := by
  have c0 := row_cell 0 hg
  have q1 := i64_id (x := at_ + by_) (by omega)
  go_enter Tryz.func65, Tryz.ntmps65
  go_wp2
  refine bodyPost_ret (v := .tuple #[.int .i64 (at_ + by_), .int .i64 p]) (by simp [results, Tryz.results65, go_sem]) rfl ⟨rfl, rfl⟩
set_option maxRecDepth 100000 in
set_option maxHeartbeats 2000000 in
theorem moved_any (gb h c : Nat) (b : Option Addr) (p gap by_ : Int) (w : World) (hh : h ≤ 12) (hp : 0 ≤ p ∧ p ≤ 47) (hg : 1 ≤ gap ∧ gap ≤ 16) (hby : 0 ≤ by_ ∧ by_ ≤ 96) (hgb : w.heap[gb]? = some (.cells #[.int .i64 by_] 2 (0, 0)))
    (hn : NoteAt w b h (fun i => ((stkL p gap 0 h).getD i (0, 0)).1) (fun i => ((stkL p gap 0 h).getD i (0, 0)).2)) :
    Calls Tryz.prog 64 #[.slice b h c, .func (.func 65) #[] #[.pointer (some ⟨gb, 0, none⟩)]] w fun e w' => ∃ v ok, e = .returned (.tuple #[v, .bool ok]) ∧ Below w.heap.size w w' ∧ (ok = true → OwnN w' w.heap.size v (stkL p gap by_ h) ∧ ∀ i : Nat, i < h → by_ + (i : Int) * gap ≤ 199) ∧ (ok = false → ∃ i : Nat, i < h ∧ 199 < by_ + (i : Int) * gap) := by
  have H0 := Lib.hid (show OwnN (w.alloc (.cells #[] 75)) w.heap.size (.slice (some ⟨w.heap.size, 0, none⟩) 0 0) (stkL p gap by_ 0) by rw [stkL_zero]; exact OwnL.nil w w.heap.size (Nat.le_refl _))
  have HB0 := Lib.hid ((Below.refl w.heap.size w).alloc (Nat.le_refl _) (.cells #[] 75))
  have KG := kp_row hgb; have KT := kp_note hn
  clear hgb hn
  go_enter Tryz.func64, Tryz.ntmps64
  go_wp2
  go_loopw [6, 14] (fun v i w' => Below w.heap.size w w' ∧ ∃ k : Nat, k ≤ h ∧ i = .int .i64 k ∧ OwnN w' w.heap.size v (stkL p gap by_ k) ∧ ∀ i : Nat, i < k → by_ + (i : Int) * gap ≤ 199) (fun _ i _ => h - (intOf i).toNat)
  case atStart => exact ⟨HB0.out, 0, by omega, rfl, H0.out, fun i hi => by omega⟩
  case round =>
    clear H0 HB0
    obtain ⟨hb, k, hk, rfl, hown, hle⟩ := hrel
    have HLE := Lib.hid hle; clear hle
    by_cases hlt : k < h
    · have hlt' : (k : Int) < h := by omega
      have hmb := mul_bound (k := k) (gap := gap) (by omega) hg
      obtain ⟨gq, oq, rfl, hgq, hcq⟩ := NoteAt.get (KT.at hb) (show 0 < h by omega)
      have c0 := (hcq k hlt).1
      have c1 := (hcq k hlt).2
      rw [stkL_get p gap 0 h k hlt] at c0 c1
      obtain ⟨y, hy⟩ : ∃ y, (k : Int) * gap = y := ⟨_, rfl⟩
      simp only [Int.zero_add] at c0 c1
      rw [hy] at c0 hmb
      clear hcq
      have HY := Lib.hid hy; clear hy
      have q1 := i64_id (x := y) (by omega)
      have q2 := i64_id (x := p) (by omega)
      have HB := Lib.hid hb
      have hsz := hb.size
      have hbx := hb.alloc hsz (.cells #[.int .i16 y, .int .i8 p] 75)
      have HOX := Lib.hid (OwnN.alloc hown (.cells #[.int .i16 y, .int .i8 p] 75))
      have HW1 := Lib.hid (fun W (hW : Below w.heap.size w W) => whole1_any gb y p by_ W (by omega) (by omega) (KG.at hW))
      have hp2 : inB p 0 47 = true := inB_true hp
      have HBX := Lib.hid hbx
      clear hown hb hbx
      by_cases hfit : y + by_ ≤ 199
      · have h1 : inB (y + by_) 0 199 = true := inB_true ⟨by omega, hfit⟩
        have q3 := i16_idP (x := y + by_) (by omega)
        have q4 := i8_idW (x := p) (by omega)
        have HS := Lib.hid (show stkL p gap by_ (k + 1) = stkL p gap by_ k ++ [(y + by_, p)] by rw [stkL_succ, HY.out, Int.add_comm by_ y])
        have HL := Lib.hid (stkL_len p gap by_ k)
        go_wp2_with (first | (go_at_call 65; refine (HW1.out _ HBX.out).mono ?_; rintro e w2 ⟨rfl, rfl⟩) | (go_at_call 79; refine (within_any _ _ _ _).mono ?_; rw [h1]; rintro e w2 ⟨rfl, rfl⟩) | (go_at_call 104; refine (isPitch_any _ _).mono ?_; rw [hp2]; rintro e w2 ⟨rfl, rfl⟩) | (at_builtin; go_loud (refine append_notes rfl _ _ rfl w.heap.size _ _ rfl (OwnN.alloc HOX.out _) ⟨wr.heap.size + 1, 0, none⟩ 1 1 [(y + by_, p)] rfl rfl (by have h := one_cells (enc := encN) (x := (y + by_, p)) (heap_alloc_new (wr.alloc (.cells #[.int .i16 y, .int .i8 p] 75)) (.cells #[.int .i16 (y + by_), .int .i8 p] 75)); rw [show (wr.alloc (.cells #[.int .i16 y, .int .i8 p] 75)).heap.size = wr.heap.size + 1 by simp] at h; exact h) (by rw [HL.out]; omega) (by simp; omega) ?_; intro v2 w2 hown2 hb2; have HO2 := Lib.hid hown2; have HB2 := Lib.hid hb2; clear hown2 hb2)))
        go_roundw
        case rel => exact ⟨(HBX.out.alloc HBX.out.size _).trans HB2.out, k + 1, by omega, by go_num, by rw [HS.out]; exact HO2.out, fun i hi => if e : i = k then by rw [e, HY.out]; omega else HLE.out i (by omega)⟩
        case measure => simp [intOf]; omega
      · have h1 : inB (y + by_) 0 199 = false := inB_false (fun h => hfit h.2)
        go_wp2_with (first | (go_at_call 65; refine (HW1.out _ HBX.out).mono ?_; rintro e w2 ⟨rfl, rfl⟩) | (go_at_call 79; refine (within_any _ _ _ _).mono ?_; rw [h1]; rintro e w2 ⟨rfl, rfl⟩))
        refine bodyPost_ret (v := .tuple #[.slice none 0 0, .bool false]) (by simp [results, Tryz.results64, go_sem]) rfl ⟨.slice none 0 0, false, rfl, HBX.out, fun h => (by cases h), fun _ => ⟨k, hlt, by rw [HY.out]; omega⟩⟩
    · have hkh : k = h := by omega
      subst hkh
      have HO := Lib.hid hown
      clear hown
      go_wp2
      refine bodyPost_ret (v := .tuple #[u6, .bool true]) (by simp [results, Tryz.results64, go_sem]) rfl ⟨u6, true, rfl, hb, fun _ => ⟨HO.out, HLE.out⟩, fun h => (by cases h)⟩
theorem l04Bell_any (p gap : Int) (w : World) : Calls Tryz.prog 58 #[.int .i64 p, .int .i64 gap] w fun e w' => e = .returned (.bool (inB p 0 47 && inB gap 1 16)) ∧ w = w' := by
  go_enter Tryz.func58, Tryz.ntmps58
  cases h1 : inB p 0 47
  · go_wp2_with (go_at_call 44; refine (l00In_any _ _ _ _).mono ?_; rw [h1]; rintro e w2 ⟨rfl, rfl⟩)
    go_ret
    exact ⟨rfl, rfl⟩
  · cases h2 : inB gap 1 16
    all_goals
      go_wp2_with (go_at_call 44; refine (l00In_any _ _ _ _).mono ?_; (first | rw [h1] | rw [h2]); rintro e w2 ⟨rfl, rfl⟩)
      go_ret
      exact ⟨rfl, rfl⟩
theorem I16_bound {l : List (Int × Int)} (h : ∀ z ∈ l, (-32768 ≤ z.1 ∧ z.1 ≤ 32767) ∧ -128 ≤ z.2 ∧ z.2 ≤ 127) : I16 (fun i => (l.getD i (0, 0)).1) ∧ I8 (fun i => (l.getD i (0, 0)).2) := by
  have hx : ∀ i, (l.getD i (0, 0) = (0, 0)) ∨ ((-32768 ≤ (l.getD i (0, 0)).1 ∧ (l.getD i (0, 0)).1 ≤ 32767) ∧ -128 ≤ (l.getD i (0, 0)).2 ∧ (l.getD i (0, 0)).2 ≤ 127) := by
    intro i
    by_cases hi : i < l.length
    · right; rw [getD_at hi]; exact h _ (List.getElem_mem hi)
    · left; simp [List.getD, List.getElem?_eq_none (by omega : l.length ≤ i)]
  constructor <;> intro i <;> rcases hx i with e | e
  · simp only [e]; omega
  · simp only; omega
  · simp only [e]; omega
  · simp only; omega
set_option maxRecDepth 100000 in
set_option maxHeartbeats 2000000 in
theorem specWholeChime_any (s : Int) (a : Option Addr) (n c : Nat) (P R : Nat → Int) (D : Nat → Nat) (b : Option Addr) (m d : Nat) (F S O : Nat → Int) (x p gap : Int) (w : World) (hs : -32768 ≤ s ∧ s ≤ 32767) (hn : n ≤ 1048576) (hP : I8 P) (hR : I8 R) (hh : HamAt w a n P R) (hD : D32 D) (hm : m ≤ 1048576) (hF : I16 F) (hS : I16 S) (hO : I8 O) (hl : SecAt w b m F S) (hx : -9223372036854775808 ≤ x ∧ x ≤ 9223372036854775807) (hp64 : -9223372036854775808 ≤ p ∧ p ≤ 9223372036854775807) (hg64 : -9223372036854775808 ≤ gap ∧ gap ≤ 9223372036854775807) :
    Calls Tryz.prog 30 #[.agg #[.int .i16 s, .slice a n c], .agg (dc D), .agg (pc b m d O), .int .i64 x, .int .i64 p, .int .i64 gap] w fun e w' => ∃ v, e = .returned (.tuple #[v, .int .i64 (wcC s n P R D m F S O x p gap)]) ∧ Below w.heap.size w w' ∧ OwnN w' w.heap.size v (wcV s n P R D m F S O x p gap) := by
  have HP := Lib.hid hP; have HR := Lib.hid hR; have HD := Lib.hid hD; have HF := Lib.hid hF; have HS := Lib.hid hS; have HO := Lib.hid hO
  clear hP hR hD hF hS hO
  have KB := Kp.base w
  have KH := kp_ham hh; have KL := kp_sec hl; clear hh hl
  replace KB := KB.alloc (.cells #[.int .i16 s, .slice a n c] 36)
  replace KH := KH.alloc (.cells #[.int .i16 s, .slice a n c] 36)
  replace KL := KL.alloc (.cells #[.int .i16 s, .slice a n c] 36)
  have KF := kp_new1 w #[.int .i16 s, .slice a n c] 36 (g := w.heap.size) (by simp)
  replace KB := KB.alloc (.cells (dc D) 41)
  replace KH := KH.alloc (.cells (dc D) 41)
  replace KL := KL.alloc (.cells (dc D) 41)
  replace KF := KF.alloc (.cells (dc D) 41)
  have KD := kp_newd (w.alloc (.cells #[.int .i16 s, .slice a n c] 36)) (D) 41 (g := w.heap.size + 1) (by simp)
  replace KB := KB.alloc (.cells (pc b m d O) 60)
  replace KH := KH.alloc (.cells (pc b m d O) 60)
  replace KL := KL.alloc (.cells (pc b m d O) 60)
  replace KF := KF.alloc (.cells (pc b m d O) 60)
  replace KD := KD.alloc (.cells (pc b m d O) 60)
  have KP := kp_new1 ((w.alloc (.cells #[.int .i16 s, .slice a n c] 36)).alloc (.cells (dc D) 41)) (pc b m d O) 60 (g := w.heap.size + 1 + 1) (by simp)
  have HZ := Lib.hid (show (((w.alloc (.cells #[.int .i16 s, .slice a n c] 36)).alloc (.cells (dc D) 41)).alloc (.cells (pc b m d O) 60)).heap.size = w.heap.size + 1 + 1 + 1 by simp)
  go_enter Tryz.func30, Tryz.ntmps30
  go_wp2_with fail
  generalize (((w.alloc (.cells #[.int .i16 s, .slice a n c] 36)).alloc (.cells (dc D) 41)).alloc (.cells (pc b m d O) 60)) = W at KB KH KL KF KD KP HZ ⊢
  clear HZ
  refine (l04Whole_any w.heap.size (w.heap.size + 1) (w.heap.size + 1 + 1) s a n c P R D b m d F S O W hs hn HP.out HR.out KH.here HD.out hm HF.out HS.out HO.out KL.here KF.here KD.here KP.here).mono ?_
  rintro e w1 ⟨rfl, hb1⟩
  replace KB := KB.on hb1
  replace KH := KH.on hb1
  replace KL := KL.on hb1
  replace KF := KF.on hb1
  replace KD := KD.on hb1
  replace KP := KP.on hb1
  clear hb1
  have hsz := KB.here.size
  cases hv : whB s n P R D m F S O
  · have hcd : wcZ s n P R D m F S O x p gap = 1 := by rw [wcZ_def, hv, wcode_f]
    have hno := Lib.hid (wc_no hcd (by decide))
    have hon := Lib.hid (OwnL.nil (T := 75) (sz := 2) (enc := encN) w1 w.heap.size hsz)
    clear hcd hv
    rw [unl_false]
    have hbe := (KB.alloc (.cells #[] 75)).here
    go_wp2
    refine bodyPost_ret (v := .tuple #[.slice (some ⟨w1.heap.size, 0, none⟩) 0 0, .int .i64 1]) (by simp [results, Tryz.results30, go_sem]) rfl ⟨_, by rw [hno.out.2], hbe, by rw [hno.out.1]; exact hon.out⟩
  · rw [unl_true]
    have HQ := Lib.hid (fun V => l04Quarter_any x V); have HBL := Lib.hid (fun V => l04Bell_any p gap V)
    cases hr : (inB x 0 47 && (inB p 0 47 && inB gap 1 16))
    · have hcd : wcZ s n P R D m F S O x p gap = 2 := by rw [wcZ_def, hv, hr, wcode_tf]
      have hno := Lib.hid (wc_no hcd (by decide))
      have hon := Lib.hid (OwnL.nil (T := 75) (sz := 2) (enc := encN) w1 w.heap.size hsz)
      have hbe := (KB.alloc (.cells #[] 75)).here
      have HBE := Lib.hid hbe
      clear hcd hv hbe
      cases h1 : inB x 0 47
      · clear hr
        go_wp2_with (go_at_call 56; refine (HQ.out _).mono ?_; rw [h1]; rintro e w2 ⟨rfl, rfl⟩)
        refine bodyPost_ret (v := .tuple #[.slice (some ⟨w1.heap.size, 0, none⟩) 0 0, .int .i64 2]) (by simp [results, Tryz.results30, go_sem]) rfl ⟨_, by rw [hno.out.2], HBE.out, by rw [hno.out.1]; exact hon.out⟩
      · rw [h1, Bool.true_and] at hr
        go_wp2_with (first | (go_at_call 56; refine (HQ.out _).mono ?_; rw [h1]; rintro e w2 ⟨rfl, rfl⟩) | (go_at_call 58; refine (HBL.out _).mono ?_; rw [hr]; rintro e w2 ⟨rfl, rfl⟩))
        refine bodyPost_ret (v := .tuple #[.slice (some ⟨w1.heap.size, 0, none⟩) 0 0, .int .i64 2]) (by simp [results, Tryz.results30, go_sem]) rfl ⟨_, by rw [hno.out.2], HBE.out, by rw [hno.out.1]; exact hon.out⟩
    · have hcd : wcZ s n P R D m F S O x p gap = 0 := by rw [wcZ_def, hv, hr, wcode_tt]
      obtain ⟨hs2, hn2, hp47, hm2, hsec, hor⟩ := wh_facts hv
      rw [Bool.and_eq_true] at hr
      have h1 := hr.1
      have h23 := hr.2
      have h23' := h23
      rw [Bool.and_eq_true] at h23'
      have hxb := inB_iff.1 h1
      have hpb := inB_iff.1 h23'.1
      have hgb := inB_iff.1 h23'.2
      obtain ⟨q, rfl⟩ : ∃ k : Nat, x = k := ⟨x.toNat, by omega⟩
      have hq : q < 48 := by omega
      have hoq := hor q hq
      have hlen := sxL_len (s := s) (n := n) (P := P) (F := F) (S := S) (D := D) (o := O q) hs2.2 hn2.2
      have hst := l04Chime_any w.heap.size (w.heap.size + 1) (w.heap.size + 1 + 1) s a n c P R D b m d F S O q w1 hs2 hn2 hm2 hsec hq hoq HP.out KH.here HD.out KL.here KF.here KD.here KP.here
      have hlong := fun h => wc_long (p := p) (gap := gap) hcd (by rw [Int.toNat_natCast]; exact h)
      have hbad := fun h h2 => wc_bad hcd (by rw [Int.toNat_natCast]; exact h) h2
      have hyes := fun h h2 => wc_yes hcd (by rw [Int.toNat_natCast]; exact h) h2
      have hnote := sxL_note (D := D) hs2.2 (by omega) hp47 hsec hoq.2
      have hstr := sxL_str s n P F S D (O q)
      have hT : 0 ≤ sxS S (O q) ∧ sxS S (O q) ≤ 96 := by
        by_cases h : O q < 0
        · rw [sxS_no h]; omega
        · obtain ⟨k, hk⟩ : ∃ k : Nat, O q = k := ⟨(O q).toNat, by omega⟩
          rw [hk, sxS_yes]
          have := hsec k (by omega)
          omega
      have hM0 : q % 4 = 0 → wcM s n P D F S O (q : Int) p gap = sxL s n P F S D (O q) ++ stkL p gap (sxS S (O q)) (hrQ q) := fun h => wcM_low h
      have hM1 : ¬ q % 4 = 0 → wcM s n P D F S O (q : Int) p gap = sxL s n P F S D (O q) := fun h => wcM_not h
      obtain ⟨L, hL⟩ : ∃ L, sxL s n P F S D (O q) = L := ⟨_, rfl⟩
      obtain ⟨T, hTT⟩ : ∃ L, sxS S (O q) = L := ⟨_, rfl⟩
      rw [hL] at hlen hlong hbad hyes hnote hstr hM0 hM1
      rw [hTT] at hnote hT hM0
      rw [hL, hTT] at hst
      have HST := Lib.hid hst; have HLEN := Lib.hid hlen; have HLONG := Lib.hid hlong; have HBAD := Lib.hid hbad; have HYES := Lib.hid hyes; have HNOTE := Lib.hid hnote; have HSTR := Lib.hid hstr; have HM0 := Lib.hid hM0; have HM1 := Lib.hid hM1
      clear hst hL hTT hlen hlong hbad hyes hnote hstr hM0 hM1 hsec hor hp47 hcd hv hr h23' hoq
      by_cases hl120 : L.length ≤ 120
      · have hlI : ¬ (120 : Int) < (L.length : Int) := by omega
        have hlen := HLEN.out
        obtain ⟨r, hr⟩ : ∃ y, q % 4 = y := ⟨_, rfl⟩
        have e1 : (q : Int).tmod 4 = (r : Int) := by rw [← hr]; rfl
        have e1' : (q : Int) % 4 = (r : Int) := by rw [← hr]; rfl
        by_cases hq4 : r = 0
        · subst hq4
          have HM := Lib.hid (HM0.out hr)
          have hhr := hrQ_bound hq
          have HHR := Lib.hid (fun V => l04Hour_any q V hq)
          have HSK := Lib.hid (fun V => l04Strikes_any (hrQ q) p gap T V hhr.2 hpb hgb hT)
          clear hr
          obtain ⟨hh, hhh⟩ : ∃ y, hrQ q = y := ⟨_, rfl⟩
          rw [hhh] at HHR HSK HM hhr
          obtain ⟨SK, hSK⟩ : ∃ y, stkL p gap T hh = y := ⟨_, rfl⟩
          have hskl := stkL_len p gap T hh
          have hskm := stkL_mem p gap T hh
          rw [hSK] at HSK HM hskl hskm
          have HSKL := Lib.hid hskl; have HSKM := Lib.hid hskm
          clear hskl hskm hSK hhh
          have hI := I16_bound (l := L ++ SK) (fun z hz => by
            rcases List.mem_append.1 hz with h | h
            · have := noteB_iff.1 (HNOTE.out z h).1; omega
            · obtain ⟨i, hi, rfl⟩ := (HSKM.out z).1 h
              have := mul_bound (k := i) (gap := gap) (by omega) hgb
              simp only; omega)
          have HI := Lib.hid hI
          have hMl : (L ++ SK).length ≤ 200 := by rw [List.length_append, HSKL.out]; omega
          have HML := Lib.hid hMl
          obtain ⟨NM, hNM⟩ : ∃ y, (L ++ SK).length = y := ⟨_, rfl⟩
          have HNM := Lib.hid hNM
          clear hI hMl hNM
          go_wp2_with (first | (go_at_call 56; refine (HQ.out _).mono ?_; rw [h1]; rintro e w2 ⟨rfl, rfl⟩) | (go_at_call 58; refine (HBL.out _).mono ?_; rw [h23]; rintro e w2 ⟨rfl, rfl⟩) | (go_at_call 57; refine HST.out.mono ?_; rintro e w2 ⟨v2, rfl, hb2, ho2⟩; obtain ⟨b2, c2, rfl⟩ := OwnL.form ho2; have HB2 := Lib.hid (KB.at hb2); have HO2 := Lib.hid (OwnN.mono ho2 hsz); have HN0 := Lib.hid (OwnL.nil (T := 75) (sz := 2) (enc := encN) w2 w2.heap.size (Nat.le_refl _)); have HOA := Lib.hid (OwnN.alloc (OwnN.mono ho2 hsz) (.cells #[] 75)); clear hb2 ho2) | (at_builtin; refine append_ownN rfl _ _ rfl w2.heap.size w.heap.size _ _ [] L rfl HN0.out rfl HOA.out (by simp; omega) (by simp) ?_; intro v4 w4 ho4 hb4; rw [List.nil_append] at ho4; have hz4 := hb4.size; have HB4 := Lib.hid ((HB2.out.alloc HB2.out.size (.cells #[] 75)).trans (hb4.mono HB2.out.size)); have HO4 := Lib.hid ho4; clear ho4 hb4) | (go_at_call 60; refine (HHR.out _).mono ?_; rintro e w5 ⟨rfl, rfl⟩) | (go_at_call 59; refine (HSK.out _).mono ?_; rintro e w5 ⟨v5, rfl, hb5, ho5⟩; have HB5 := Lib.hid (HB4.out.trans (hb5.mono HB4.out.size)); have HO5 := Lib.hid (OwnN.below HO4.out hb5); have HS5 := Lib.hid ho5; have hz5 := hb5.size; clear hb5 ho5) | (at_builtin; refine append_ownN rfl _ _ rfl w2.heap.size w4.heap.size _ _ L SK rfl HO5.out rfl HS5.out (by have := HSKL.out; omega) (by simp at hz4; omega) ?_; intro v6 w6 ho6 hb6; obtain ⟨b6, c6, rfl⟩ := OwnL.form ho6; rw [HNM.out] at ho6 ⊢; have HB6 := Lib.hid (HB5.out.trans (hb6.mono HB2.out.size)); have HO6 := Lib.hid (OwnN.mono ho6 HB2.out.size); clear ho6 hb6))
          have hz6 := HB6.out.size
          obtain ⟨ok, hok⟩ : ∃ y, vL (L ++ SK) = y := ⟨_, rfl⟩
          have hcon := l01Ok_any b6 (L ++ SK).length c6 _ _ w6 (by have := HML.out; omega) HI.out.1 HI.out.2 (OwnN.readAt HO6.out)
          rw [vL_def, hok, HNM.out] at hcon
          have HCON := Lib.hid hcon; have HOK := Lib.hid hok
          clear hcon hok
          cases ok
          · have HX := Lib.hid (HBAD.out hl120 (by rw [HM.out]; exact HOK.out))
            go_wp2_with (go_at_call 61; refine HCON.out.mono ?_; rintro e w7 ⟨rfl, hb7⟩; have HB7 := Lib.hid (HB6.out.trans (hb7.mono hz6)); clear hb7)
            refine bodyPost_ret (v := .tuple #[.slice (some ⟨w7.heap.size, 0, none⟩) 0 0, .int .i64 3]) (by simp [results, Tryz.results30, go_sem]) rfl ⟨_, by rw [HX.out.2], HB7.out.alloc HB7.out.size _, by rw [HX.out.1]; exact OwnL.nil w7 w.heap.size HB7.out.size⟩
          · have HX := Lib.hid (HYES.out hl120 (by rw [HM.out]; exact HOK.out))
            go_wp2_with (go_at_call 61; refine HCON.out.mono ?_; rintro e w7 ⟨rfl, hb7⟩; have HB7 := Lib.hid (HB6.out.trans (hb7.mono hz6)); have HO7 := Lib.hid (OwnN.below HO6.out hb7); clear hb7)
            refine bodyPost_ret (v := .tuple #[.slice b6 NM c6, .int .i64 0]) (by simp [results, Tryz.results30, go_sem]) rfl ⟨_, by rw [HX.out.2], HB7.out, by rw [HX.out.1, HM.out]; exact HO7.out⟩
        · have HM := Lib.hid (HM1.out (by rw [hr]; exact hq4))
          have hq4' : ¬ (r : Int) = 0 := by omega
          have HV := Lib.hid (show vL L = true by rw [vL_str HSTR.out fun z hz => (HNOTE.out z hz).1]; exact decide_eq_true (by omega))
          have hI := I16_list (l := L) fun z hz => (HNOTE.out z hz).1
          have HI := Lib.hid hI
          have HX := Lib.hid (HYES.out hl120 (by rw [HM.out]; exact HV.out))
          clear hq4 hr hI
          go_wp2_with (first | (go_at_call 56; refine (HQ.out _).mono ?_; rw [h1]; rintro e w2 ⟨rfl, rfl⟩) | (go_at_call 58; refine (HBL.out _).mono ?_; rw [h23]; rintro e w2 ⟨rfl, rfl⟩) | (go_at_call 57; refine HST.out.mono ?_; rintro e w2 ⟨v2, rfl, hb2, ho2⟩; obtain ⟨b2, c2, rfl⟩ := OwnL.form ho2; have HB2 := Lib.hid (KB.at hb2); have HO2 := Lib.hid (OwnN.mono ho2 hsz); have HN0 := Lib.hid (OwnL.nil (T := 75) (sz := 2) (enc := encN) w2 w2.heap.size (Nat.le_refl _)); have HOA := Lib.hid (OwnN.alloc (OwnN.mono ho2 hsz) (.cells #[] 75)); clear hb2 ho2) | (go_at_call 61; refine (l01Ok_any b2 L.length c2 _ _ w2 (by omega) HI.out.1 HI.out.2 (OwnN.readAt HO2.out)).mono ?_; rw [vL_def, HV.out]; rintro e w3 ⟨rfl, hb3⟩; have HB3 := Lib.hid hb3; clear hb3))
          refine bodyPost_ret (v := .tuple #[.slice b2 L.length c2, .int .i64 0]) (by simp [results, Tryz.results30, go_sem]) rfl ⟨.slice b2 L.length c2, by rw [HX.out.2], HB2.out.trans (HB3.out.mono HB2.out.size), by rw [HX.out.1, HM.out]; exact OwnN.below HO2.out HB3.out⟩
      · have hlI : (120 : Int) < (L.length : Int) := by omega
        have HX := Lib.hid (HLONG.out hl120)
        clear hl120
        go_wp2_with (first | (go_at_call 56; refine (HQ.out _).mono ?_; rw [h1]; rintro e w2 ⟨rfl, rfl⟩) | (go_at_call 58; refine (HBL.out _).mono ?_; rw [h23]; rintro e w2 ⟨rfl, rfl⟩) | (go_at_call 57; refine HST.out.mono ?_; rintro e w2 ⟨v2, rfl, hb2, ho2⟩; obtain ⟨b2, c2, rfl⟩ := OwnL.form ho2; have HB2 := Lib.hid (KB.at hb2); clear hb2 ho2))
        refine bodyPost_ret (v := .tuple #[.slice (some ⟨w2.heap.size, 0, none⟩) 0 0, .int .i64 3]) (by simp [results, Tryz.results30, go_sem]) rfl ⟨_, by rw [HX.out.2], HB2.out.alloc HB2.out.size _, by rw [HX.out.1]; exact OwnL.nil w2 w.heap.size HB2.out.size⟩

/-! The whole chime of a quarter, by the program. No conditions. -/
theorem wcode_and {wh b x : Bool} {z : Int} (h : wcode wh b = z) (hz : ¬ z = 0) : wcode wh (b && x) = z := by
  cases wh
  · rw [wcode_f] at h ⊢; exact h
  · cases b
    · rw [Bool.false_and]; exact h
    · rw [wcode_tt] at h; exact absurd h.symm hz
set_option maxRecDepth 100000 in
set_option maxHeartbeats 4000000 in
theorem implWholeChime_any (s : Int) (a : Option Addr) (n c : Nat) (P R : Nat → Int) (D : Nat → Nat) (b : Option Addr) (m d : Nat) (F S O : Nat → Int) (x p gap : Int) (w : World) (hs : -32768 ≤ s ∧ s ≤ 32767) (hn : n ≤ 1048576) (hP : I8 P) (hR : I8 R) (hh : HamAt w a n P R) (hD : D32 D) (hm : m ≤ 1048576) (hF : I16 F) (hS : I16 S) (hO : I8 O) (hl : SecAt w b m F S) (hx : -9223372036854775808 ≤ x ∧ x ≤ 9223372036854775807) (hp64 : -9223372036854775808 ≤ p ∧ p ≤ 9223372036854775807) (hg64 : -9223372036854775808 ≤ gap ∧ gap ≤ 9223372036854775807) :
    Calls Tryz.prog 31 #[.agg #[.int .i16 s, .slice a n c], .agg (dc D), .agg (pc b m d O), .int .i64 x, .int .i64 p, .int .i64 gap] w fun e w' => ∃ v, e = .returned (.tuple #[v, .int .i64 (wcC s n P R D m F S O x p gap)]) ∧ Below w.heap.size w w' ∧ OwnN w' w.heap.size v (wcV s n P R D m F S O x p gap) := by
  have HP := Lib.hid hP; have HR := Lib.hid hR; have HD := Lib.hid hD; have HF := Lib.hid hF; have HS := Lib.hid hS; have HO := Lib.hid hO
  clear hP hR hD hF hS hO
  have KB := Kp.base w
  have KH := kp_ham hh; have KL := kp_sec hl; clear hh hl
  replace KB := KB.alloc (.cells #[.int .i16 s, .slice a n c] 36)
  replace KH := KH.alloc (.cells #[.int .i16 s, .slice a n c] 36)
  replace KL := KL.alloc (.cells #[.int .i16 s, .slice a n c] 36)
  have KF := kp_new1 w #[.int .i16 s, .slice a n c] 36 (g := w.heap.size) (by simp)
  replace KB := KB.alloc (.cells (dc D) 41)
  replace KH := KH.alloc (.cells (dc D) 41)
  replace KL := KL.alloc (.cells (dc D) 41)
  replace KF := KF.alloc (.cells (dc D) 41)
  have KD := kp_newd (w.alloc (.cells #[.int .i16 s, .slice a n c] 36)) (D) 41 (g := w.heap.size + 1) (by simp)
  replace KB := KB.alloc (.cells (pc b m d O) 60)
  replace KH := KH.alloc (.cells (pc b m d O) 60)
  replace KL := KL.alloc (.cells (pc b m d O) 60)
  replace KF := KF.alloc (.cells (pc b m d O) 60)
  replace KD := KD.alloc (.cells (pc b m d O) 60)
  have KP := kp_new1 ((w.alloc (.cells #[.int .i16 s, .slice a n c] 36)).alloc (.cells (dc D) 41)) (pc b m d O) 60 (g := w.heap.size + 1 + 1) (by simp)
  have HZ := Lib.hid (show (((w.alloc (.cells #[.int .i16 s, .slice a n c] 36)).alloc (.cells (dc D) 41)).alloc (.cells (pc b m d O) 60)).heap.size = w.heap.size + 1 + 1 + 1 by simp)
  go_enter Tryz.func31, Tryz.ntmps31
  go_wp2
  generalize (((w.alloc (.cells #[.int .i16 s, .slice a n c] 36)).alloc (.cells (dc D) 41)).alloc (.cells (pc b m d O) 60)) = W at KB KH KL KF KD KP HZ ⊢
  have hS0 := below_drew W
  have HSZ := Lib.hid KB.here.size
  obtain ⟨z0, hz0⟩ : ∃ y, unl (okAll s n P R 1 (fun _ => D)) 1 = y := ⟨_, rfl⟩
  refine wp_region_S (fun V => Below W.heap.size W V) (by kernel_rfl) hS0 ?_
  refine take_val 0 (.agg #[.int .i16 s, .slice a n c]) rfl (by kernel_rfl) (by kernel_rfl) (by kernel_rfl) (fun _ _ _ h => h) rfl (fun V hV => ex_load_iframe _ rfl w.heap.size rfl _ s a n c (KF.at hV)) hS0 ?_
  simp only [List.getElem_toArray, List.getElem_cons_zero, List.getElem_cons_succ, Act.put, List.setIfInBounds_toArray, List.set_cons_zero, List.set_cons_succ]
  refine take_val 1 (.agg (dc D)) rfl (by kernel_rfl) (by kernel_rfl) (by kernel_rfl) (fun _ _ _ h => h) rfl (fun V hV => ex_load_drum _ rfl (w.heap.size + 1) rfl _ D (KD.at hV)) hS0 ?_
  simp only [List.getElem_toArray, List.getElem_cons_zero, List.getElem_cons_succ, Act.put, List.setIfInBounds_toArray, List.set_cons_zero, List.set_cons_succ]
  refine take_val 4 (.agg #[.int .i16 s, .slice a n c]) rfl (by kernel_rfl) (by kernel_rfl) (by kernel_rfl) (fun _ _ _ h => h) rfl (fun V hV => ex_load_iframe _ rfl w.heap.size rfl _ s a n c (KF.at hV)) hS0 ?_
  simp only [List.getElem_toArray, List.getElem_cons_zero, List.getElem_cons_succ, Act.put, List.setIfInBounds_toArray, List.set_cons_zero, List.set_cons_succ]
  refine take_val 5 (.agg (pc b m d O)) rfl (by kernel_rfl) (by kernel_rfl) (by kernel_rfl) (fun _ _ _ h => h) rfl (fun V hV => ex_load_iprog _ rfl (w.heap.size + 1 + 1) rfl _ b m d O (KP.at hV)) hS0 ?_
  simp only [List.getElem_toArray, List.getElem_cons_zero, List.getElem_cons_succ, Act.put, List.setIfInBounds_toArray, List.set_cons_zero, List.set_cons_succ]
  refine take_val 6 (.int .i64 x) rfl (by kernel_rfl) (by kernel_rfl) (by kernel_rfl) (fun _ _ _ h => h) rfl (fun V hV => by simp [go_sem]) hS0 ?_
  simp only [List.getElem_toArray, List.getElem_cons_zero, List.getElem_cons_succ, Act.put, List.setIfInBounds_toArray, List.set_cons_zero, List.set_cons_succ]
  have hSa := hS0.alloc hS0.size (.cells (dc D) 41)
  have hSb := hS0.alloc hS0.size (.cells #[.int .i64 x] 2)
  have hdc := fun (V : World) (g : Nat) (hb : Below W.heap.size W V) (hg : DrumAt V 41 g D) => (drumCode_any s a n c P R (some ⟨g, 0, none⟩) 1 1 (fun _ => D) V (by omega) (by omega) hs HP.out HR.out (KH.at hb) (drumsOne hg))
  rw [hz0] at hdc
  have HDC := Lib.hid hdc; have HZ0 := Lib.hid hz0; clear hdc hz0
  refine' cut_with (A := ∀ (V : World) (dg ig : Nat), Below W.heap.size W V → IntAt V (some ⟨ig, 0, none⟩) 1 (fun _ => x) → (_ : World → Nat → Nat → Prop) V dg ig) (fun hcont => ?_) ?_
  rotate_left
  · obtain ⟨dg0, hdg0⟩ : ∃ y, W.drew.heap.size = y := ⟨_, rfl⟩
    refine step_two2 2 7 (.slice (some ⟨dg0, 0, none⟩) 1 1) (.slice (some ⟨W.heap.size, 0, none⟩) 1 1) (W.drew.alloc (.cells (dc D) 41)) (W.drew.alloc (.cells #[.int .i64 x] 2)) (by kernel_rfl) rfl rfl rfl rfl (by rw [← hdg0]; exact ex_build1 _ rfl D rfl) (by simp [go_sem]) hSa hSb ?_ ?_
    · --
      simp only [List.getElem_toArray, List.getElem_cons_zero, List.getElem_cons_succ, Act.put, List.setIfInBounds_toArray, List.set_cons_zero, List.set_cons_succ]
      refine step_call_or 3 7 50 #[.agg #[.int .i16 s, .slice a n c], .slice (some ⟨dg0, 0, none⟩) 1 1] (.slice (some ⟨(W.drew.alloc (.cells (dc D) 41)).heap.size, 0, none⟩) 1 1) ((W.drew.alloc (.cells (dc D) 41)).alloc (.cells #[.int .i64 x] 2)) (by kernel_rfl) rfl rfl rfl rfl (by simp [go_sem]) (by simp [go_sem]) (hSa.alloc hSa.size _) ?_ ?_
      · refine (HDC.out _ dg0 hSa (by have h := heap_alloc_new W.drew (.cells (dc D) 41); rw [hdg0] at h; exact h)).mono ?_
        rintro e V1 ⟨rfl, hb1⟩
        have hS1 := hSa.trans (hb1.mono hSa.size)
        refine ⟨_, rfl, hS1, ?_⟩
        simp only [List.getElem_toArray, List.getElem_cons_zero, List.getElem_cons_succ, Act.put, List.setIfInBounds_toArray, List.set_cons_zero, List.set_cons_succ]
        refine step_val 7 (.slice (some ⟨V1.heap.size, 0, none⟩) 1 1) (V1.alloc (.cells #[.int .i64 x] 2)) (by kernel_rfl) rfl rfl (by simp [go_sem]) (hS1.alloc hS1.size _) ?_
        simp only [List.getElem_toArray, List.getElem_cons_zero, List.getElem_cons_succ, Act.put, List.setIfInBounds_toArray, List.set_cons_zero, List.set_cons_succ]
        have hS2 := hS1.alloc hS1.size (.cells #[.int .i64 x] 2)
        have hi := IntAt.one V1 x 2 (fun _ => x) rfl
        generalize V1.alloc (.cells #[.int .i64 x] 2) = V at hS2 hi ⊢
        generalize V1.heap.size = ig at hi ⊢
        exact hcont V dg0 ig hS2 hi
      · --
        simp only [List.getElem_toArray, List.getElem_cons_zero, List.getElem_cons_succ, Act.put, List.setIfInBounds_toArray, List.set_cons_zero, List.set_cons_succ]
        have hi0 := IntAt.one (W.drew.alloc (.cells (dc D) 41)) x 2 (fun _ => x) rfl
        have hSc := hSa.alloc hSa.size (.cells #[.int .i64 x] 2)
        refine step_call 3 50 #[.agg #[.int .i16 s, .slice a n c], .slice (some ⟨dg0, 0, none⟩) 1 1] (by kernel_rfl) rfl rfl (by simp [go_sem]) ?_
        refine (HDC.out _ dg0 hSc (by have h := heap_alloc_new W.drew (.cells (dc D) 41); rw [hdg0] at h; exact (heap_alloc_old _ _ (by rw [← hdg0]; simp)).trans h)).mono ?_
        rintro e V1 ⟨rfl, hb1⟩
        have hS1 := hSc.trans (hb1.mono hSc.size)
        refine ⟨_, rfl, hS1, ?_⟩
        simp only [List.getElem_toArray, List.getElem_cons_zero, List.getElem_cons_succ, Act.put, List.setIfInBounds_toArray, List.set_cons_zero, List.set_cons_succ]
        exact hcont V1 dg0 _ hS1 (by have := (kp_int hi0).at hb1; simpa using this)
    · --
      simp only [List.getElem_toArray, List.getElem_cons_zero, List.getElem_cons_succ, Act.put, List.setIfInBounds_toArray, List.set_cons_zero, List.set_cons_succ]
      have hi0 := IntAt.one W.drew x 2 (fun _ => x) rfl
      refine step_val 2 (.slice (some ⟨W.heap.size + 1, 0, none⟩) 1 1) ((W.drew.alloc (.cells #[.int .i64 x] 2)).alloc (.cells (dc D) 41)) (by kernel_rfl) rfl rfl (by rw [show W.heap.size + 1 = (W.drew.alloc (.cells #[.int .i64 x] 2)).heap.size by simp]; exact ex_build1 _ rfl D rfl) (hSb.alloc hSb.size _) ?_
      simp only [List.getElem_toArray, List.getElem_cons_zero, List.getElem_cons_succ, Act.put, List.setIfInBounds_toArray, List.set_cons_zero, List.set_cons_succ]
      have hSc := hSb.alloc hSb.size (.cells (dc D) 41)
      refine step_call 3 50 #[.agg #[.int .i16 s, .slice a n c], .slice (some ⟨W.heap.size + 1, 0, none⟩) 1 1] (by kernel_rfl) rfl rfl (by simp [go_sem]) ?_
      refine (HDC.out _ (W.heap.size + 1) hSc (by have h := heap_alloc_new (W.drew.alloc (.cells #[.int .i64 x] 2)) (.cells (dc D) 41); rw [show (W.drew.alloc (.cells #[.int .i64 x] 2)).heap.size = W.heap.size + 1 by simp] at h; exact h)).mono ?_
      rintro e V1 ⟨rfl, hb1⟩
      have hS1 := hSc.trans (hb1.mono hSc.size)
      refine ⟨_, rfl, hS1, ?_⟩
      simp only [List.getElem_toArray, List.getElem_cons_zero, List.getElem_cons_succ, Act.put, List.setIfInBounds_toArray, List.set_cons_zero, List.set_cons_succ]
      exact hcont V1 (W.heap.size + 1) W.heap.size hS1 ((kp_int hi0).at ((((Below.refl _ _).alloc (Nat.le_refl _) _).trans (hb1.mono (by simp)))))
  intro V dg ig hSV hiv
  clear HDC hSa hSb hS0
  refine step_call 8 51 #[.agg #[.int .i16 s, .slice a n c], .agg (pc b m d O), .slice (some ⟨ig, 0, none⟩) 1 1, .slice none 0 0] (by kernel_rfl) rfl rfl (by simp [go_sem]) ?_
  refine (programmeCode_any s a n c P R b m d F S O (some ⟨ig, 0, none⟩) 1 1 (fun _ => x) none 0 0 (fun _ => 0) V hs hn HP.out HR.out (KH.at hSV) hm HF.out HS.out HO.out (KL.at hSV) (by omega) hiv (by omega) (IntAt.nil _ _)).mono ?_
  rw [allIn_zero, allIn_one, Bool.and_true]
  rintro e V2 ⟨rfl, hb2⟩
  have hS2 := hSV.trans (hb2.mono hSV.size)
  refine ⟨_, rfl, hS2, ?_⟩
  simp only [List.getElem_toArray, List.getElem_cons_zero, List.getElem_cons_succ, Act.put, List.setIfInBounds_toArray, List.set_cons_zero, List.set_cons_succ]
  have hfl := firstL_wh s n P R D m F S O (inB x 0 47)
  rw [HZ0.out] at hfl
  obtain ⟨z1, hz1⟩ : ∃ y, pcode (vProg s n P R m F S O) (inB x 0 47) = y := ⟨_, rfl⟩
  rw [hz1] at hfl ⊢
  obtain ⟨z, hz⟩ : ∃ y, wcode (whB s n P R D m F S O) (inB x 0 47) = y := ⟨_, rfl⟩
  rw [hz] at hfl
  have HFL := Lib.hid hfl; have HW := Lib.hid hz; clear hfl hz hz1 HZ0 hiv hb2
  refine step_val 9 (.slice (some ⟨V2.heap.size, 0, none⟩) 2 2) (V2.alloc (.cells #[.int .i64 z0, .int .i64 z1] 2)) (by kernel_rfl) rfl rfl (by simp [go_sem]) (hS2.alloc hS2.size _) ?_
  simp only [List.getElem_toArray, List.getElem_cons_zero, List.getElem_cons_succ, Act.put, List.setIfInBounds_toArray, List.set_cons_zero, List.set_cons_succ]
  have hS3 := hS2.alloc hS2.size (.cells #[.int .i64 z0, .int .i64 z1] 2)
  have hfo := firstOf_any [z0, z1] V2.heap.size 2 (V2.alloc (.cells #[.int .i64 z0, .int .i64 z1] 2)) (by simp) (heap_alloc_new V2 _)
  rw [HFL.out] at hfo
  refine step_call 10 49 #[.slice (some ⟨V2.heap.size, 0, none⟩) 2 2] (by kernel_rfl) rfl rfl (by simp [go_sem]) ?_
  refine hfo.mono ?_
  rintro e V3 ⟨rfl, rfl⟩
  refine ⟨_, rfl, hS3, ?_⟩
  simp only [List.getElem_toArray, List.getElem_cons_zero, List.getElem_cons_succ, Act.put, List.setIfInBounds_toArray, List.set_cons_zero, List.set_cons_succ]
  refine take_val 11 (.int .i64 z) rfl (by kernel_rfl) (by kernel_rfl) (by kernel_rfl) (fun _ _ _ h => h) rfl (fun V hV => by simp [go_sem]) hS3 ?_
  simp only [List.getElem_toArray, List.getElem_cons_zero, List.getElem_cons_succ, Act.put, List.setIfInBounds_toArray, List.set_cons_zero, List.set_cons_succ]
  refine wpAnyH_done (by kernel_rfl) ?_ _
  replace KB := KB.on hS3
  replace KH := KH.on hS3
  replace KL := KL.on hS3
  replace KF := KF.on hS3
  replace KD := KD.on hS3
  replace KP := KP.on hS3
  clear hS3 hS2 hSV hfo
  generalize V2.alloc (.cells #[.int .i64 z0, .int .i64 z1] 2) = Y at KB KH KL KF KD KP ⊢
  have HSY := Lib.hid KB.here.size
  by_cases h0 : z = 0
  · subst h0
    have hca := ca_yes HW.out
    obtain ⟨hwh, hin⟩ := wcode_zero HW.out
    obtain ⟨hs2, hn2, hp47, hm2, hsec, hor⟩ := wh_facts hwh
    have hin' := inB_iff.1 hin
    obtain ⟨q, rfl⟩ : ∃ k : Nat, x = k := ⟨x.toNat, by omega⟩
    have hq : q < 48 := by omega
    have hq' : (q : Int) < 48 := by omega
    rw [Int.toNat_natCast] at hca
    have hhr := hrQ_bound hq
    have HHR := Lib.hid (fun V => hourOf_any q V hq)
    cases hbell : (inB p 0 47 && inB gap 1 16)
    · have hcd : wcZ s n P R D m F S O (q : Int) p gap = 2 := by rw [wcZ_def, hwh, hin, hbell, Bool.true_and, wcode_tf]
      have HX := Lib.hid (wc_no hcd (by decide))
      have HSK := Lib.hid (fun V => strike_no (hrQ q) p gap V hhr hbell)
      have hbe := KB.here
      clear hcd hwh hin hsec hor hp47 hca hbell
      go_wp2_with (first | (go_at_call 63; refine (HHR.out _).mono ?_; rintro e w2 ⟨rfl, rfl⟩) | (go_at_call 62; refine (HSK.out _).mono ?_; rintro e w2 ⟨rfl, rfl⟩))
      refine bodyPost_ret (v := .tuple #[.slice none 0 0, .int .i64 2]) (by simp [results, Tryz.results31, go_sem]) rfl ⟨.slice none 0 0, by rw [HX.out.2], hbe, by rw [HX.out.1]; exact OwnL.none0 _ _⟩
    · have hcd : wcZ s n P R D m F S O (q : Int) p gap = 0 := by rw [wcZ_def, hwh, hin, hbell, Bool.true_and, wcode_tt]
      rw [Bool.and_eq_true] at hbell
      have hpb := inB_iff.1 hbell.1
      have hgb := inB_iff.1 hbell.2
      have hoq := hor q hq
      have hlen := sxL_len (s := s) (n := n) (P := P) (F := F) (S := S) (D := D) (o := O q) hs2.2 hn2.2
      have hlong := fun h => wc_long (p := p) (gap := gap) hcd (by rw [Int.toNat_natCast]; exact h)
      have hbad := fun h h2 => wc_bad hcd (by rw [Int.toNat_natCast]; exact h) h2
      have hyes := fun h h2 => wc_yes hcd (by rw [Int.toNat_natCast]; exact h) h2
      have hnote := sxL_note (D := D) hs2.2 (by omega) hp47 hsec hoq.2
      have hstr := sxL_str s n P F S D (O q)
      have hM0 : q % 4 = 0 → wcM s n P D F S O (q : Int) p gap = sxL s n P F S D (O q) ++ stkL p gap (sxS S (O q)) (hrQ q) := fun h => wcM_low h
      have hM1 : ¬ q % 4 = 0 → wcM s n P D F S O (q : Int) p gap = sxL s n P F S D (O q) := fun h => wcM_not h
      have hci := fun (V : World) (hb : Below Y.heap.size Y V) => implChimeAt_any s a n c P R D b m d F S O (q : Int) V hs hn HP.out HR.out (KH.at hb) HD.out hm HF.out HS.out HO.out (KL.at hb) (by omega)
      rw [hca.1, hca.2] at hci
      obtain ⟨L, hL⟩ : ∃ L, sxL s n P F S D (O q) = L := ⟨_, rfl⟩
      obtain ⟨hh, hhh⟩ : ∃ y, hrQ q = y := ⟨_, rfl⟩
      rw [hL] at hlen hlong hbad hyes hnote hstr hM0 hM1 hci
      rw [hhh] at hhr HHR hM0
      have HCI := Lib.hid hci; have HLEN := Lib.hid hlen; have HLONG := Lib.hid hlong; have HBAD := Lib.hid hbad; have HYES := Lib.hid hyes; have HNOTE := Lib.hid hnote; have HSTR := Lib.hid hstr; have HM0 := Lib.hid hM0; have HM1 := Lib.hid hM1; have HSEC := Lib.hid hsec
      have HSK := Lib.hid (fun V => strike_yes hh p gap V hhr hpb hgb)
      clear hci hL hhh hlen hlong hbad hyes hnote hstr hM0 hM1 hsec hor hp47 hcd hwh hin hbell hca
      have hz0 := HSY.out
      obtain ⟨cN, hcN⟩ : ∃ y, sxC L = y := ⟨_, rfl⟩
      rw [hcN] at HCI
      have HCN := Lib.hid hcN; clear hcN
      go_wp2_with (first | (with_reducible refine load_iframe rfl _ rfl w.heap.size rfl _ s a n c KF.here ?_) | (with_reducible refine load_drum rfl _ rfl (w.heap.size + 1) rfl _ D KD.here ?_) | (with_reducible refine load_iprog rfl _ rfl (w.heap.size + 1 + 1) rfl _ b m d O KP.here ?_) | (go_at_call 63; refine (HHR.out _).mono ?_; rintro e w2 ⟨rfl, rfl⟩) | (go_at_call 62; refine (HSK.out _).mono ?_; rintro e w2 ⟨vs, rfl, hb2, ho2⟩; obtain ⟨bs, cs, rfl⟩ := OwnL.form ho2; rw [stkL_len] at ho2 ⊢; have HBY := Lib.hid hb2; have HS2 := Lib.hid ho2; replace KB := KB.on hb2; replace KF := KF.on hb2; replace KD := KD.on hb2; replace KP := KP.on hb2; replace KL := KL.on hb2; clear hb2 ho2) | fail)
      refine (HCI.out _ HBY.out).mono ?_
      rintro e w3 ⟨v3, rfl, hb3, ho3⟩
      obtain ⟨b3, c3, rfl⟩ := OwnL.form ho3
      have HC3 := Lib.hid (OwnN.mono ho3 KB.here.size); have HS3 := Lib.hid (OwnN.below HS2.out hb3)
      replace KB := KB.on hb3; replace KP := KP.on hb3; replace KL := KL.on hb3
      clear hb3 ho3 HCI HSK HHR KF KD KH
      have hbe := KB.here
      have HSL0 := Lib.hid (stkL_len p gap 0 hh)
      by_cases hl120 : L.length ≤ 120
      · have hsx := sx_yes hl120
        have hc0 := HCN.out
        rw [hsx.2] at hc0
        subst hc0
        rw [hsx.1] at HC3 ⊢
        clear hsx HCN
        obtain ⟨NL, hNL⟩ : ∃ y, L.length = y := ⟨_, rfl⟩
        have HNL := Lib.hid hNL
        rw [hNL] at HC3 ⊢
        have hNL2 : NL ≤ 120 := by omega
        clear hNL
        obtain ⟨r, hr⟩ : ∃ y, q % 4 = y := ⟨_, rfl⟩
        have e1 : (q : Int).tmod 4 = (r : Int) := by rw [← hr]; rfl
        have e1' : (q : Int) % 4 = (r : Int) := by rw [← hr]; rfl
        by_cases hq4 : r = 0
        · subst hq4
          have HM := Lib.hid (HM0.out hr)
          clear hr
          obtain ⟨o, ho⟩ : ∃ o, O q = o := ⟨_, rfl⟩
          rw [ho] at hoq HM HNOTE
          have c0 : (w3.alloc (.cells #[.int .i64 0] 2)).cell? ⟨w.heap.size + 1 + 1, 1 + q, none⟩ = some (.int .i8 o) := by rw [row_cell (1 + q) (KP.alloc _).here, pc_get _ _ _ _ q hq, ho]
          clear ho
          have hb30 : Below w3.heap.size w3 (w3.alloc (.cells #[.int .i64 0] 2)) := (Below.refl _ _).alloc (Nat.le_refl _) _
          have hg30 := heap_alloc_new w3 (.cells #[.int .i64 0] 2)
          have H30 := Lib.hid (And.intro hb30 hg30)
          by_cases ho0 : o < 0
          · have hT0 := sxS_no (S := S) ho0
            obtain ⟨T, hTT⟩ : ∃ y, sxS S o = y := ⟨_, rfl⟩
            rw [hTT] at HM HNOTE hT0
            clear hTT
            subst hT0
            clear hb30 hg30
            go_wp2_with fail
            obtain ⟨hbV, hgV⟩ := H30.out
            clear H30 c0
            generalize w3.alloc (.cells #[.int .i64 0] 2) = V at hbV hgV ⊢
            obtain ⟨T, hT0⟩ : ∃ T : Int, T = 0 := ⟨0, rfl⟩
            have hT : 0 ≤ T ∧ T ≤ 96 := by omega
            rw [← hT0] at HM HNOTE hgV
            have hbz := hbV.size
            replace KB := KB.on hbV
            have HS4 := Lib.hid (OwnN.below HS3.out hbV); have HC4 := Lib.hid (OwnN.below HC3.out hbV)
            have hmv := moved_any w3.heap.size hh cs bs p gap T V (by omega) hpb hgb hT hgV (by have h := OwnN.readAt HS4.out; rw [HSL0.out] at h; exact h)
            have HMV := Lib.hid hmv
            clear hmv hbV hgV
            refine HMV.out.mono ?_
            rintro e w5 ⟨v5, ok, rfl, hb5, hok1, hok2⟩
            have HC5 := Lib.hid (OwnN.below HC4.out hb5)
            replace KB := KB.on hb5
            have HOK1 := Lib.hid hok1; have HOK2 := Lib.hid hok2
            clear hok1 hok2 hb5
            cases ok
            · obtain ⟨i, hi, hbig⟩ := HOK2.out rfl
              have HX := Lib.hid (HBAD.out hl120 (by rw [HM.out]; exact vL_bad (z := (T + (i : Int) * gap, p)) (List.mem_append_right _ ((stkL_mem _ _ _ _ _).2 ⟨i, hi, rfl⟩)) (by rw [← Bool.not_eq_true, noteB_iff]; simp only; omega)))
              clear hbig hi
              have hbe := KB.here
              go_wp2
              refine bodyPost_ret (v := .tuple #[.slice none 0 0, .int .i64 3]) (by simp [results, Tryz.results31, go_sem]) rfl ⟨.slice none 0 0, by rw [HX.out.2], hbe, by rw [HX.out.1]; exact OwnL.none0 _ _⟩
            · obtain ⟨ho5, hle⟩ := HOK1.out rfl
              have hM2 := whole_str (L := L) (p := p) (gap := gap) (fr := T) (h := hh) HSTR.out (fun z hz => (HNOTE.out z hz).2) hgb.1
              have hMn : ∀ z ∈ L ++ stkL p gap T hh, noteB z.1 z.2 = true := by
                intro z hz
                rcases List.mem_append.1 hz with h | h
                · exact (HNOTE.out z h).1
                · obtain ⟨i, hi, rfl⟩ := (stkL_mem _ _ _ _ _).1 h
                  have := hle i hi
                  have := mul_bound (k := i) (gap := gap) (by omega) hgb
                  rw [noteB_iff]; simp only; omega
              have hsrt := srtN_self hM2
              have hvm := vL_str hM2 hMn
              have hI := I16_list hMn
              have hMl : (L ++ stkL p gap T hh).length ≤ 200 := by rw [List.length_append, stkL_len]; omega
              obtain ⟨M, hMM⟩ : ∃ M, L ++ stkL p gap T hh = M := ⟨_, rfl⟩
              obtain ⟨NM, hNM⟩ : ∃ y, M.length = y := ⟨_, rfl⟩
              rw [hMM] at hsrt hvm hI hMl HM
              have HMM := Lib.hid hMM; have HNM := Lib.hid hNM; have HSRT := Lib.hid hsrt; have HVM := Lib.hid hvm; have HI := Lib.hid hI; have HML := Lib.hid hMl
              have HO5 := Lib.hid ho5
              clear hMM hNM hsrt hvm hI hMl hM2 hMn hle ho5
              obtain ⟨b5, c5, hv5⟩ := OwnL.form HO5.out
              rw [stkL_len] at hv5
              subst hv5
              have hgs := heap_alloc_new w5 (.cells #[.slice b3 NL c3, .slice b5 hh c5] 39)
              have hcc := concatN_any w5.heap.size w.heap.size V.heap.size _ _ L (stkL p gap T hh) (w5.alloc (.cells #[.slice b3 NL c3, .slice b5 hh c5] 39)) (by rw [stkL_len]; omega) hgs (OwnN.alloc HC5.out _) (OwnN.alloc HO5.out _)
              rw [HMM.out] at hcc
              replace KB := KB.alloc (.cells #[.slice b3 NL c3, .slice b5 hh c5] 39)
              have HCC := Lib.hid hcc
              clear hcc hgs
              have hbsz := KB.here.size
              go_wp2_with (first | (go_at_call 68; refine HCC.out.mono ?_; rintro e w6 ⟨v6, rfl, hb6, ho6⟩; obtain ⟨b6, c6, rfl⟩ := OwnL.form ho6; rw [HNM.out] at ho6 ⊢; have hmd := made_own _ NM c6 b6 M w6 (by have := HML.out; have := HNM.out; omega) ho6; rw [HSRT.out] at hmd; replace KB := KB.on hb6; have HMD := Lib.hid hmd; clear hmd ho6 hb6) | (go_at_call 67; refine HMD.out.mono ?_; rintro e w7 ⟨v7, rfl, hb7, ho7⟩; obtain ⟨b7, c7, rfl⟩ := OwnL.form ho7; rw [HNM.out] at ho7 ⊢; have hz7 := KB.here.size; replace KB := KB.on hb7; have HO7 := Lib.hid (OwnN.mono ho7 hz7); clear hb7 ho7))
              by_cases hlm : NM ≤ 120
              · have hv : vL M = true := by rw [HVM.out]; exact decide_eq_true (by have := HNM.out; omega)
                have HX := Lib.hid (HYES.out hl120 (by rw [HM.out]; exact hv))
                have hck := checked_yes b7 NM c7 (fun i => (M.getD i (0, 0)).1) (fun i => (M.getD i (0, 0)).2) 3 w7 (by omega) HI.out.1 HI.out.2 (by have h := OwnN.readAt HO7.out; rw [HNM.out] at h; exact h) (by have h := hv; rw [← vL_def, HNM.out] at h; exact h)
                have HCK := Lib.hid hck
                clear hck hv
                go_wp2_with (go_at_call 66; refine HCK.out.mono ?_; rintro e w8 ⟨rfl, hb8⟩; have HB8 := Lib.hid (KB.at hb8); have HO8 := Lib.hid (OwnN.below HO7.out hb8); clear hb8)
                refine bodyPost_ret (v := .tuple #[.slice b7 NM c7, .int .i64 0]) (by simp [results, Tryz.results31, go_sem]) rfl ⟨_, by rw [HX.out.2], HB8.out, by rw [HX.out.1, HM.out]; exact HO8.out⟩
              · have hv : vL M = false := by rw [HVM.out]; exact decide_eq_false (by have := HNM.out; omega)
                have HX := Lib.hid (HBAD.out hl120 (by rw [HM.out]; exact hv))
                have hck := checked_no b7 NM c7 (fun i => (M.getD i (0, 0)).1) (fun i => (M.getD i (0, 0)).2) 3 w7 (by have := HML.out; have := HNM.out; omega) HI.out.1 HI.out.2 (by have h := OwnN.readAt HO7.out; rw [HNM.out] at h; exact h) (by have h := hv; rw [← vL_def, HNM.out] at h; exact h)
                have HCK := Lib.hid hck
                clear hck hv
                go_wp2_with (go_at_call 66; refine HCK.out.mono ?_; rintro e w8 ⟨rfl, hb8⟩; have HB8 := Lib.hid (KB.at hb8); clear hb8)
                refine bodyPost_ret (v := .tuple #[.slice none 0 0, .int .i64 3]) (by simp [results, Tryz.results31, go_sem]) rfl ⟨.slice none 0 0, by rw [HX.out.2], HB8.out, by rw [HX.out.1]; exact OwnL.none0 _ _⟩
          · obtain ⟨k, rfl⟩ : ∃ k : Nat, o = k := ⟨o.toNat, by omega⟩
            have hk : k < m := by omega
            have hk' : (k : Int) < m := by omega
            have hfk := HSEC.out k hk
            obtain ⟨g, off, rfl, hg, hc⟩ := SecAt.get KL.here (show 0 < m by omega)
            have c1 : (w3.alloc (.cells #[.int .i64 0] 2)).cell? ⟨g, off + k * 2 + 1, none⟩ = some (.int .i16 (S k)) := (hb30.cell (p := ⟨g, off + k * 2 + 1, none⟩) hg).trans (hc k hk).2
            have p0 := row_cell 0 (KP.alloc (.cells #[.int .i64 0] 2)).here
            rw [pc_get0] at p0
            have hTT := sxS_yes S k
            obtain ⟨T, hT0⟩ : ∃ y, S k = y := ⟨_, rfl⟩
            rw [hT0] at hTT c1 hfk
            rw [hTT] at HM HNOTE
            have hT : 0 ≤ T ∧ T ≤ 96 := by omega
            have q5 := i64_id (x := T) (by omega)
            have f0 := frozen_of_row (w3.alloc (.cells #[.int .i64 0] 2)) w3.heap.size 0 _ _ hg30
            have H31 := Lib.hid (And.intro ((Below.refl w3.heap.size w3).alloc (Nat.le_refl _) (.cells #[.int .i64 T] 2)) (heap_alloc_new w3 (.cells #[.int .i64 T] 2)))
            have d0 := row_cell 0 hg30
            clear hc hb30 hg30 hT0 hTT H30
            go_wp2_with fail
            obtain ⟨hbV, hgV⟩ := H31.out
            clear H31 c0 c1 p0 f0 d0
            generalize w3.alloc (.cells #[.int .i64 T] 2) = V at hbV hgV ⊢
            have hbz := hbV.size
            replace KB := KB.on hbV
            have HS4 := Lib.hid (OwnN.below HS3.out hbV); have HC4 := Lib.hid (OwnN.below HC3.out hbV)
            have hmv := moved_any w3.heap.size hh cs bs p gap T V (by omega) hpb hgb hT hgV (by have h := OwnN.readAt HS4.out; rw [HSL0.out] at h; exact h)
            have HMV := Lib.hid hmv
            clear hmv hbV hgV
            refine HMV.out.mono ?_
            rintro e w5 ⟨v5, ok, rfl, hb5, hok1, hok2⟩
            have HC5 := Lib.hid (OwnN.below HC4.out hb5)
            replace KB := KB.on hb5
            have HOK1 := Lib.hid hok1; have HOK2 := Lib.hid hok2
            clear hok1 hok2 hb5
            cases ok
            · obtain ⟨i, hi, hbig⟩ := HOK2.out rfl
              have HX := Lib.hid (HBAD.out hl120 (by rw [HM.out]; exact vL_bad (z := (T + (i : Int) * gap, p)) (List.mem_append_right _ ((stkL_mem _ _ _ _ _).2 ⟨i, hi, rfl⟩)) (by rw [← Bool.not_eq_true, noteB_iff]; simp only; omega)))
              clear hbig hi
              have hbe := KB.here
              go_wp2
              refine bodyPost_ret (v := .tuple #[.slice none 0 0, .int .i64 3]) (by simp [results, Tryz.results31, go_sem]) rfl ⟨.slice none 0 0, by rw [HX.out.2], hbe, by rw [HX.out.1]; exact OwnL.none0 _ _⟩
            · obtain ⟨ho5, hle⟩ := HOK1.out rfl
              have hM2 := whole_str (L := L) (p := p) (gap := gap) (fr := T) (h := hh) HSTR.out (fun z hz => (HNOTE.out z hz).2) hgb.1
              have hMn : ∀ z ∈ L ++ stkL p gap T hh, noteB z.1 z.2 = true := by
                intro z hz
                rcases List.mem_append.1 hz with h | h
                · exact (HNOTE.out z h).1
                · obtain ⟨i, hi, rfl⟩ := (stkL_mem _ _ _ _ _).1 h
                  have := hle i hi
                  have := mul_bound (k := i) (gap := gap) (by omega) hgb
                  rw [noteB_iff]; simp only; omega
              have hsrt := srtN_self hM2
              have hvm := vL_str hM2 hMn
              have hI := I16_list hMn
              have hMl : (L ++ stkL p gap T hh).length ≤ 200 := by rw [List.length_append, stkL_len]; omega
              obtain ⟨M, hMM⟩ : ∃ M, L ++ stkL p gap T hh = M := ⟨_, rfl⟩
              obtain ⟨NM, hNM⟩ : ∃ y, M.length = y := ⟨_, rfl⟩
              rw [hMM] at hsrt hvm hI hMl HM
              have HMM := Lib.hid hMM; have HNM := Lib.hid hNM; have HSRT := Lib.hid hsrt; have HVM := Lib.hid hvm; have HI := Lib.hid hI; have HML := Lib.hid hMl
              have HO5 := Lib.hid ho5
              clear hMM hNM hsrt hvm hI hMl hM2 hMn hle ho5
              obtain ⟨b5, c5, hv5⟩ := OwnL.form HO5.out
              rw [stkL_len] at hv5
              subst hv5
              have hgs := heap_alloc_new w5 (.cells #[.slice b3 NL c3, .slice b5 hh c5] 39)
              have hcc := concatN_any w5.heap.size w.heap.size V.heap.size _ _ L (stkL p gap T hh) (w5.alloc (.cells #[.slice b3 NL c3, .slice b5 hh c5] 39)) (by rw [stkL_len]; omega) hgs (OwnN.alloc HC5.out _) (OwnN.alloc HO5.out _)
              rw [HMM.out] at hcc
              replace KB := KB.alloc (.cells #[.slice b3 NL c3, .slice b5 hh c5] 39)
              have HCC := Lib.hid hcc
              clear hcc hgs
              have hbsz := KB.here.size
              go_wp2_with (first | (go_at_call 68; refine HCC.out.mono ?_; rintro e w6 ⟨v6, rfl, hb6, ho6⟩; obtain ⟨b6, c6, rfl⟩ := OwnL.form ho6; rw [HNM.out] at ho6 ⊢; have hmd := made_own _ NM c6 b6 M w6 (by have := HML.out; have := HNM.out; omega) ho6; rw [HSRT.out] at hmd; replace KB := KB.on hb6; have HMD := Lib.hid hmd; clear hmd ho6 hb6) | (go_at_call 67; refine HMD.out.mono ?_; rintro e w7 ⟨v7, rfl, hb7, ho7⟩; obtain ⟨b7, c7, rfl⟩ := OwnL.form ho7; rw [HNM.out] at ho7 ⊢; have hz7 := KB.here.size; replace KB := KB.on hb7; have HO7 := Lib.hid (OwnN.mono ho7 hz7); clear hb7 ho7))
              by_cases hlm : NM ≤ 120
              · have hv : vL M = true := by rw [HVM.out]; exact decide_eq_true (by have := HNM.out; omega)
                have HX := Lib.hid (HYES.out hl120 (by rw [HM.out]; exact hv))
                have hck := checked_yes b7 NM c7 (fun i => (M.getD i (0, 0)).1) (fun i => (M.getD i (0, 0)).2) 3 w7 (by omega) HI.out.1 HI.out.2 (by have h := OwnN.readAt HO7.out; rw [HNM.out] at h; exact h) (by have h := hv; rw [← vL_def, HNM.out] at h; exact h)
                have HCK := Lib.hid hck
                clear hck hv
                go_wp2_with (go_at_call 66; refine HCK.out.mono ?_; rintro e w8 ⟨rfl, hb8⟩; have HB8 := Lib.hid (KB.at hb8); have HO8 := Lib.hid (OwnN.below HO7.out hb8); clear hb8)
                refine bodyPost_ret (v := .tuple #[.slice b7 NM c7, .int .i64 0]) (by simp [results, Tryz.results31, go_sem]) rfl ⟨_, by rw [HX.out.2], HB8.out, by rw [HX.out.1, HM.out]; exact HO8.out⟩
              · have hv : vL M = false := by rw [HVM.out]; exact decide_eq_false (by have := HNM.out; omega)
                have HX := Lib.hid (HBAD.out hl120 (by rw [HM.out]; exact hv))
                have hck := checked_no b7 NM c7 (fun i => (M.getD i (0, 0)).1) (fun i => (M.getD i (0, 0)).2) 3 w7 (by have := HML.out; have := HNM.out; omega) HI.out.1 HI.out.2 (by have h := OwnN.readAt HO7.out; rw [HNM.out] at h; exact h) (by have h := hv; rw [← vL_def, HNM.out] at h; exact h)
                have HCK := Lib.hid hck
                clear hck hv
                go_wp2_with (go_at_call 66; refine HCK.out.mono ?_; rintro e w8 ⟨rfl, hb8⟩; have HB8 := Lib.hid (KB.at hb8); clear hb8)
                refine bodyPost_ret (v := .tuple #[.slice none 0 0, .int .i64 3]) (by simp [results, Tryz.results31, go_sem]) rfl ⟨.slice none 0 0, by rw [HX.out.2], HB8.out, by rw [HX.out.1]; exact OwnL.none0 _ _⟩
        · have HM := Lib.hid (HM1.out (by rw [hr]; exact hq4))
          have hq4' : ¬ (r : Int) = 0 := by omega
          have HV := Lib.hid (show vL L = true by rw [vL_str HSTR.out fun z hz => (HNOTE.out z hz).1]; exact decide_eq_true (by omega))
          have HX := Lib.hid (HYES.out hl120 (by rw [HM.out]; exact HV.out))
          clear hq4 hr
          go_wp2
          refine bodyPost_ret (v := .tuple #[.slice b3 NL c3, .int .i64 0]) (by simp [results, Tryz.results31, go_sem]) rfl ⟨.slice b3 NL c3, by rw [HX.out.2], hbe, by rw [HX.out.1, HM.out]; exact HC3.out⟩
      · have hsx := sx_no hl120
        have hc0 := HCN.out
        rw [hsx.2] at hc0
        subst hc0
        rw [hsx.1] at HC3 ⊢
        have HX := Lib.hid (HLONG.out hl120)
        clear hsx HCN hl120
        go_wp2
        refine bodyPost_ret (v := .tuple #[.slice b3 0 c3, .int .i64 3]) (by simp [results, Tryz.results31, go_sem]) rfl ⟨.slice b3 0 c3, by rw [HX.out.2], hbe, by rw [HX.out.1]; exact HC3.out⟩
  · have hno := Lib.hid (wc_no (p := p) (gap := gap) (by rw [wcZ_def]; exact wcode_and HW.out h0) h0)
    have hbe := KB.here
    go_wp2
    refine bodyPost_ret (v := .tuple #[.slice none 0 0, .int .i64 z]) (by simp [results, Tryz.results31, go_sem]) rfl ⟨.slice none 0 0, by rw [hno.out.2], hbe, by rw [hno.out.1]; exact OwnL.none0 _ _⟩
end Go.Proofs.YteffaghcjpeblaaGreat
