/- PackSections, by the reference and by the program. No conditions. -/
import Derived.Test.YtpfjmoodfodfhaaOwnS
import Derived.Test.YtpfjmoodfodfhaaInt
import Derived.Test.YtpfjmoodfodfhaaLc
import Derived.Outline
namespace Go.Proofs.Ytpfjmoodfodfhaa
open Go.RowKit
set_option linter.unusedVariables false
set_option linter.unusedSimpArgs false

theorem allIn_iff (Z : Nat → Int) (n : Nat) (lo hi : Int) : allIn Z n lo hi = true ↔ ∀ k, k < n → lo ≤ Z k ∧ Z k ≤ hi := by
  have h := anyB_not Z n lo hi
  cases ha : allIn Z n lo hi
  · rw [ha] at h
    obtain ⟨k, hk, hp⟩ := anyB_iff.1 (show anyB (fun k => !inB (Z k) lo hi) n = true by rw [h]; rfl)
    constructor
    · intro h2; cases h2
    · intro h2
      rw [inB_true (h2 k hk)] at hp
      exact absurd hp (by simp)
  · rw [ha] at h
    simp only [true_iff]
    intro k hk
    cases hb : inB (Z k) lo hi
    · have : anyB (fun k => !inB (Z k) lo hi) n = true := anyB_iff.2 ⟨k, hk, by rw [hb]; rfl⟩
      rw [h] at this
      exact absurd this (by simp)
    · exact inB_iff.1 hb
theorem allIn_bad {Z : Nat → Int} {n : Nat} {lo hi : Int} (k : Nat) (hk : k < n) (h : ¬ (lo ≤ Z k ∧ Z k ≤ hi)) : allIn Z n lo hi = false := by
  cases ha : allIn Z n lo hi
  · rfl
  · exact absurd ((allIn_iff Z n lo hi).1 ha k hk) h
/-- the end of the first k sections -/
def pkE (Z : Nat → Int) (gap : Int) : Nat → Int
  | 0 => 0
  | k + 1 => pkE Z gap k + (if k = 0 then 0 else gap) + Z k
/-- where the section k begins -/
def pkA (Z : Nat → Int) (gap : Int) (k : Nat) : Int := pkE Z gap k + (if k = 0 then 0 else gap)
theorem pkE_zero (Z : Nat → Int) (gap : Int) : pkE Z gap 0 = 0 := rfl
theorem pkE_succ (Z : Nat → Int) (gap : Int) (k : Nat) : pkE Z gap (k + 1) = pkA Z gap k + Z k := rfl
theorem pkA_zero (Z : Nat → Int) (gap : Int) : pkA Z gap 0 = 0 := rfl
theorem pkA_pos (Z : Nat → Int) (gap : Int) {k : Nat} (h : 0 < k) : pkA Z gap k = pkE Z gap k + gap := by unfold pkA; rw [if_neg (by omega)]
theorem pkA_eq (Z : Nat → Int) (gap : Int) {k : Nat} (h : ¬ 0 < k) : pkA Z gap k = pkE Z gap k := by unfold pkA; rw [if_pos (by omega), Int.add_zero]
theorem pk_bound {Z : Nat → Int} {gap : Int} (hg : 0 ≤ gap ∧ gap ≤ 96) : ∀ k, (∀ i, i < k → 1 ≤ Z i ∧ Z i ≤ 96) → 0 ≤ pkE Z gap k ∧ pkE Z gap k ≤ 192 * k ∧ pkE Z gap k ≤ pkA Z gap k ∧ pkA Z gap k ≤ pkE Z gap k + 96 := by
  intro k
  induction k with
  | zero => intro _; rw [pkA_zero, pkE_zero]; omega
  | succ k ih =>
    intro h
    have h1 := ih fun i hi => h i (by omega)
    have h2 := h k (by omega)
    rw [pkA_pos Z gap (by omega : 0 < k + 1), pkE_succ]
    omega
theorem pk_mono {Z : Nat → Int} {gap : Int} (hg : 0 ≤ gap ∧ gap ≤ 96) {n : Nat} (h : ∀ i, i < n → 1 ≤ Z i ∧ Z i ≤ 96) : ∀ k, k ≤ n → pkE Z gap k ≤ pkE Z gap n := by
  intro k hk
  induction n with
  | zero => rw [show k = 0 by omega]; exact Int.le_refl _
  | succ n ih =>
    by_cases e : k = n + 1
    · rw [e]; exact Int.le_refl _
    · have h1 := ih (fun i hi => h i (by omega)) (by omega)
      have h2 := (pk_bound hg n fun i hi => h i (by omega)).2.2.1
      have h3 := h n (by omega)
      rw [pkE_succ]
      omega
attribute [irreducible] pkE pkA
/-- the first k sections -/
def pkL (Z : Nat → Int) (gap : Int) : Nat → List (Int × Int)
  | 0 => []
  | k + 1 => pkL Z gap k ++ [(pkA Z gap k, Z k)]
theorem pkL_zero (Z : Nat → Int) (gap : Int) : pkL Z gap 0 = [] := rfl
theorem pkL_succ (Z : Nat → Int) (gap : Int) (k : Nat) : pkL Z gap (k + 1) = pkL Z gap k ++ [(pkA Z gap k, Z k)] := rfl
theorem pkL_len (Z : Nat → Int) (gap : Int) (k : Nat) : (pkL Z gap k).length = k := by
  induction k with
  | zero => rfl
  | succ k ih => rw [pkL_succ, List.length_append, ih]; rfl
attribute [irreducible] pkL
/-- what lengths and a gap are worth -/
noncomputable def pkOk (l : Nat) (Z : Nat → Int) (gap : Int) : Bool := decide ((l : Int) ≤ 12) && inB gap 0 96 && allIn Z l 1 96
theorem pkOk_iff {l : Nat} {Z : Nat → Int} {gap : Int} : pkOk l Z gap = true ↔ l ≤ 12 ∧ (0 ≤ gap ∧ gap ≤ 96) ∧ ∀ k, k < l → 1 ≤ Z k ∧ Z k ≤ 96 := by
  unfold pkOk
  rw [Bool.and_eq_true, Bool.and_eq_true, allIn_iff, inB_iff, decide_eq_true_eq]
  constructor
  · rintro ⟨⟨h1, h2⟩, h3⟩; exact ⟨by omega, h2, h3⟩
  · rintro ⟨h1, h2, h3⟩; exact ⟨⟨by omega, h2⟩, h3⟩
theorem pkOk_def (l : Nat) (Z : Nat → Int) (gap : Int) : pkOk l Z gap = (decide ((l : Int) ≤ 12) && inB gap 0 96 && allIn Z l 1 96) := rfl
attribute [irreducible] pkOk
/-- sections that are packed: which, and the code -/
noncomputable def pkd (s : Int) (l : Nat) (Z : Nat → Int) (gap : Int) : List (Int × Int) × Int := if pkE Z gap l ≤ s then (pkL Z gap l, 0) else ([], 3)
noncomputable def pkR (s : Int) (n : Nat) (P R : Nat → Int) (l : Nat) (Z : Nat → Int) (gap : Int) : List (Int × Int) × Int := if vFrame s n P R then (if pkOk l Z gap then pkd s l Z gap else ([], 2)) else ([], 1)
noncomputable def pkV (s : Int) (n : Nat) (P R : Nat → Int) (l : Nat) (Z : Nat → Int) (gap : Int) : List (Int × Int) := (pkR s n P R l Z gap).1
noncomputable def pkC (s : Int) (n : Nat) (P R : Nat → Int) (l : Nat) (Z : Nat → Int) (gap : Int) : Int := (pkR s n P R l Z gap).2
section
variable {s : Int} {n : Nat} {P R : Nat → Int} {l : Nat} {Z : Nat → Int} {gap : Int}
theorem pkd_fits (h : pkE Z gap l ≤ s) : pkd s l Z gap = (pkL Z gap l, 0) := if_pos h
theorem pkd_no (h : ¬ pkE Z gap l ≤ s) : pkd s l Z gap = ([], 3) := if_neg h
theorem pk_f (h : vFrame s n P R = false) : pkV s n P R l Z gap = [] ∧ pkC s n P R l Z gap = 1 := by unfold pkV pkC pkR; rw [h]; exact ⟨rfl, rfl⟩
theorem pk_r (h : vFrame s n P R = true) (h2 : pkOk l Z gap = false) : pkV s n P R l Z gap = [] ∧ pkC s n P R l Z gap = 2 := by unfold pkV pkC pkR; rw [h, h2]; exact ⟨rfl, rfl⟩
theorem pk_y (h : vFrame s n P R = true) (h2 : pkOk l Z gap = true) : pkV s n P R l Z gap = (pkd s l Z gap).1 ∧ pkC s n P R l Z gap = (pkd s l Z gap).2 := by unfold pkV pkC pkR; rw [h, h2]; exact ⟨rfl, rfl⟩
theorem pkV_len : (pkV s n P R l Z gap).length ≤ 1000000 := by
  cases h : vFrame s n P R
  · rw [(pk_f h).1]; simp
  · cases h2 : pkOk l Z gap
    · rw [(pk_r h h2).1]; simp
    · rw [(pk_y h h2).1]
      by_cases h3 : pkE Z gap l ≤ s
      · rw [pkd_fits h3]; have := (pkOk_iff.1 h2).1; simp only [pkL_len]; omega
      · rw [pkd_no h3]; simp
end
attribute [irreducible] pkd pkR pkV pkC
theorem pk_first (v : Bool) (l : Nat) (Z : Nat → Int) (gap : Int) : firstL [pcode v (decide ((l : Int) ≤ 12) && inB gap 0 96), unl (allIn Z l 1 96) 2] = pcode v (pkOk l Z gap) := by
  rw [pkOk_def]
  cases v
  · rw [pcode_f, pcode_f, firstL_at _ (by omega)]
  · generalize (decide ((l : Int) ≤ 12) && inB gap 0 96) = x
    cases x
    · rw [pcode_tf, Bool.false_and, pcode_tf, firstL_at _ (by omega)]
    · rw [pcode_tt, Bool.true_and, firstL_zero _ rfl]
      cases allIn Z l 1 96
      · rw [unl_false, pcode_tf, firstL_at _ (by omega)]
      · rw [unl_true, pcode_tt, firstL_zero _ rfl, firstL_nil]
theorem l04Gap_any (x : Int) (w : World) :
    Calls Try.prog 92 #[.int .i64 x] w fun e w' => e = .returned (.bool (inB x 0 96)) ∧ w = w' := by
  go_enter Try.func92, Try.ntmps92
  go_wp2_with (go_at_call 102; refine (l00In_any _ _ _ _).mono ?_; rintro e w2 ⟨rfl, rfl⟩)
  go_ret
  exact ⟨rfl, rfl⟩
theorem packCode_any (s : Int) (a : Option Addr) (n c : Nat) (P R : Nat → Int) (x gap : Int) (w : World) (hn : n ≤ 1048576) (hs : -32768 ≤ s ∧ s ≤ 32767) (hP : I8 P) (hR : I8 R) (hh : HamAt w a n P R) :
    Calls Try.prog 95 #[.agg #[.int .i16 s, .slice a n c], .int .i64 x, .int .i64 gap] w fun e w' => e = .returned (.int .i64 (pcode (vFrame s n P R) (decide (x ≤ 12) && inB gap 0 96))) ∧ Below w.heap.size w w' := by
  have HP := Lib.hid hP; have HR := Lib.hid hR; clear hP hR
  have KB := Kp.base w; have KH := kp_ham hh; clear hh
  replace KB := KB.alloc (.cells #[.int .i16 s, .slice a n c] 27)
  replace KH := KH.alloc (.cells #[.int .i16 s, .slice a n c] 27)
  have KF := kp_new1 w #[.int .i16 s, .slice a n c] 27 (g := w.heap.size) (by simp)
  have HZ := Lib.hid (show (w.alloc (.cells #[.int .i16 s, .slice a n c] 27)).heap.size = w.heap.size + 1 by simp)
  go_enter Try.func95, Try.ntmps95
  go_wp2_with (with_reducible refine load_iframe rfl _ rfl w.heap.size rfl _ s a n c KF.here ?_)
  generalize (w.alloc (.cells #[.int .i16 s, .slice a n c] 27)) = W at KB KH KF HZ ⊢
  clear HZ
  refine (validFrame_any s a n c P R W (by omega) hs HP.out HR.out KH.here).mono ?_
  rintro e w1 ⟨rfl, hb1⟩
  replace KB := KB.on hb1
  cases hv : vFrame s n P R
  · have HV := Lib.hid hv; clear hv
    go_wp2
    go_ret
    exact ⟨ret_int (by rw [HV.out, pcode_f]), KB.here⟩
  · have HV := Lib.hid hv; clear hv
    by_cases hx : x ≤ 12
    · have hd := Lib.hid (decide_eq_true hx)
      cases hg : inB gap 0 96
      · have HG := Lib.hid hg
        go_wp2_with (first | (go_at_call 107; refine (within_any _ _ _ _).mono ?_; rw [hg]; rintro e w2 ⟨rfl, rfl⟩) | (go_at_call 58; refine (unless_any _ _ _).mono ?_; rintro e w2 ⟨rfl, rfl⟩))
        go_ret
        exact ⟨ret_int (by rw [hd.out, HG.out, HV.out, unl_false]; exact pcode_tf.symm), KB.here⟩
      · have HG := Lib.hid hg
        go_wp2_with (first | (go_at_call 107; refine (within_any _ _ _ _).mono ?_; rw [hg]; rintro e w2 ⟨rfl, rfl⟩) | (go_at_call 58; refine (unless_any _ _ _).mono ?_; rintro e w2 ⟨rfl, rfl⟩))
        go_ret
        exact ⟨ret_int (by rw [hd.out, HG.out, HV.out, unl_true]; exact pcode_tt.symm), KB.here⟩
    · have hd := Lib.hid (decide_eq_false hx)
      go_wp2_with (go_at_call 58; refine (unless_any _ _ _).mono ?_; rintro e w2 ⟨rfl, rfl⟩)
      go_ret
      exact ⟨ret_int (by rw [hd.out, HV.out, unl_false, Bool.false_and, pcode_tf]), KB.here⟩
set_option maxRecDepth 100000 in
set_option maxHeartbeats 1000000 in
theorem packed_any (s : Int) (a : Option Addr) (n c : Nat) (q : Option Addr) (l x0 : Nat) (Z : Nat → Int) (gap : Int) (w : World) (hs : 0 ≤ s ∧ s ≤ 32767) (hl : l ≤ 12) (hg : 0 ≤ gap ∧ gap ≤ 96) (hZ : ∀ k, k < l → 1 ≤ Z k ∧ Z k ≤ 96) (hz : IntAt w q l Z) :
    Calls Try.prog 97 #[.agg #[.int .i16 s, .slice a n c], .slice q l x0, .int .i64 gap] w fun e w' => ∃ v, e = .returned (.tuple #[v, .int .i64 (pkd s l Z gap).2]) ∧ Below w.heap.size w w' ∧ OwnS w' w.heap.size v (pkd s l Z gap).1 := by
  have HZZ := Lib.hid hZ; clear hZ
  have KB := Kp.base w; have KZ := kp_int hz; clear hz
  replace KB := KB.alloc (.cells #[.int .i16 s, .slice a n c] 27)
  replace KZ := KZ.alloc (.cells #[.int .i16 s, .slice a n c] 27)
  have KF := kp_new1 w #[.int .i16 s, .slice a n c] 27 (g := w.heap.size) (by simp)
  have HZ := Lib.hid (show (w.alloc (.cells #[.int .i16 s, .slice a n c] 27)).heap.size = w.heap.size + 1 by simp)
  go_enter Try.func97, Try.ntmps97
  go_wp2
  generalize (w.alloc (.cells #[.int .i16 s, .slice a n c] 27)) = W at KB KZ KF HZ ⊢
  have hbs := KB.here.size
  go_loopw [8, 9, 15] (fun v t i w' => Below W.heap.size W w' ∧ ∃ k : Nat, k ≤ l ∧ i = .int .i64 k ∧ t = .int .i64 (pkE Z gap k) ∧ (∀ j, j ≤ k → 0 < j → pkE Z gap j ≤ s) ∧ OwnS w' W.heap.size v (pkL Z gap k)) (fun _ _ i _ => l - (intOf i).toNat)
  case atStart => exact ⟨(Below.refl _ _).alloc (Nat.le_refl _) _, 0, by omega, rfl, by rw [pkE_zero], fun j hj h0 => by omega, by rw [pkL_zero, ← HZ.out]; exact OwnL.nil W W.heap.size (Nat.le_refl _)⟩
  case round =>
    obtain ⟨hb, k, hk, rfl, rfl, hall, hown⟩ := hrel
    have HOWN := Lib.hid hown; have HALL := Lib.hid hall; clear hown hall
    replace KB := KB.on hb
    replace KZ := KZ.on hb
    replace KF := KF.on hb
    by_cases hlt : k < l
    · have hk' : (k : Int) < l := by omega
      have hx := IntAt.get KZ.here (show 0 < l by omega)
      obtain ⟨g, off, rfl, hg2, hc⟩ := hx
      have c0 := hc k hlt
      have f0 := row_cell 0 KF.here
      clear hc
      have hzk := HZZ.out k hlt
      have hbd := pk_bound hg k fun i hi => HZZ.out i (by omega)
      have hlen := pkL_len Z gap k
      have HLEN := Lib.hid hlen; clear hlen
      have HS := Lib.hid (pkL_succ Z gap k)
      have HE := Lib.hid (pkE_succ Z gap k)
      obtain ⟨y, hy⟩ : ∃ y, pkA Z gap k = y := ⟨_, rfl⟩
      rw [hy] at HS HE hbd
      obtain ⟨x, hx⟩ : ∃ x, pkE Z gap k = x := ⟨_, rfl⟩
      rw [hx] at hbd ⊢
      obtain ⟨z, hz⟩ : ∃ z, Z k = z := ⟨_, rfl⟩
      rw [hz] at HS HE hzk c0
      have hsz := hb.size
      by_cases h0 : 0 < k
      · have hya := pkA_pos Z gap h0
        rw [hy, hx] at hya
        have HY := Lib.hid hy; have HX := Lib.hid hx; have HZZ2 := Lib.hid hz; clear hy hx hz
        subst hya
        by_cases hf : x + gap + z ≤ s
        · go_wp2_with (at_builtin; refine append_sections rfl _ _ rfl W.heap.size _ (pkL Z gap k) rfl (OwnS.alloc HOWN.out _) ⟨wr.heap.size, 0, none⟩ 1 1 [(x + gap, z)] rfl rfl (one_cells (heap_alloc_new wr _)) (by rw [HLEN.out]; omega) (by simp; omega) ?_; intro v2 w2 hown2 hb2; have HO2 := Lib.hid hown2; have HB2 := Lib.hid hb2; clear hown2 hb2)
          go_roundw
          case rel => exact ⟨(hb.alloc hsz _).trans HB2.out, k + 1, by omega, by go_num, by rw [HE.out], fun j hj h0 => if e : j = k + 1 then by rw [e, HE.out]; exact hf else HALL.out j (by omega) h0, by rw [HS.out]; exact HO2.out⟩
          case measure => simp [intOf]; omega
        · have hno := Lib.hid (show ¬ pkE Z gap l ≤ s by
            have h1 := pk_mono hg HZZ.out (k + 1) (by omega)
            rw [HE.out] at h1
            omega)
          have hr := Lib.hid (pkd_no hno.out)
          go_wp2
          go_ret2
          exact ⟨_, by rw [hr.out]; rfl, KB.here, by rw [hr.out]; exact OwnL.none0 _ _⟩
      · have hya := pkA_eq Z gap h0
        rw [hy, hx] at hya
        have h0' : ¬ (0 : Int) < k := by omega
        have HY := Lib.hid hy; have HX := Lib.hid hx; have HZZ2 := Lib.hid hz; clear hy hx hz
        subst hya
        by_cases hf : y + z ≤ s
        · go_wp2_with (at_builtin; refine append_sections rfl _ _ rfl W.heap.size _ (pkL Z gap k) rfl (OwnS.alloc HOWN.out _) ⟨wr.heap.size, 0, none⟩ 1 1 [(y, z)] rfl rfl (one_cells (heap_alloc_new wr _)) (by rw [HLEN.out]; omega) (by simp; omega) ?_; intro v2 w2 hown2 hb2; have HO2 := Lib.hid hown2; have HB2 := Lib.hid hb2; clear hown2 hb2)
          go_roundw
          case rel => exact ⟨(hb.alloc hsz _).trans HB2.out, k + 1, by omega, by go_num, by rw [HE.out], fun j hj h0 => if e : j = k + 1 then by rw [e, HE.out]; exact hf else HALL.out j (by omega) h0, by rw [HS.out]; exact HO2.out⟩
          case measure => simp [intOf]; omega
        · have hno := Lib.hid (show ¬ pkE Z gap l ≤ s by
            have h1 := pk_mono hg HZZ.out (k + 1) (by omega)
            rw [HE.out] at h1
            omega)
          have hr := Lib.hid (pkd_no hno.out)
          go_wp2
          go_ret2
          exact ⟨_, by rw [hr.out]; rfl, KB.here, by rw [hr.out]; exact OwnL.none0 _ _⟩
    · have hkl : k = l := by omega
      subst hkl
      have hfit : pkE Z gap k ≤ s := by
        by_cases h0 : 0 < k
        · exact HALL.out k (Nat.le_refl _) h0
        · rw [show k = 0 by omega, pkE_zero]; exact hs.1
      have hr := Lib.hid (pkd_fits hfit); clear hfit
      go_wp2
      go_ret2
      exact ⟨_, by rw [hr.out]; rfl, KB.here, by rw [hr.out]; exact HOWN.out.mono hbs⟩
end Go.Proofs.Ytpfjmoodfodfhaa
