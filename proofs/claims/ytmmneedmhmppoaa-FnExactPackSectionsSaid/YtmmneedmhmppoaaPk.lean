/- PackSections, by the reference and by the program. No conditions. -/
import Derived.Test.YtmmneedmhmppoaaOwnS
import Derived.Test.YtmmneedmhmppoaaInt
import Derived.Test.YtmmneedmhmppoaaLc
import Derived.Outline
namespace Go.Proofs.Ytmmneedmhmppoaa
open Go.RowKit
set_option linter.unusedVariables false
set_option linter.unusedSimpArgs false

theorem allIn_iff (Z : Nat → Int) (n : Nat) (lo hi : Int) : allIn Z n lo hi = true ↔ ∀ k, k < n → lo ≤ Z k ∧ Z k ≤ hi := by
  have h := anyB_not Z n lo hi
  cases ha : allIn Z n lo hi
  · rw [ha] at h
    obtain ⟨k, hk, hp⟩ := anyB_iff.1 (show anyB (fun k => !inB (Z k) lo hi) n = true by rw [h]; rfl)
    constructor
    · intro h2; cases h2
    · intro h2
      rw [inB_true (h2 k hk)] at hp
      exact absurd hp (by simp)
  · rw [ha] at h
    simp only [true_iff]
    intro k hk
    cases hb : inB (Z k) lo hi
    · have : anyB (fun k => !inB (Z k) lo hi) n = true := anyB_iff.2 ⟨k, hk, by rw [hb]; rfl⟩
      rw [h] at this
      exact absurd this (by simp)
    · exact inB_iff.1 hb
theorem allIn_bad {Z : Nat → Int} {n : Nat} {lo hi : Int} (k : Nat) (hk : k < n) (h : ¬ (lo ≤ Z k ∧ Z k ≤ hi)) : allIn Z n lo hi = false := by
  cases ha : allIn Z n lo hi
  · rfl
  · exact absurd ((allIn_iff Z n lo hi).1 ha k hk) h
/-- the end of the first k sections -/
def pkE (Z : Nat → Int) (gap : Int) : Nat → Int
  | 0 => 0
  | k + 1 => pkE Z gap k + (if k = 0 then 0 else gap) + Z k
/-- where the section k begins -/
def pkA (Z : Nat → Int) (gap : Int) (k : Nat) : Int := pkE Z gap k + (if k = 0 then 0 else gap)
theorem pkE_zero (Z : Nat → Int) (gap : Int) : pkE Z gap 0 = 0 := rfl
theorem pkE_succ (Z : Nat → Int) (gap : Int) (k : Nat) : pkE Z gap (k + 1) = pkA Z gap k + Z k := rfl
theorem pkA_zero (Z : Nat → Int) (gap : Int) : pkA Z gap 0 = 0 := rfl
theorem pkA_pos (Z : Nat → Int) (gap : Int) {k : Nat} (h : 0 < k) : pkA Z gap k = pkE Z gap k + gap := by unfold pkA; rw [if_neg (by omega)]
theorem pkA_eq (Z : Nat → Int) (gap : Int) {k : Nat} (h : ¬ 0 < k) : pkA Z gap k = pkE Z gap k := by unfold pkA; rw [if_pos (by omega), Int.add_zero]
theorem pk_bound {Z : Nat → Int} {gap : Int} (hg : 0 ≤ gap ∧ gap ≤ 96) : ∀ k, (∀ i, i < k → 1 ≤ Z i ∧ Z i ≤ 96) → 0 ≤ pkE Z gap k ∧ pkE Z gap k ≤ 192 * k ∧ pkE Z gap k ≤ pkA Z gap k ∧ pkA Z gap k ≤ pkE Z gap k + 96 := by
  intro k
  induction k with
  | zero => intro _; rw [pkA_zero, pkE_zero]; omega
  | succ k ih =>
    intro h
    have h1 := ih fun i hi => h i (by omega)
    have h2 := h k (by omega)
    rw [pkA_pos Z gap (by omega : 0 < k + 1), pkE_succ]
    omega
theorem pk_mono {Z : Nat → Int} {gap : Int} (hg : 0 ≤ gap ∧ gap ≤ 96) {n : Nat} (h : ∀ i, i < n → 1 ≤ Z i ∧ Z i ≤ 96) : ∀ k, k ≤ n → pkE Z gap k ≤ pkE Z gap n := by
  intro k hk
  induction n with
  | zero => rw [show k = 0 by omega]; exact Int.le_refl _
  | succ n ih =>
    by_cases e : k = n + 1
    · rw [e]; exact Int.le_refl _
    · have h1 := ih (fun i hi => h i (by omega)) (by omega)
      have h2 := (pk_bound hg n fun i hi => h i (by omega)).2.2.1
      have h3 := h n (by omega)
      rw [pkE_succ]
      omega
attribute [irreducible] pkE pkA
/-- the first k sections -/
def pkL (Z : Nat → Int) (gap : Int) : Nat → List (Int × Int)
  | 0 => []
  | k + 1 => pkL Z gap k ++ [(pkA Z gap k, Z k)]
theorem pkL_zero (Z : Nat → Int) (gap : Int) : pkL Z gap 0 = [] := rfl
theorem pkL_succ (Z : Nat → Int) (gap : Int) (k : Nat) : pkL Z gap (k + 1) = pkL Z gap k ++ [(pkA Z gap k, Z k)] := rfl
theorem pkL_len (Z : Nat → Int) (gap : Int) (k : Nat) : (pkL Z gap k).length = k := by
  induction k with
  | zero => rfl
  | succ k ih => rw [pkL_succ, List.length_append, ih]; rfl
attribute [irreducible] pkL
/-- what lengths and a gap are worth -/
noncomputable def pkOk (l : Nat) (Z : Nat → Int) (gap : Int) : Bool := decide ((l : Int) ≤ 12) && inB gap 0 96 && allIn Z l 1 96
theorem pkOk_iff {l : Nat} {Z : Nat → Int} {gap : Int} : pkOk l Z gap = true ↔ l ≤ 12 ∧ (0 ≤ gap ∧ gap ≤ 96) ∧ ∀ k, k < l → 1 ≤ Z k ∧ Z k ≤ 96 := by
  unfold pkOk
  rw [Bool.and_eq_true, Bool.and_eq_true, allIn_iff, inB_iff, decide_eq_true_eq]
  constructor
  · rintro ⟨⟨h1, h2⟩, h3⟩; exact ⟨by omega, h2, h3⟩
  · rintro ⟨h1, h2, h3⟩; exact ⟨⟨by omega, h2⟩, h3⟩
theorem pkOk_def (l : Nat) (Z : Nat → Int) (gap : Int) : pkOk l Z gap = (decide ((l : Int) ≤ 12) && inB gap 0 96 && allIn Z l 1 96) := rfl
attribute [irreducible] pkOk
/-- sections that are packed: which, and the code -/
noncomputable def pkd (s : Int) (l : Nat) (Z : Nat → Int) (gap : Int) : List (Int × Int) × Int := if pkE Z gap l ≤ s then (pkL Z gap l, 0) else ([], 3)
noncomputable def pkR (s : Int) (n : Nat) (P R : Nat → Int) (l : Nat) (Z : Nat → Int) (gap : Int) : List (Int × Int) × Int := if vFrame s n P R then (if pkOk l Z gap then pkd s l Z gap else ([], 2)) else ([], 1)
noncomputable def pkV (s : Int) (n : Nat) (P R : Nat → Int) (l : Nat) (Z : Nat → Int) (gap : Int) : List (Int × Int) := (pkR s n P R l Z gap).1
noncomputable def pkC (s : Int) (n : Nat) (P R : Nat → Int) (l : Nat) (Z : Nat → Int) (gap : Int) : Int := (pkR s n P R l Z gap).2
section
variable {s : Int} {n : Nat} {P R : Nat → Int} {l : Nat} {Z : Nat → Int} {gap : Int}
theorem pkd_fits (h : pkE Z gap l ≤ s) : pkd s l Z gap = (pkL Z gap l, 0) := if_pos h
theorem pkd_no (h : ¬ pkE Z gap l ≤ s) : pkd s l Z gap = ([], 3) := if_neg h
theorem pk_f (h : vFrame s n P R = false) : pkV s n P R l Z gap = [] ∧ pkC s n P R l Z gap = 1 := by unfold pkV pkC pkR; rw [h]; exact ⟨rfl, rfl⟩
theorem pk_r (h : vFrame s n P R = true) (h2 : pkOk l Z gap = false) : pkV s n P R l Z gap = [] ∧ pkC s n P R l Z gap = 2 := by unfold pkV pkC pkR; rw [h, h2]; exact ⟨rfl, rfl⟩
theorem pk_y (h : vFrame s n P R = true) (h2 : pkOk l Z gap = true) : pkV s n P R l Z gap = (pkd s l Z gap).1 ∧ pkC s n P R l Z gap = (pkd s l Z gap).2 := by unfold pkV pkC pkR; rw [h, h2]; exact ⟨rfl, rfl⟩
theorem pkV_len : (pkV s n P R l Z gap).length ≤ 1000000 := by
  cases h : vFrame s n P R
  · rw [(pk_f h).1]; simp
  · cases h2 : pkOk l Z gap
    · rw [(pk_r h h2).1]; simp
    · rw [(pk_y h h2).1]
      by_cases h3 : pkE Z gap l ≤ s
      · rw [pkd_fits h3]; have := (pkOk_iff.1 h2).1; simp only [pkL_len]; omega
      · rw [pkd_no h3]; simp
end
attribute [irreducible] pkd pkR pkV pkC
theorem pk_first (v : Bool) (l : Nat) (Z : Nat → Int) (gap : Int) : firstL [pcode v (decide ((l : Int) ≤ 12) && inB gap 0 96), unl (allIn Z l 1 96) 2] = pcode v (pkOk l Z gap) := by
  rw [pkOk_def]
  cases v
  · rw [pcode_f, pcode_f, firstL_at _ (by omega)]
  · generalize (decide ((l : Int) ≤ 12) && inB gap 0 96) = x
    cases x
    · rw [pcode_tf, Bool.false_and, pcode_tf, firstL_at _ (by omega)]
    · rw [pcode_tt, Bool.true_and, firstL_zero _ rfl]
      cases allIn Z l 1 96
      · rw [unl_false, pcode_tf, firstL_at _ (by omega)]
      · rw [unl_true, pcode_tt, firstL_zero _ rfl, firstL_nil]
theorem l04Gap_any (x : Int) (w : World) :
    Calls Try.prog 95 #[.int .i64 x] w fun e w' => e = .returned (.bool (inB x 0 96)) ∧ w = w' := by
  go_enter Try.func95, Try.ntmps95
  go_wp2_with (go_at_call 96; refine (l00In_any _ _ _ _).mono ?_; rintro e w2 ⟨rfl, rfl⟩)
  go_ret
  exact ⟨rfl, rfl⟩
theorem pack1_any (x : Int) (w : World) :
    Calls Try.prog 98 #[.int .i64 x] w fun e w' => e = .returned (.bool (!inB x 1 96)) ∧ Below w.heap.size w w' := by
  go_enter Try.func98, Try.ntmps98
  go_wp2_with (go_at_call 99; refine (within_any _ _ _ _).mono ?_; rintro e w2 ⟨rfl, rfl⟩)
  go_ret
  exact ⟨rfl, Below.refl _ _⟩
set_option maxRecDepth 100000 in
theorem indexFuncPk (a : Option Addr) (n c : Nat) (Z : Nat → Int) (w : World) (hn : n ≤ 1000000000) (hh : IntAt w a n Z) :
    Calls Try.prog 145 #[.slice a n c, .func (.func 98) #[] #[]] w fun e w' => ∃ r, e = .returned (.int .i64 r) ∧ IdxOf (fun k => !inB (Z k) 1 96) n r ∧ Below w.heap.size w w' := by
  have KH := kp_int hh; clear hh
  go_enter Try.func145, Try.ntmps145
  go_wp2
  go_loopw [8] (fun i w' => Below w.heap.size w w' ∧ ∃ k : Nat, k ≤ n ∧ i = .int .i64 k ∧ ∀ j : Nat, j < k → (!inB (Z j) 1 96) = false) (fun i _ => n - (intOf i).toNat)
  case atStart => exact ⟨Below.refl _ _, 0, by omega, rfl, fun j hj => by omega⟩
  case round =>
    obtain ⟨hb, k, hk, rfl, hK⟩ := hrel
    have HK := Lib.hid hK; clear hK
    replace KH := KH.on hb
    by_cases hlt : k < n
    · have hx := IntAt.get KH.here (show 0 < n by omega)
      obtain ⟨g, off, rfl, hg, hc⟩ := hx
      have c0 := hc k hlt
      clear hc
      have hk' : (k : Int) < n := by omega
      cases hp : (!inB (Z k) 1 96)
      · have HPP := Lib.hid hp
        go_wp2_with (go_at_call 98; refine (pack1_any _ _).mono ?_; rw [hp]; rintro e w1 ⟨rfl, hb1⟩)
        go_roundw
        case rel => exact ⟨hb.trans (hb1.mono hb.size), k + 1, by omega, by go_num, fun j hj => if e : j = k then e ▸ HPP.out else HK.out j (by omega)⟩
        case measure => simp [intOf]; omega
      · have HPP := Lib.hid hp
        go_wp2_with (go_at_call 98; refine (pack1_any _ _).mono ?_; rw [hp]; rintro e w1 ⟨rfl, hb1⟩)
        go_ret
        exact ⟨_, rfl, .inr ⟨k, rfl, hlt, HPP.out, HK.out⟩, hb.trans (hb1.mono hb.size)⟩
    · go_wp2
      go_ret
      exact ⟨_, rfl, .inl ⟨rfl, fun j hj => HK.out j (by omega)⟩, hb⟩
set_option maxRecDepth 100000 in
theorem containsFuncPk (a : Option Addr) (n c : Nat) (Z : Nat → Int) (w : World) (hn : n ≤ 1000000000) (hh : IntAt w a n Z) :
    Calls Try.prog 97 #[.slice a n c, .func (.func 98) #[] #[]] w fun e w' => e = .returned (.bool (!allIn Z n 1 96)) ∧ Below w.heap.size w w' := by
  have HH := Lib.hid hh; clear hh
  go_enter Try.func97, Try.ntmps97
  go_wp2_with (go_at_call 145; refine (indexFuncPk a n c Z _ hn HH.out).mono ?_; rintro e w1 ⟨r, rfl, hr, hb⟩)
  go_ret
  exact ⟨ret_bool (by rw [hr.any, anyB_not]), hb⟩
theorem sizeInt64_any (a : Option Addr) (n c : Nat) (w : World) (hn : n ≤ 9223372036854775807) :
    Calls Try.prog 102 #[.slice a n c] w fun e w' => e = .returned (.int .i64 n) ∧ w = w' := by
  go_enter Try.func102, Try.ntmps102
  go_wp2
  go_ret
  exact ⟨rfl, rfl⟩
theorem packCode_any (s : Int) (a : Option Addr) (n c : Nat) (P R : Nat → Int) (x gap : Int) (w : World) (hn : n ≤ 1048576) (hs : -32768 ≤ s ∧ s ≤ 32767) (hP : I8 P) (hR : I8 R) (hh : HamAt w a n P R) :
    Calls Try.prog 101 #[.agg #[.int .i16 s, .slice a n c], .int .i64 x, .int .i64 gap] w fun e w' => e = .returned (.int .i64 (pcode (vFrame s n P R) (decide (x ≤ 12) && inB gap 0 96))) ∧ Below w.heap.size w w' := by
  have HP := Lib.hid hP; have HR := Lib.hid hR; clear hP hR
  have KB := Kp.base w; have KH := kp_ham hh; clear hh
  replace KB := KB.alloc (.cells #[.int .i16 s, .slice a n c] 43)
  replace KH := KH.alloc (.cells #[.int .i16 s, .slice a n c] 43)
  have KF := kp_new1 w #[.int .i16 s, .slice a n c] 43 (g := w.heap.size) (by simp)
  have HZ := Lib.hid (show (w.alloc (.cells #[.int .i16 s, .slice a n c] 43)).heap.size = w.heap.size + 1 by simp)
  go_enter Try.func101, Try.ntmps101
  go_wp2_with (with_reducible refine load_iframe rfl _ rfl w.heap.size rfl _ s a n c KF.here ?_)
  generalize (w.alloc (.cells #[.int .i16 s, .slice a n c] 43)) = W at KB KH KF HZ ⊢
  clear HZ
  refine (validFrame_any s a n c P R W (by omega) hs HP.out HR.out KH.here).mono ?_
  rintro e w1 ⟨rfl, hb1⟩
  replace KB := KB.on hb1
  cases hv : vFrame s n P R
  · have HV := Lib.hid hv; clear hv
    go_wp2
    go_ret
    exact ⟨ret_int (by rw [HV.out, pcode_f]), KB.here⟩
  · have HV := Lib.hid hv; clear hv
    by_cases hx : x ≤ 12
    · have hd := Lib.hid (decide_eq_true hx)
      cases hg : inB gap 0 96
      · have HG := Lib.hid hg
        go_wp2_with (first | (go_at_call 99; refine (within_any _ _ _ _).mono ?_; rw [hg]; rintro e w2 ⟨rfl, rfl⟩) | (go_at_call 103; refine (unless_any _ _ _).mono ?_; rintro e w2 ⟨rfl, rfl⟩))
        go_ret
        exact ⟨ret_int (by rw [hd.out, HG.out, HV.out, unl_false]; exact pcode_tf.symm), KB.here⟩
      · have HG := Lib.hid hg
        go_wp2_with (first | (go_at_call 99; refine (within_any _ _ _ _).mono ?_; rw [hg]; rintro e w2 ⟨rfl, rfl⟩) | (go_at_call 103; refine (unless_any _ _ _).mono ?_; rintro e w2 ⟨rfl, rfl⟩))
        go_ret
        exact ⟨ret_int (by rw [hd.out, HG.out, HV.out, unl_true]; exact pcode_tt.symm), KB.here⟩
    · have hd := Lib.hid (decide_eq_false hx)
      go_wp2_with (go_at_call 103; refine (unless_any _ _ _).mono ?_; rintro e w2 ⟨rfl, rfl⟩)
      go_ret
      exact ⟨ret_int (by rw [hd.out, HV.out, unl_false, Bool.false_and, pcode_tf]), KB.here⟩
set_option maxRecDepth 100000 in
set_option maxHeartbeats 1000000 in
theorem packed_any (s : Int) (a : Option Addr) (n c : Nat) (q : Option Addr) (l x0 : Nat) (Z : Nat → Int) (gap : Int) (w : World) (hs : 0 ≤ s ∧ s ≤ 32767) (hl : l ≤ 12) (hg : 0 ≤ gap ∧ gap ≤ 96) (hZ : ∀ k, k < l → 1 ≤ Z k ∧ Z k ≤ 96) (hz : IntAt w q l Z) :
    Calls Try.prog 104 #[.agg #[.int .i16 s, .slice a n c], .slice q l x0, .int .i64 gap] w fun e w' => ∃ v, e = .returned (.tuple #[v, .int .i64 (pkd s l Z gap).2]) ∧ Below w.heap.size w w' ∧ OwnS w' w.heap.size v (pkd s l Z gap).1 := by
  have HZZ := Lib.hid hZ; clear hZ
  have KB := Kp.base w; have KZ := kp_int hz; clear hz
  replace KB := KB.alloc (.cells #[.int .i16 s, .slice a n c] 43)
  replace KZ := KZ.alloc (.cells #[.int .i16 s, .slice a n c] 43)
  have KF := kp_new1 w #[.int .i16 s, .slice a n c] 43 (g := w.heap.size) (by simp)
  have HZ := Lib.hid (show (w.alloc (.cells #[.int .i16 s, .slice a n c] 43)).heap.size = w.heap.size + 1 by simp)
  go_enter Try.func104, Try.ntmps104
  go_wp2
  generalize (w.alloc (.cells #[.int .i16 s, .slice a n c] 43)) = W at KB KZ KF HZ ⊢
  have hbs := KB.here.size
  go_loopw [8, 9, 15] (fun v t i w' => Below W.heap.size W w' ∧ ∃ k : Nat, k ≤ l ∧ i = .int .i64 k ∧ t = .int .i64 (pkE Z gap k) ∧ (∀ j, j ≤ k → 0 < j → pkE Z gap j ≤ s) ∧ OwnS w' W.heap.size v (pkL Z gap k)) (fun _ _ i _ => l - (intOf i).toNat)
  case atStart => exact ⟨(Below.refl _ _).alloc (Nat.le_refl _) _, 0, by omega, rfl, by rw [pkE_zero], fun j hj h0 => by omega, by rw [pkL_zero, ← HZ.out]; exact OwnL.nil W W.heap.size (Nat.le_refl _)⟩
  case round =>
    obtain ⟨hb, k, hk, rfl, rfl, hall, hown⟩ := hrel
    have HOWN := Lib.hid hown; have HALL := Lib.hid hall; clear hown hall
    replace KB := KB.on hb
    replace KZ := KZ.on hb
    replace KF := KF.on hb
    by_cases hlt : k < l
    · have hk' : (k : Int) < l := by omega
      have hx := IntAt.get KZ.here (show 0 < l by omega)
      obtain ⟨g, off, rfl, hg2, hc⟩ := hx
      have c0 := hc k hlt
      have f0 := row_cell 0 KF.here
      clear hc
      have hzk := HZZ.out k hlt
      have hbd := pk_bound hg k fun i hi => HZZ.out i (by omega)
      have hlen := pkL_len Z gap k
      have HLEN := Lib.hid hlen; clear hlen
      have HS := Lib.hid (pkL_succ Z gap k)
      have HE := Lib.hid (pkE_succ Z gap k)
      obtain ⟨y, hy⟩ : ∃ y, pkA Z gap k = y := ⟨_, rfl⟩
      rw [hy] at HS HE hbd
      obtain ⟨x, hx⟩ : ∃ x, pkE Z gap k = x := ⟨_, rfl⟩
      rw [hx] at hbd ⊢
      obtain ⟨z, hz⟩ : ∃ z, Z k = z := ⟨_, rfl⟩
      rw [hz] at HS HE hzk c0
      have hsz := hb.size
      by_cases h0 : 0 < k
      · have hya := pkA_pos Z gap h0
        rw [hy, hx] at hya
        have HY := Lib.hid hy; have HX := Lib.hid hx; have HZZ2 := Lib.hid hz; clear hy hx hz
        subst hya
        by_cases hf : x + gap + z ≤ s
        · go_wp2_with (at_builtin; refine append_sections rfl _ _ rfl W.heap.size _ (pkL Z gap k) rfl (OwnS.alloc HOWN.out _) ⟨wr.heap.size, 0, none⟩ 1 1 [(x + gap, z)] rfl rfl (one_cells (heap_alloc_new wr _)) (by rw [HLEN.out]; omega) (by simp; omega) ?_; intro v2 w2 hown2 hb2; have HO2 := Lib.hid hown2; have HB2 := Lib.hid hb2; clear hown2 hb2)
          go_roundw
          case rel => exact ⟨(hb.alloc hsz _).trans HB2.out, k + 1, by omega, by go_num, by rw [HE.out], fun j hj h0 => if e : j = k + 1 then by rw [e, HE.out]; exact hf else HALL.out j (by omega) h0, by rw [HS.out]; exact HO2.out⟩
          case measure => simp [intOf]; omega
        · have hno := Lib.hid (show ¬ pkE Z gap l ≤ s by
            have h1 := pk_mono hg HZZ.out (k + 1) (by omega)
            rw [HE.out] at h1
            omega)
          have hr := Lib.hid (pkd_no hno.out)
          go_wp2
          go_ret2
          exact ⟨_, by rw [hr.out]; rfl, KB.here, by rw [hr.out]; exact OwnL.none0 _ _⟩
      · have hya := pkA_eq Z gap h0
        rw [hy, hx] at hya
        have h0' : ¬ (0 : Int) < k := by omega
        have HY := Lib.hid hy; have HX := Lib.hid hx; have HZZ2 := Lib.hid hz; clear hy hx hz
        subst hya
        by_cases hf : y + z ≤ s
        · go_wp2_with (at_builtin; refine append_sections rfl _ _ rfl W.heap.size _ (pkL Z gap k) rfl (OwnS.alloc HOWN.out _) ⟨wr.heap.size, 0, none⟩ 1 1 [(y, z)] rfl rfl (one_cells (heap_alloc_new wr _)) (by rw [HLEN.out]; omega) (by simp; omega) ?_; intro v2 w2 hown2 hb2; have HO2 := Lib.hid hown2; have HB2 := Lib.hid hb2; clear hown2 hb2)
          go_roundw
          case rel => exact ⟨(hb.alloc hsz _).trans HB2.out, k + 1, by omega, by go_num, by rw [HE.out], fun j hj h0 => if e : j = k + 1 then by rw [e, HE.out]; exact hf else HALL.out j (by omega) h0, by rw [HS.out]; exact HO2.out⟩
          case measure => simp [intOf]; omega
        · have hno := Lib.hid (show ¬ pkE Z gap l ≤ s by
            have h1 := pk_mono hg HZZ.out (k + 1) (by omega)
            rw [HE.out] at h1
            omega)
          have hr := Lib.hid (pkd_no hno.out)
          go_wp2
          go_ret2
          exact ⟨_, by rw [hr.out]; rfl, KB.here, by rw [hr.out]; exact OwnL.none0 _ _⟩
    · have hkl : k = l := by omega
      subst hkl
      have hfit : pkE Z gap k ≤ s := by
        by_cases h0 : 0 < k
        · exact HALL.out k (Nat.le_refl _) h0
        · rw [show k = 0 by omega, pkE_zero]; exact hs.1
      have hr := Lib.hid (pkd_fits hfit); clear hfit
      go_wp2
      go_ret2
      exact ⟨_, by rw [hr.out]; rfl, KB.here, by rw [hr.out]; exact HOWN.out.mono hbs⟩
set_option maxRecDepth 100000 in
set_option maxHeartbeats 1000000 in
theorem implPackSections_any (s : Int) (a : Option Addr) (n c : Nat) (P R : Nat → Int) (q : Option Addr) (l x0 : Nat) (Z : Nat → Int) (gap : Int) (w : World) (hs : -32768 ≤ s ∧ s ≤ 32767) (hn : n ≤ 1048576) (hP : I8 P) (hR : I8 R) (hh : HamAt w a n P R) (hl : l ≤ 1048576) (hZ : I64 Z) (hz : IntAt w q l Z) (hgap : -9223372036854775808 ≤ gap ∧ gap ≤ 9223372036854775807) :
    Calls Try.prog 41 #[.agg #[.int .i16 s, .slice a n c], .slice q l x0, .int .i64 gap] w fun e w' => ∃ v, e = .returned (.tuple #[v, .int .i64 (pkC s n P R l Z gap)]) ∧ Below w.heap.size w w' ∧ OwnS w' w.heap.size v (pkV s n P R l Z gap) := by
  have HP := Lib.hid hP; have HR := Lib.hid hR; have HZI := Lib.hid hZ; clear hP hR hZ
  have KB := Kp.base w; have KH := kp_ham hh; have KZ := kp_int hz; clear hh hz
  replace KB := KB.alloc (.cells #[.int .i16 s, .slice a n c] 43)
  replace KH := KH.alloc (.cells #[.int .i16 s, .slice a n c] 43)
  replace KZ := KZ.alloc (.cells #[.int .i16 s, .slice a n c] 43)
  have KF := kp_new1 w #[.int .i16 s, .slice a n c] 43 (g := w.heap.size) (by simp)
  have HZ := Lib.hid (show (w.alloc (.cells #[.int .i16 s, .slice a n c] 43)).heap.size = w.heap.size + 1 by simp)
  go_enter Try.func41, Try.ntmps41
  go_wp2_with fail
  generalize (w.alloc (.cells #[.int .i16 s, .slice a n c] 43)) = W at KB KH KZ KF HZ ⊢
  refine (containsFuncPk q l x0 Z W (by omega) KZ.here).mono ?_
  rintro e w1 ⟨rfl, hb1⟩
  replace KB := KB.on hb1
  replace KH := KH.on hb1
  replace KZ := KZ.on hb1
  replace KF := KF.on hb1
  clear hb1 HZ
  obtain ⟨al, hal⟩ : ∃ b, allIn Z l 1 96 = b := ⟨_, rfl⟩
  rw [hal]
  have HAL := Lib.hid hal; clear hal
  go_wp2
  have hS := below_drew w1
  refine wp_region_S (fun V => Below w1.heap.size w1 V) (by kernel_rfl) hS ?_
  refine take_val 0 (.agg #[.int .i16 s, .slice a n c]) rfl (by kernel_rfl) (by kernel_rfl) (by kernel_rfl) (fun _ _ _ h => h) rfl (fun V hV => ex_load_iframe _ rfl w.heap.size rfl _ s a n c (KF.at hV)) hS ?_
  simp only [List.getElem_toArray, List.getElem_cons_zero, List.getElem_cons_succ, Act.put, List.setIfInBounds_toArray, List.set_cons_zero, List.set_cons_succ]
  refine take_val 1 (.slice q l x0) rfl (by kernel_rfl) (by kernel_rfl) (by kernel_rfl) (fun _ _ _ h => h) rfl (fun V hV => by simp [go_sem]) hS ?_
  simp only [List.getElem_toArray, List.getElem_cons_zero, List.getElem_cons_succ, Act.put, List.setIfInBounds_toArray, List.set_cons_zero, List.set_cons_succ]
  refine take_val 3 (.int .i64 gap) rfl (by kernel_rfl) (by kernel_rfl) (by kernel_rfl) (fun _ _ _ h => h) rfl (fun V hV => by simp [go_sem]) hS ?_
  simp only [List.getElem_toArray, List.getElem_cons_zero, List.getElem_cons_succ, Act.put, List.setIfInBounds_toArray, List.set_cons_zero, List.set_cons_succ]
  refine take_val 5 (.bool (!al)) rfl (by kernel_rfl) (by kernel_rfl) (by kernel_rfl) (fun _ _ _ h => h) rfl (fun V hV => by simp [go_sem]) hS ?_
  simp only [List.getElem_toArray, List.getElem_cons_zero, List.getElem_cons_succ, Act.put, List.setIfInBounds_toArray, List.set_cons_zero, List.set_cons_succ]
  refine take_val 6 (.bool al) rfl (by kernel_rfl) (by kernel_rfl) (by kernel_rfl) (fun _ _ _ h => h) rfl (fun V hV => by simp [go_sem]) hS ?_
  simp only [List.getElem_toArray, List.getElem_cons_zero, List.getElem_cons_succ, Act.put, List.setIfInBounds_toArray, List.set_cons_zero, List.set_cons_succ]
  refine step_call 2 102 #[.slice q l x0] (by kernel_rfl) rfl rfl (by simp [go_sem]) ?_
  refine (sizeInt64_any q l x0 _ (by omega)).mono ?_
  rintro e w2 ⟨rfl, rfl⟩
  refine ⟨_, rfl, hS, ?_⟩
  simp only [List.getElem_toArray, List.getElem_cons_zero, List.getElem_cons_succ, Act.put, List.setIfInBounds_toArray, List.set_cons_zero, List.set_cons_succ]
  refine step_call 4 101 #[.agg #[.int .i16 s, .slice a n c], .int .i64 (l : Int), .int .i64 gap] (by kernel_rfl) rfl rfl (by simp [go_sem]) ?_
  refine (packCode_any s a n c P R (l : Int) gap _ hn hs HP.out HR.out (KH.at hS)).mono ?_
  rintro e w2 ⟨rfl, hb2⟩
  have hS2 := hS.trans hb2
  refine ⟨_, rfl, hS2, ?_⟩
  simp only [List.getElem_toArray, List.getElem_cons_zero, List.getElem_cons_succ, Act.put, List.setIfInBounds_toArray, List.set_cons_zero, List.set_cons_succ]
  refine step_call 7 103 #[.bool al, .int .i64 2] (by kernel_rfl) rfl rfl (by simp [go_sem]) ?_
  refine (unless_any _ _ _).mono ?_
  rintro e w3 ⟨rfl, rfl⟩
  refine ⟨_, rfl, hS2, ?_⟩
  simp only [List.getElem_toArray, List.getElem_cons_zero, List.getElem_cons_succ, Act.put, List.setIfInBounds_toArray, List.set_cons_zero, List.set_cons_succ]
  have hF := pk_first (vFrame s n P R) l Z gap
  rw [HAL.out] at hF
  obtain ⟨p1, hp1⟩ : ∃ p, pcode (vFrame s n P R) (decide ((l : Int) ≤ 12) && inB gap 0 96) = p := ⟨_, rfl⟩
  rw [hp1] at hF ⊢
  have HF := Lib.hid hF; clear hF hp1
  have hS3 := hS2.alloc hS2.size (.cells #[.int .i64 p1, .int .i64 (unl al 2)] 2)
  refine step_val 8 (.slice (some ⟨w2.heap.size, 0, none⟩) 2 2) (w2.alloc (.cells #[.int .i64 p1, .int .i64 (unl al 2)] 2)) (by kernel_rfl) rfl rfl (by simp [go_sem]) hS3 ?_
  simp only [List.getElem_toArray, List.getElem_cons_zero, List.getElem_cons_succ, Act.put, List.setIfInBounds_toArray, List.set_cons_zero, List.set_cons_succ]
  refine step_call 9 100 #[.slice (some ⟨w2.heap.size, 0, none⟩) 2 2] (by kernel_rfl) rfl rfl (by simp [go_sem]) ?_
  refine (firstOf_any [p1, unl al 2] w2.heap.size 2 _ (by simp) (heap_alloc_new w2 _)).mono ?_
  rintro e w3 ⟨rfl, rfl⟩
  rw [HF.out]
  refine ⟨_, rfl, hS3, ?_⟩
  simp only [List.getElem_toArray, List.getElem_cons_zero, List.getElem_cons_succ, Act.put, List.setIfInBounds_toArray, List.set_cons_zero, List.set_cons_succ]
  refine take_val 10 (.int .i64 (pcode (vFrame s n P R) (pkOk l Z gap))) rfl (by kernel_rfl) (by kernel_rfl) (by kernel_rfl) (fun _ _ _ h => h) rfl (fun V hV => by simp [go_sem]) hS3 ?_
  simp only [List.getElem_toArray, List.getElem_cons_zero, List.getElem_cons_succ, Act.put, List.setIfInBounds_toArray, List.set_cons_zero, List.set_cons_succ]
  refine wpAnyH_done (by kernel_rfl) ?_ _
  replace KB := KB.on hS3
  replace KZ := KZ.on hS3
  replace KF := KF.on hS3
  clear hS hb2 hS2 hS3 HF HAL
  have hbs := KB.here.size
  cases hv : vFrame s n P R
  · rw [pcode_f]
    have hr := Lib.hid (pk_f (l := l) (Z := Z) (gap := gap) hv)
    clear hv
    go_wp2
    go_ret2
    exact ⟨_, by rw [hr.out.2]; rfl, KB.here, by rw [hr.out.1]; exact OwnL.none0 _ _⟩
  · cases ho : pkOk l Z gap
    · rw [pcode_tf]
      have hr := Lib.hid (pk_r hv ho)
      clear hv ho
      go_wp2
      go_ret2
      exact ⟨_, by rw [hr.out.2]; rfl, KB.here, by rw [hr.out.1]; exact OwnL.none0 _ _⟩
    · rw [pcode_tt]
      have hr := Lib.hid (pk_y hv ho)
      have hs2 := (vFrame_iff.1 hv).1
      obtain ⟨hl2, hg2, hz2⟩ := pkOk_iff.1 ho
      have HZ2 := Lib.hid hz2; clear hz2 hv ho
      go_wp2_with (first | (with_reducible refine load_iframe rfl _ rfl w.heap.size rfl _ s a n c KF.here ?_) | (go_at_call 104; refine (packed_any s a n c q l x0 Z gap _ ⟨by omega, by omega⟩ hl2 hg2 HZ2.out KZ.here).mono ?_; rintro e w4 ⟨v, rfl, hb4, hown⟩; have HO := Lib.hid hown; clear hown))
      go_ret2
      exact ⟨_, by rw [hr.out.2]; rfl, KB.at hb4, by rw [hr.out.1]; exact HO.out.mono hbs⟩
set_option maxRecDepth 100000 in
set_option maxHeartbeats 1000000 in
theorem specPackSections_any (s : Int) (a : Option Addr) (n c : Nat) (P R : Nat → Int) (q : Option Addr) (l x0 : Nat) (Z : Nat → Int) (gap : Int) (w : World) (hs : -32768 ≤ s ∧ s ≤ 32767) (hn : n ≤ 1048576) (hP : I8 P) (hR : I8 R) (hh : HamAt w a n P R) (hl : l ≤ 1048576) (hZ : I64 Z) (hz : IntAt w q l Z) (hgap : -9223372036854775808 ≤ gap ∧ gap ≤ 9223372036854775807) :
    Calls Try.prog 39 #[.agg #[.int .i16 s, .slice a n c], .slice q l x0, .int .i64 gap] w fun e w' => ∃ v, e = .returned (.tuple #[v, .int .i64 (pkC s n P R l Z gap)]) ∧ Below w.heap.size w w' ∧ OwnS w' w.heap.size v (pkV s n P R l Z gap) := by
  have HP := Lib.hid hP; have HR := Lib.hid hR; have HZI := Lib.hid hZ; clear hP hR hZ
  have KB := Kp.base w; have KH := kp_ham hh; have KZ := kp_int hz; clear hh hz
  replace KB := KB.alloc (.cells #[.int .i16 s, .slice a n c] 43)
  replace KH := KH.alloc (.cells #[.int .i16 s, .slice a n c] 43)
  replace KZ := KZ.alloc (.cells #[.int .i16 s, .slice a n c] 43)
  have KF := kp_new1 w #[.int .i16 s, .slice a n c] 43 (g := w.heap.size) (by simp)
  have HZ := Lib.hid (show (w.alloc (.cells #[.int .i16 s, .slice a n c] 43)).heap.size = w.heap.size + 1 by simp)
  go_enter Try.func39, Try.ntmps39
  go_wp2_with fail
  generalize (w.alloc (.cells #[.int .i16 s, .slice a n c] 43)) = W at KB KH KZ KF HZ ⊢
  clear HZ
  refine (l02Frame_any w.heap.size s a n c P R W (by omega) hs HP.out HR.out (row_lt KF.here) (row_cell 0 KF.here) (row_cell 1 KF.here) KH.here).mono ?_
  rintro e w1 ⟨rfl, hb1⟩
  replace KB := KB.on hb1
  replace KZ := KZ.on hb1
  replace KF := KF.on hb1
  clear hb1
  have hbs := KB.here.size
  have hnil := OwnL.nil (T := 133) (sz := 2) (enc := encS) w1 w.heap.size hbs
  have HNIL := Lib.hid hnil; clear hnil
  have hba := (KB.alloc (.cells #[] 133)).here
  cases hv : vFrame s n P R
  · have hr := Lib.hid (pk_f (l := l) (Z := Z) (gap := gap) hv)
    clear hv
    go_wp2
    go_ret2
    exact ⟨_, by rw [hr.out.2]; rfl, hba, by rw [hr.out.1]; exact HNIL.out⟩
  · have HV := Lib.hid hv; clear hv
    by_cases hl12 : l ≤ 12
    · have hl' : (l : Int) ≤ 12 := by omega
      cases hg : inB gap 0 96
      · have hno : pkOk l Z gap = false := by rw [pkOk_def, hg, Bool.and_false, Bool.false_and]
        have hr := Lib.hid (pk_r HV.out hno); clear hno
        go_wp2_with (go_at_call 95; refine (l04Gap_any _ _).mono ?_; rw [hg]; rintro e w2 ⟨rfl, rfl⟩)
        go_loop [8, 9] (fun b i => b = .bool false ∧ i = .int .i64 0) (fun _ _ => 0)
        case atStart => exact ⟨rfl, rfl⟩
        case round =>
          obtain ⟨rfl, rfl⟩ := hrel
          by_cases hl0 : 0 < l
          · have hl0' : (0 : Int) < l := by omega
            go_wp2
            go_ret2
            exact ⟨_, by rw [hr.out.2]; rfl, hba, by rw [hr.out.1]; exact HNIL.out⟩
          · have hl0' : ¬ (0 : Int) < l := by omega
            go_wp2
            go_ret2
            exact ⟨_, by rw [hr.out.2]; rfl, hba, by rw [hr.out.1]; exact HNIL.out⟩
      · have HGB := Lib.hid hg
        go_wp2_with (go_at_call 95; refine (l04Gap_any _ _).mono ?_; rw [hg]; rintro e w2 ⟨rfl, rfl⟩)
        clear hg
        go_loop [8, 9] (fun b i => ∃ (k : Nat) (ok : Bool), k ≤ l ∧ i = .int .i64 k ∧ b = .bool ok ∧ (ok = true → ∀ j, j < k → 1 ≤ Z j ∧ Z j ≤ 96) ∧ (ok = false → allIn Z l 1 96 = false)) (fun _ i => l - (intOf i).toNat)
        case atStart => exact ⟨0, true, by omega, rfl, rfl, fun _ j hj => absurd hj (by omega), fun h => by cases h⟩
        case round =>
          obtain ⟨k, ok, hk, rfl, rfl, h1, h2⟩ := hrel
          cases ok
          · have hal := h2 rfl
            clear h1 h2
            have hno : pkOk l Z gap = false := by rw [pkOk_def, hal, Bool.and_false]
            have hr := Lib.hid (pk_r HV.out hno); clear hno hal
            by_cases hlt : k < l
            · have hk' : (k : Int) < l := by omega
              go_wp2
              go_ret2
              exact ⟨_, by rw [hr.out.2]; rfl, hba, by rw [hr.out.1]; exact HNIL.out⟩
            · have hk' : ¬ (k : Int) < l := by omega
              go_wp2
              go_ret2
              exact ⟨_, by rw [hr.out.2]; rfl, hba, by rw [hr.out.1]; exact HNIL.out⟩
          · have H1 := Lib.hid (h1 rfl); clear h1 h2
            by_cases hlt : k < l
            · have hk' : (k : Int) < l := by omega
              have hx := IntAt.get KZ.here (show 0 < l by omega)
              obtain ⟨g, off, rfl, hg2, hc⟩ := hx
              have c0 := hc k hlt
              clear hc
              have hzi := HZI.out k
              cases hin : inB (Z k) 1 96
              · have hbad := allIn_bad (Z := Z) (n := l) k hlt (fun h => by rw [inB_true h] at hin; cases hin)
                have HBAD := Lib.hid hbad; clear hbad
                go_wp2_with (go_at_call 96; refine (l00In_any _ _ _ _).mono ?_; rw [hin]; rintro e w2 ⟨rfl, rfl⟩)
                go_round
                case rel => exact ⟨k + 1, false, by omega, by go_num, rfl, (fun h => by cases h), fun _ => HBAD.out⟩
                case measure => simp [intOf]; omega
              · have HIN := Lib.hid (inB_iff.1 hin)
                go_wp2_with (go_at_call 96; refine (l00In_any _ _ _ _).mono ?_; rw [hin]; rintro e w2 ⟨rfl, rfl⟩)
                go_round
                case rel => exact ⟨k + 1, true, by omega, by go_num, rfl, fun _ j hj => if e : j = k then by subst e; exact HIN.out else H1.out j (by omega), fun h => by cases h⟩
                case measure => simp [intOf]; omega
            · have hkl : k = l := by omega
              subst hkl
              have hgap2 := inB_iff.1 HGB.out
              have hyes : pkOk k Z gap = true := pkOk_iff.2 ⟨hl12, hgap2, H1.out⟩
              have hr := Lib.hid (pk_y HV.out hyes); clear hyes
              have hk' : ¬ (k : Int) < k := by omega
              go_wp2
              have hs2 := (vFrame_iff.1 HV.out).1
              go_loopw [10, 11, 12] (fun v t i w' => Below w1.heap.size w1 w' ∧ ∃ j : Nat, j ≤ k ∧ i = .int .i64 j ∧ t = .int .i64 (pkE Z gap j) ∧ OwnS w' w1.heap.size v (pkL Z gap j)) (fun _ _ i _ => k - (intOf i).toNat)
              case atStart => exact ⟨(Below.refl _ _).alloc (Nat.le_refl _) _, 0, by omega, rfl, by rw [pkE_zero], by rw [pkL_zero]; exact OwnL.nil w1 w1.heap.size (Nat.le_refl _)⟩
              case round =>
                obtain ⟨hb, j, hj, rfl, rfl, hown⟩ := hrel
                have HOWN := Lib.hid hown; clear hown
                have hbd := pk_bound hgap2 j fun i hi => H1.out i (by omega)
                have f0 := row_cell 0 (KF.at hb)
                by_cases hlt2 : j < k
                · have hj' : (j : Int) < k := by omega
                  have hx := IntAt.get (KZ.at hb) (show 0 < k by omega)
                  obtain ⟨g, off, rfl, hg2, hc⟩ := hx
                  have c0 := hc j hlt2
                  clear hc
                  have hzk := H1.out j hlt2
                  have HLEN := Lib.hid (pkL_len Z gap j)
                  have HS := Lib.hid (pkL_succ Z gap j)
                  have HE := Lib.hid (pkE_succ Z gap j)
                  obtain ⟨y, hy⟩ : ∃ y, pkA Z gap j = y := ⟨_, rfl⟩
                  rw [hy] at HS HE hbd
                  obtain ⟨x, hx⟩ : ∃ x, pkE Z gap j = x := ⟨_, rfl⟩
                  rw [hx] at hbd ⊢
                  obtain ⟨z, hz⟩ : ∃ z, Z j = z := ⟨_, rfl⟩
                  rw [hz] at HS HE hzk c0
                  have hsz := hb.size
                  have hb1 := hb.alloc hsz (.cells #[.int .i16 y, .int .i16 z] 133)
                  by_cases h0 : 0 < j
                  · have hya := pkA_pos Z gap h0
                    rw [hy, hx] at hya
                    have h0' : (0 : Int) < j := by omega
                    have HY := Lib.hid hy; have HX := Lib.hid hx; have HZZ2 := Lib.hid hz; clear hy hx hz
                    subst hya
                    go_wp2_with (at_builtin; refine append_sections rfl _ _ rfl w1.heap.size _ (pkL Z gap j) rfl (OwnS.alloc HOWN.out _) ⟨wr.heap.size, 0, none⟩ 1 1 [(x + gap, z)] rfl rfl (one_cells (heap_alloc_new wr _)) (by rw [HLEN.out]; omega) (by simp; omega) ?_; intro v2 w2 hown2 hb2; have HO2 := Lib.hid hown2; have hb4 := hb1.trans hb2; clear hown2 hb2; have hx2 := IntAt.get (KZ.at hb4) (show 0 < k by omega); obtain ⟨g2, off2, e2, hg3, hc3⟩ := hx2; simp only [Option.some.injEq, Addr.mk.injEq, and_true] at e2; obtain ⟨rfl, rfl⟩ := e2; have c1 := hc3 j hlt2; rw [HZZ2.out] at c1; clear hc3)
                    go_roundw
                    case rel => exact ⟨hb4, j + 1, by omega, by go_num, by rw [HE.out], by rw [HS.out]; exact HO2.out⟩
                    case measure => simp [intOf]; omega
                  · have hya := pkA_eq Z gap h0
                    rw [hy, hx] at hya
                    have h0' : ¬ (0 : Int) < j := by omega
                    have HY := Lib.hid hy; have HX := Lib.hid hx; have HZZ2 := Lib.hid hz; clear hy hx hz
                    subst hya
                    go_wp2_with (at_builtin; refine append_sections rfl _ _ rfl w1.heap.size _ (pkL Z gap j) rfl (OwnS.alloc HOWN.out _) ⟨wr.heap.size, 0, none⟩ 1 1 [(y, z)] rfl rfl (one_cells (heap_alloc_new wr _)) (by rw [HLEN.out]; omega) (by simp; omega) ?_; intro v2 w2 hown2 hb2; have HO2 := Lib.hid hown2; have hb4 := hb1.trans hb2; clear hown2 hb2; have hx2 := IntAt.get (KZ.at hb4) (show 0 < k by omega); obtain ⟨g2, off2, e2, hg3, hc3⟩ := hx2; simp only [Option.some.injEq, Addr.mk.injEq, and_true] at e2; obtain ⟨rfl, rfl⟩ := e2; have c1 := hc3 j hlt2; rw [HZZ2.out] at c1; clear hc3)
                    go_roundw
                    case rel => exact ⟨hb4, j + 1, by omega, by go_num, by rw [HE.out], by rw [HS.out]; exact HO2.out⟩
                    case measure => simp [intOf]; omega
                · have hjk : j = k := by omega
                  subst hjk
                  have hlj : ¬ (j : Int) < j := by omega
                  obtain ⟨x, hx⟩ : ∃ x, pkE Z gap j = x := ⟨_, rfl⟩
                  rw [hx] at hbd ⊢
                  by_cases hf : x ≤ s
                  · have hp := Lib.hid (pkd_fits (s := s) (l := j) (Z := Z) (gap := gap) (by rw [hx]; exact hf))
                    clear hx
                    go_wp2
                    go_ret2
                    exact ⟨_, by rw [hr.out.2, hp.out]; rfl, KB.at hb, by rw [hr.out.1, hp.out]; exact HOWN.out.mono hbs⟩
                  · have hp := Lib.hid (pkd_no (s := s) (l := j) (Z := Z) (gap := gap) (by rw [hx]; exact hf))
                    have hb1 := KB.at (hb.alloc hb.size (.cells #[] 133))
                    have hnl := OwnL.nil (T := 133) (sz := 2) (enc := encS) wr w.heap.size (KB.at hb).size
                    have HNL := Lib.hid hnl; clear hnl
                    clear hx
                    go_wp2
                    go_ret2
                    exact ⟨_, by rw [hr.out.2, hp.out]; rfl, hb1, by rw [hr.out.1, hp.out]; exact HNL.out⟩
    · have hl' : ¬ (l : Int) ≤ 12 := by omega
      have hno : pkOk l Z gap = false := by
        cases h : pkOk l Z gap
        · rfl
        · exact absurd (pkOk_iff.1 h).1 hl12
      have hr := Lib.hid (pk_r HV.out hno); clear hno
      go_wp2
      go_loop [8, 9] (fun b i => b = .bool false ∧ i = .int .i64 0) (fun _ _ => 0)
      case atStart => exact ⟨rfl, rfl⟩
      case round =>
        obtain ⟨rfl, rfl⟩ := hrel
        have hl0' : (0 : Int) < l := by omega
        go_wp2
        go_ret2
        exact ⟨_, by rw [hr.out.2]; rfl, hba, by rw [hr.out.1]; exact HNIL.out⟩
end Go.Proofs.Ytmmneedmhmppoaa
