/- SpareTracks, by the reference and by the program. No conditions. -/
import Derived.Test.YtmmneedmhmppoaaOwnI
import Derived.Test.YtmmneedmhmppoaaPins
import Derived.Test.YtmmneedmhmppoaaLs
import Derived.Test.YtmmneedmhmppoaaLc
import Derived.Outline
namespace Go.Proofs.Ytmmneedmhmppoaa
open Go.RowKit
set_option linter.unusedVariables false
set_option linter.unusedSimpArgs false

/-- how many of the first j places are pins of the track i -/
def btN (D : Nat → Nat) (n : Nat) : Nat → Nat → Int
  | 0, _ => 0
  | j + 1, i => if hasPin D (j / n) (j % n) = true ∧ j % n = i then btN D n j i + 1 else btN D n j i
theorem btN_zero (D : Nat → Nat) (n i : Nat) : btN D n 0 i = 0 := rfl
theorem btN_yes {D : Nat → Nat} {n k t : Nat} (ht : t < n) (h : hasPin D k t = true) : btN D n (k * n + t + 1) t = btN D n (k * n + t) t + 1 := by
  have e : btN D n (k * n + t + 1) t = if hasPin D ((k * n + t) / n) ((k * n + t) % n) = true ∧ (k * n + t) % n = t then btN D n (k * n + t) t + 1 else btN D n (k * n + t) t := rfl
  rw [e, (place_div ht).1, (place_div ht).2, if_pos ⟨h, rfl⟩]
theorem btN_skip {D : Nat → Nat} {n k t i : Nat} (ht : t < n) (h : hasPin D k t = false ∨ i ≠ t) : btN D n (k * n + t + 1) i = btN D n (k * n + t) i := by
  have e : btN D n (k * n + t + 1) i = if hasPin D ((k * n + t) / n) ((k * n + t) % n) = true ∧ (k * n + t) % n = i then btN D n (k * n + t) i + 1 else btN D n (k * n + t) i := rfl
  rw [e, (place_div ht).1, (place_div ht).2, if_neg]
  rintro ⟨h1, h2⟩
  rcases h with h | h
  · rw [h] at h1; cases h1
  · exact h h2.symm
theorem btN_bound (D : Nat → Nat) (n j i : Nat) : 0 ≤ btN D n j i ∧ btN D n j i ≤ j := by
  induction j with
  | zero => rw [btN_zero]; omega
  | succ j ih =>
    have e : btN D n (j + 1) i = if hasPin D (j / n) (j % n) = true ∧ j % n = i then btN D n j i + 1 else btN D n j i := rfl
    rw [e]
    split <;> omega
attribute [irreducible] btN
/-- a track has a pin -/
def usesT (D : Nat → Nat) (t : Nat) : Bool := anyB (fun k => hasPin D k t) 96
theorem usesT_iff {D : Nat → Nat} {t : Nat} : usesT D t = true ↔ ∃ k, k < 96 ∧ hasPin D k t = true := anyB_iff
theorem btN_pos {D : Nat → Nat} {n : Nat} {i : Nat} (hi : i < n) : ∀ s, 0 < btN D n (s * n) i ↔ ∃ k, k < s ∧ hasPin D k i = true := by
  have row : ∀ k t, t ≤ n → btN D n (k * n + t) i = btN D n (k * n) i + (if i < t ∧ hasPin D k i = true then 1 else 0) := by
    intro k t
    induction t with
    | zero => intro _; simp
    | succ t ih =>
      intro ht
      rw [← Nat.add_assoc]
      by_cases e : i = t
      · subst e
        cases h : hasPin D k i
        · rw [btN_skip (by omega) (.inl h), ih (by omega), if_neg (by simp [h]), if_neg (by simp)]
        · rw [btN_yes (by omega) h, ih (by omega), if_neg (by omega), if_pos ⟨by omega, rfl⟩]; omega
      · rw [btN_skip (by omega) (.inr e), ih (by omega)]
        by_cases h2 : i < t
        · by_cases h3 : hasPin D k i = true
          · rw [if_pos ⟨h2, h3⟩, if_pos ⟨by omega, h3⟩]
          · rw [if_neg (fun h => h3 h.2), if_neg (fun h => h3 h.2)]
        · rw [if_neg (fun h => h2 h.1), if_neg (fun h => by omega)]
  intro s
  induction s with
  | zero => rw [Nat.zero_mul, btN_zero]; constructor
            · intro h; omega
            · rintro ⟨k, hk, _⟩; omega
  | succ s ih =>
    rw [Nat.add_mul, Nat.one_mul, row s n (Nat.le_refl _)]
    have hb := btN_bound D n (s * n) i
    constructor
    · intro h
      by_cases h2 : hasPin D s i = true
      · exact ⟨s, by omega, h2⟩
      · rw [if_neg (fun h => h2 h.2)] at h
        obtain ⟨k, hk, hp⟩ := ih.1 (by omega)
        exact ⟨k, by omega, hp⟩
    · rintro ⟨k, hk, hp⟩
      by_cases e : k = s
      · subst e; rw [if_pos ⟨hi, hp⟩]; omega
      · have := ih.2 ⟨k, by omega, hp⟩
        split <;> omega
/-- the tracks without pins, of the first k -/
def spL (D : Nat → Nat) : Nat → List Int
  | 0 => []
  | k + 1 => if usesT D k then spL D k else spL D k ++ [(k : Int)]
theorem spL_zero (D : Nat → Nat) : spL D 0 = [] := rfl
theorem spL_used {D : Nat → Nat} {k : Nat} (h : usesT D k = true) : spL D (k + 1) = spL D k := by
  show (if usesT D k then spL D k else spL D k ++ [(k : Int)]) = _; rw [h]; rfl
theorem spL_spare {D : Nat → Nat} {k : Nat} (h : usesT D k = false) : spL D (k + 1) = spL D k ++ [(k : Int)] := by
  show (if usesT D k then spL D k else spL D k ++ [(k : Int)]) = _; rw [h]; rfl
theorem spL_len (D : Nat → Nat) (k : Nat) : (spL D k).length ≤ k := by
  induction k with
  | zero => simp [spL]
  | succ k ih =>
    cases h : usesT D k
    · rw [spL_spare h]; simp; omega
    · rw [spL_used h]; omega
attribute [irreducible] usesT spL
noncomputable def stV' (s : Int) (n : Nat) (P R : Nat → Int) (D : Nat → Nat) : List Int := if okAll s n P R 1 (fun _ => D) then spL D n else []
theorem stV'_yes {s : Int} {n : Nat} {P R : Nat → Int} {D : Nat → Nat} (h : okAll s n P R 1 (fun _ => D) = true) : stV' s n P R D = spL D n := by unfold stV'; rw [h]; rfl
theorem stV'_no {s : Int} {n : Nat} {P R : Nat → Int} {D : Nat → Nat} (h : okAll s n P R 1 (fun _ => D) = false) : stV' s n P R D = [] := by unfold stV'; rw [h]; rfl
theorem stV'_len {s : Int} {n : Nat} {P R : Nat → Int} {D : Nat → Nat} : (stV' s n P R D).length ≤ 1000000 := by
  cases h : okAll s n P R 1 (fun _ => D)
  · rw [stV'_no h]; simp
  · rw [stV'_yes h]
    have h1 := spL_len D n
    have h2 := (vFrame_iff.1 (okAll_iff.1 h).1).2.1
    omega
attribute [irreducible] stV'
set_option maxRecDepth 100000 in
theorem byTrack1_any (go g : Nat) (n : Nat) (f : Nat → Int) (k t : Nat) (W : World) (hk : k < 96) (ht : t < n) (hn : n ≤ 24) (hf : 0 ≤ f t ∧ f t ≤ 10000) (hgo : W.heap[go]? = some (.cells #[.slice (some ⟨g, 0, none⟩) n n] 38 (0, 0))) (hB : BlkAt W 2 g n (fun i => .int .i64 (f i))) :
    Calls Try.prog 136 #[.int .i64 (k : Int), .int .i64 (t : Int), .pointer (some ⟨go, 0, none⟩)] W fun e W' => e = .returned (.tuple #[]) ∧ W' = W.setCell ⟨g, t, none⟩ (.int .i64 (f t + 1)) := by
  have c0 := row_cell 0 hgo
  have c1 := hB.cell t ht
  have f1 := hB.frozen t
  have ht' : (t : Int) < n := by omega
  go_enter Try.func136, Try.ntmps136
  go_wp2
  go_end0
  exact ⟨rfl, rfl⟩
def BtInv (w : World) (g go : Nat) (D : Nat → Nat) (n j : Nat) (W : World) : Prop :=
  Below w.heap.size w W ∧ w.heap.size ≤ g ∧ w.heap.size ≤ go ∧ W.heap[go]? = some (.cells #[.slice (some ⟨g, 0, none⟩) n n] 38 (0, 0)) ∧ BlkAt W 2 g n (fun i => .int .i64 (btN D n j i))
set_option maxRecDepth 100000 in
theorem byTrack_any (s : Int) (a : Option Addr) (n c : Nat) (D : Nat → Nat) (w : World) (hs : 2 ≤ s ∧ s ≤ 96) (hn : 1 ≤ n ∧ n ≤ 24) (hD : D32 D) :
    Calls Try.prog 82 #[.agg #[.int .i16 s, .slice a n c], .agg (dc D)] w fun e w' => ∃ g, e = .returned (.slice (some ⟨g, 0, none⟩) n n) ∧ Below w.heap.size w w' ∧ w.heap.size ≤ g ∧ BlkAt w' 2 g n (fun i => .int .i64 (btN D n (s.toNat * n) i)) := by
  have HD := Lib.hid hD; clear hD
  have KB := Kp.base w
  replace KB := KB.alloc (.cells #[.int .i16 s, .slice a n c] 43)
  have KF := kp_new1 w #[.int .i16 s, .slice a n c] 43 (g := w.heap.size) (by simp)
  replace KB := KB.alloc (.cells (dc D) 45)
  replace KF := KF.alloc (.cells (dc D) 45)
  have KD := kp_newd (w.alloc (.cells #[.int .i16 s, .slice a n c] 43)) (D) 45 (g := w.heap.size + 1) (by simp)
  have HZ := Lib.hid (show ((w.alloc (.cells #[.int .i16 s, .slice a n c] 43)).alloc (.cells (dc D) 45)).heap.size = w.heap.size + 1 + 1 by simp)
  have f1 := row_cell 1 KF.here
  have hmk := run_make_i64 ((w.alloc (.cells #[.int .i16 s, .slice a n c] 43)).alloc (.cells (dc D) 45)) n (by omega)
  go_enter Try.func82, Try.ntmps82
  go_wp2_with (first | (with_reducible refine load_iframe rfl _ rfl w.heap.size rfl _ s a n c ((KF.alloc _).alloc _).here ?_) | (with_reducible refine load_drum rfl _ rfl (w.heap.size + 1) rfl _ D ((KD.alloc _).alloc _).here ?_))
  clear f1 hmk
  have h0 : BtInv w (w.heap.size + 1 + 1) (w.heap.size + 1 + 1 + 1) D n 0 ((((w.alloc (.cells #[.int .i16 s, .slice a n c] 43)).alloc (.cells (dc D) 45)).alloc (.cells (cf n fun _ => .int .i64 0) 2)).alloc (.cells #[.slice (some ⟨w.heap.size + 1 + 1, 0, none⟩) n n] 38)) := by
    refine ⟨(((KB.alloc _).alloc _)).here, by omega, by omega, ?_, ?_⟩
    · have h := heap_alloc_new (((w.alloc (.cells #[.int .i16 s, .slice a n c] 43)).alloc (.cells (dc D) 45)).alloc (.cells (cf n fun _ => .int .i64 0) 2)) (.cells #[.slice (some ⟨w.heap.size + 1 + 1, 0, none⟩) n n] 38)
      simpa using h
    · have h := BlkAt.new ((w.alloc (.cells #[.int .i16 s, .slice a n c] 43)).alloc (.cells (dc D) 45)) 2 n (fun _ => .int .i64 0)
      rw [show ((w.alloc (.cells #[.int .i16 s, .slice a n c] 43)).alloc (.cells (dc D) 45)).heap.size = w.heap.size + 1 + 1 by simp] at h
      exact (h.congr fun i _ => by rw [btN_zero]).alloc _
  refine (pins_any 2 38 s a n c D 136 #[.pointer (some ⟨w.heap.size + 1 + 1 + 1, 0, none⟩)] (BtInv w (w.heap.size + 1 + 1) (w.heap.size + 1 + 1 + 1) D n) _ hs hn HD.out ⟨by decide, by decide⟩ ⟨by decide, by decide⟩ (call_enter _ _ Try.func136 (by kernel_rfl) (by kernel_rfl)) ?_ ?_ ?_ h0).mono ?_
  · rintro j k t W hk ht rfl hp ⟨hb, hg, hgo, hc, hB⟩
    have hbd := btN_bound D n (k * n + t) t
    have hj := place_lt (s := s.toNat) (by omega : k < s.toNat) ht
    have hj2 := place_bound (s := s.toNat) (n := n) (by omega) (by omega)
    refine (byTrack1_any _ _ n (btN D n (k * n + t)) k t W (by omega) ht (by omega) (by omega) hc hB).mono ?_
    rintro e W' ⟨rfl, rfl⟩
    refine ⟨rfl, ⟨hb.setCell hg _, hg, hgo, (heap_setCell_other W _ _ _ (by simp)).trans hc, (hB.setCell t _ ht).congr fun i hi => ?_⟩, keep_set1 hB _⟩
    by_cases e : i = t
    · subst e; rw [updV_same, btN_yes ht hp]
    · rw [updV_other _ _ _ e, btN_skip ht (.inr e)]
  · rintro j k t W hk ht rfl hp ⟨hb, hg, hgo, hc, hB⟩
    exact ⟨hb, hg, hgo, hc, hB.congr fun i hi => by rw [btN_skip ht (.inl hp)]⟩
  · rintro j W W' ⟨hb, hg, hgo, hc, hB⟩ hb2
    exact ⟨hb.trans (hb2.mono hb.size), hg, hgo, (hb2.block _ (row_lt hc)).trans hc, hB.below hb2 hB.lt⟩
  · rintro e w2 ⟨rfl, ⟨hb, hg, hgo, hc, hB⟩, _⟩
    have c0 := row_cell 0 hc
    have HB := Lib.hid hB; have HC := Lib.hid hc; clear hB hc h0
    go_wp2
    go_ret
    exact ⟨_, rfl, hb, hg, HB.out⟩
set_option maxRecDepth 100000 in
theorem l03Bit_any (t : Nat) (w : World) (ht : t < 24) :
    Calls Try.prog 107 #[.int .i64 (t : Int)] w fun e w' => e = .returned (.int .u32 ((2 ^ t : Nat) : Int)) ∧ w = w' := by
  have hw1 := u64_nat t (by omega)
  have hw2 : min t 32 = t := by omega
  obtain ⟨b, hb⟩ : ∃ b, b = 2 ^ t := ⟨_, rfl⟩
  have hp := wrap_pow ht hb
  rw [← hb]
  clear hb
  go_enter Try.func107, Try.ntmps107
  go_wp2
  go_ret
  exact ⟨rfl, rfl⟩
theorem and_bit {x t : Nat} (hx : x < 4294967296) (ht : t < 24) : (bits .and .u32 (x : Int) ((2 ^ t : Nat) : Int) != 0) = decide (x / 2 ^ t % 2 = 1) := by
  have hp := pow24 ht
  have hlt : 2 ^ t < 4294967296 := by omega
  have hpos := Nat.two_pow_pos t
  rw [bits_and_u32 hx hlt, ← Nat.testBit_eq_decide_div_mod_eq]
  have e : x &&& 2 ^ t = if x.testBit t = true then 2 ^ t else 0 := by
    apply Nat.eq_of_testBit_eq
    intro i
    rw [Nat.testBit_and, Nat.testBit_two_pow]
    by_cases h : t = i
    · subst h
      cases x.testBit t <;> simp [Nat.testBit_two_pow]
    · cases x.testBit t <;> simp [h, Nat.testBit_two_pow]
  rw [e]
  generalize 2 ^ t = b at hpos
  cases x.testBit t
  · rfl
  · have hb : ¬ ((b : Int) = 0) := by omega
    simp [hb]
    omega
set_option maxRecDepth 100000 in
theorem l03Uses_any (g T : Nat) (D : Nat → Nat) (t : Nat) (w : World) (hD : D32 D) (ht : t < 24) (hg : DrumAt w T g D) :
    Calls Try.prog 79 #[.pointer (some ⟨g, 0, none⟩), .int .i64 (t : Int)] w fun e w' => e = .returned (.bool (usesT D t)) ∧ Below w.heap.size w w' := by
  have KG := kp_drum hg; clear hg
  have HD := Lib.hid hD; clear hD
  go_enter Try.func79, Try.ntmps79
  go_wp2
  go_loopw [5] (fun i w' => Below w.heap.size w w' ∧ ∃ k : Nat, k ≤ 96 ∧ i = .int .i64 k ∧ ∀ j, j < k → hasPin D j t = false) (fun i _ => 96 - (intOf i).toNat)
  case atStart => exact ⟨Below.refl _ _, 0, by omega, rfl, fun j hj => by omega⟩
  case round =>
    obtain ⟨hb, k, hk, rfl, hno⟩ := hrel
    have HNO := Lib.hid hno; clear hno
    by_cases hlt : k < 96
    · have hk' : (k : Int) < 96 := by omega
      have c0 := (KG.at hb).cell k hlt
      have hab := and_bit (x := D k) (t := t) (HD.out k) ht
      have hpm : hasPin D k t = decide (D k / 2 ^ t % 2 = 1) := hasPin_mod D k t
      rw [← hpm] at hab
      obtain ⟨y, hy⟩ : ∃ y, 2 ^ t = y := ⟨_, rfl⟩
      have HY := Lib.hid hy
      rw [hy] at hab
      clear hpm hy
      have HC := Lib.hid (fun V (hV : Below wr.heap.size wr V) => ((KG.on hb).at hV).cell k hlt)
      clear c0
      cases hp : hasPin D k t
      · rw [hp] at hab
        have HP := Lib.hid hp; clear hp
        have hS := below_drew wr
        go_wp2
        refine wp_region_S (fun V => Below wr.heap.size wr V) (by kernel_rfl) hS ?_
        refine take_val 0 (.pointer (some ⟨g, 0, none⟩)) rfl (by kernel_rfl) (by kernel_rfl) (by kernel_rfl) (fun _ _ _ h => h) rfl (fun V hV => by simp [go_sem]) hS ?_
        simp only [List.getElem_toArray, List.getElem_cons_zero, List.getElem_cons_succ, Act.put, List.setIfInBounds_toArray, List.set_cons_zero, List.set_cons_succ]
        refine take_val 1 (.int .i64 (k : Int)) rfl (by kernel_rfl) (by kernel_rfl) (by kernel_rfl) (fun _ _ _ h => h) rfl (fun V hV => by simp [go_sem]) hS ?_
        simp only [List.getElem_toArray, List.getElem_cons_zero, List.getElem_cons_succ, Act.put, List.setIfInBounds_toArray, List.set_cons_zero, List.set_cons_succ]
        refine take_val 2 (.pointer (some ⟨g, 0, none⟩)) rfl (by kernel_rfl) (by kernel_rfl) (by kernel_rfl) (fun _ _ _ h => h) rfl (fun V hV => by simp [go_sem]) hS ?_
        simp only [List.getElem_toArray, List.getElem_cons_zero, List.getElem_cons_succ, Act.put, List.setIfInBounds_toArray, List.set_cons_zero, List.set_cons_succ]
        refine take_val 3 (.pointer (some ⟨g, k, none⟩)) rfl (by kernel_rfl) (by kernel_rfl) (by kernel_rfl) (fun _ _ _ h => h) rfl (fun V hV => by simp [go_sem, hlt, hk']) hS ?_
        simp only [List.getElem_toArray, List.getElem_cons_zero, List.getElem_cons_succ, Act.put, List.setIfInBounds_toArray, List.set_cons_zero, List.set_cons_succ]
        refine take_val 4 (.int .u32 (D k : Int)) rfl (by kernel_rfl) (by kernel_rfl) (by kernel_rfl) (fun _ _ _ h => h) rfl (fun V hV => by have h := HC.out V hV; simp [go_sem, h]) hS ?_
        simp only [List.getElem_toArray, List.getElem_cons_zero, List.getElem_cons_succ, Act.put, List.setIfInBounds_toArray, List.set_cons_zero, List.set_cons_succ]
        refine take_val 5 (.int .i64 (t : Int)) rfl (by kernel_rfl) (by kernel_rfl) (by kernel_rfl) (fun _ _ _ h => h) rfl (fun V hV => by simp [go_sem]) hS ?_
        simp only [List.getElem_toArray, List.getElem_cons_zero, List.getElem_cons_succ, Act.put, List.setIfInBounds_toArray, List.set_cons_zero, List.set_cons_succ]
        refine step_call 6 107 #[.int .i64 (t : Int)] (by kernel_rfl) rfl rfl (by simp [go_sem]) ?_
        refine (l03Bit_any t _ ht).mono ?_
        rw [HY.out]
        rintro e w2 ⟨rfl, rfl⟩
        refine ⟨_, rfl, hS, ?_⟩
        simp only [List.getElem_toArray, List.getElem_cons_zero, List.getElem_cons_succ, Act.put, List.setIfInBounds_toArray, List.set_cons_zero, List.set_cons_succ]
        refine take_val 7 (.int .u32 (bits .and .u32 (D k : Int) (y : Int))) rfl (by kernel_rfl) (by kernel_rfl) (by kernel_rfl) (fun _ _ _ h => h) rfl (fun V hV => by simp [go_sem]) hS ?_
        simp only [List.getElem_toArray, List.getElem_cons_zero, List.getElem_cons_succ, Act.put, List.setIfInBounds_toArray, List.set_cons_zero, List.set_cons_succ]
        refine take_val 8 (.bool false) rfl (by kernel_rfl) (by kernel_rfl) (by kernel_rfl) (fun _ _ _ h => h) rfl (fun V hV => by simp [go_sem, hab]) hS ?_
        simp only [List.getElem_toArray, List.getElem_cons_zero, List.getElem_cons_succ, Act.put, List.setIfInBounds_toArray, List.set_cons_zero, List.set_cons_succ]
        refine wpAnyH_done (by kernel_rfl) ?_ _
        have hb2 := hb.drew
        go_wp2
        go_roundw
        case rel => exact ⟨hb2, k + 1, by omega, by go_num, fun j hj => if e : j = k then by subst e; exact HP.out else HNO.out j (by omega)⟩
        case measure => simp [intOf]; omega
      · rw [hp] at hab
        have HP := Lib.hid hp; clear hp
        have hS := below_drew wr
        go_wp2
        refine wp_region_S (fun V => Below wr.heap.size wr V) (by kernel_rfl) hS ?_
        refine take_val 0 (.pointer (some ⟨g, 0, none⟩)) rfl (by kernel_rfl) (by kernel_rfl) (by kernel_rfl) (fun _ _ _ h => h) rfl (fun V hV => by simp [go_sem]) hS ?_
        simp only [List.getElem_toArray, List.getElem_cons_zero, List.getElem_cons_succ, Act.put, List.setIfInBounds_toArray, List.set_cons_zero, List.set_cons_succ]
        refine take_val 1 (.int .i64 (k : Int)) rfl (by kernel_rfl) (by kernel_rfl) (by kernel_rfl) (fun _ _ _ h => h) rfl (fun V hV => by simp [go_sem]) hS ?_
        simp only [List.getElem_toArray, List.getElem_cons_zero, List.getElem_cons_succ, Act.put, List.setIfInBounds_toArray, List.set_cons_zero, List.set_cons_succ]
        refine take_val 2 (.pointer (some ⟨g, 0, none⟩)) rfl (by kernel_rfl) (by kernel_rfl) (by kernel_rfl) (fun _ _ _ h => h) rfl (fun V hV => by simp [go_sem]) hS ?_
        simp only [List.getElem_toArray, List.getElem_cons_zero, List.getElem_cons_succ, Act.put, List.setIfInBounds_toArray, List.set_cons_zero, List.set_cons_succ]
        refine take_val 3 (.pointer (some ⟨g, k, none⟩)) rfl (by kernel_rfl) (by kernel_rfl) (by kernel_rfl) (fun _ _ _ h => h) rfl (fun V hV => by simp [go_sem, hlt, hk']) hS ?_
        simp only [List.getElem_toArray, List.getElem_cons_zero, List.getElem_cons_succ, Act.put, List.setIfInBounds_toArray, List.set_cons_zero, List.set_cons_succ]
        refine take_val 4 (.int .u32 (D k : Int)) rfl (by kernel_rfl) (by kernel_rfl) (by kernel_rfl) (fun _ _ _ h => h) rfl (fun V hV => by have h := HC.out V hV; simp [go_sem, h]) hS ?_
        simp only [List.getElem_toArray, List.getElem_cons_zero, List.getElem_cons_succ, Act.put, List.setIfInBounds_toArray, List.set_cons_zero, List.set_cons_succ]
        refine take_val 5 (.int .i64 (t : Int)) rfl (by kernel_rfl) (by kernel_rfl) (by kernel_rfl) (fun _ _ _ h => h) rfl (fun V hV => by simp [go_sem]) hS ?_
        simp only [List.getElem_toArray, List.getElem_cons_zero, List.getElem_cons_succ, Act.put, List.setIfInBounds_toArray, List.set_cons_zero, List.set_cons_succ]
        refine step_call 6 107 #[.int .i64 (t : Int)] (by kernel_rfl) rfl rfl (by simp [go_sem]) ?_
        refine (l03Bit_any t _ ht).mono ?_
        rw [HY.out]
        rintro e w2 ⟨rfl, rfl⟩
        refine ⟨_, rfl, hS, ?_⟩
        simp only [List.getElem_toArray, List.getElem_cons_zero, List.getElem_cons_succ, Act.put, List.setIfInBounds_toArray, List.set_cons_zero, List.set_cons_succ]
        refine take_val 7 (.int .u32 (bits .and .u32 (D k : Int) (y : Int))) rfl (by kernel_rfl) (by kernel_rfl) (by kernel_rfl) (fun _ _ _ h => h) rfl (fun V hV => by simp [go_sem]) hS ?_
        simp only [List.getElem_toArray, List.getElem_cons_zero, List.getElem_cons_succ, Act.put, List.setIfInBounds_toArray, List.set_cons_zero, List.set_cons_succ]
        refine take_val 8 (.bool true) rfl (by kernel_rfl) (by kernel_rfl) (by kernel_rfl) (fun _ _ _ h => h) rfl (fun V hV => by simp [go_sem, hab]) hS ?_
        simp only [List.getElem_toArray, List.getElem_cons_zero, List.getElem_cons_succ, Act.put, List.setIfInBounds_toArray, List.set_cons_zero, List.set_cons_succ]
        refine wpAnyH_done (by kernel_rfl) ?_ _
        have hb2 := hb.drew
        have HU := Lib.hid (usesT_iff.2 ⟨k, hlt, HP.out⟩)
        go_wp2
        go_ret
        exact ⟨ret_bool HU.out.symm, hb2⟩
    · have hk96 : k = 96 := by omega
      subst hk96
      have hf : usesT D t = false := by
        cases h : usesT D t
        · rfl
        · obtain ⟨j, hj, hp⟩ := usesT_iff.1 h
          rw [HNO.out j hj] at hp; cases hp
      have HF := Lib.hid hf; clear hf
      go_wp2
      go_ret
      exact ⟨ret_bool HF.out.symm, hb⟩
end Go.Proofs.Ytmmneedmhmppoaa
