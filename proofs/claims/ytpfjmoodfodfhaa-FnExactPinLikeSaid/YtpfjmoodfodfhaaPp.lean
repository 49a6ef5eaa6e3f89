/- Tunes pinned by search: what is laid down; drums inside a larger block; the program's block. No conditions. -/
import Derived.Test.YtpfjmoodfodfhaaGr
import Derived.Test.YtpfjmoodfodfhaaFr
import Derived.Outline
namespace Go.Proofs.Ytpfjmoodfodfhaa
open Go.RowKit
set_option linter.unusedVariables false
set_option linter.unusedSimpArgs false

/-! Tunes pinned by search: what is laid down. No conditions. -/
/-- what the search has come to -/
structure PnSt where
  tries : Int
  over : Bool
  found : Bool
  best : Nat → Nat
  most : Int
/-- the search is at its end -/
def pnStop (like : Bool) (s : PnSt) : Bool := s.over || (s.found && !like)
/-- whether a pin is new -/
def pnNew (E : Nat → Nat) (a t : Nat) : Int := if hasPin E a t = true then 0 else 1
theorem pnNew_has {E : Nat → Nat} {a t : Nat} (h : hasPin E a t = true) : pnNew E a t = 0 := if_pos h
theorem pnNew_not {E : Nat → Nat} {a t : Nat} (h : hasPin E a t = false) : pnNew E a t = 1 := if_neg (by rw [h]; simp)
theorem pnNew_b (E : Nat → Nat) (a t : Nat) : 0 ≤ pnNew E a t ∧ pnNew E a t ≤ 1 := by unfold pnNew; split <;> omega
/-- a try does not pay -/
def pnVain (like : Bool) (s : PnSt) (own : Int) : Bool := like && s.found && decide (s.most ≤ own)
def pnTick (s : PnSt) : PnSt := { s with tries := s.tries + 1 }
def pnOver (s : PnSt) : PnSt := { s with over := true }
def pnFound (D : Nat → Nat) (own : Int) (s : PnSt) : PnSt := { s with found := true, best := D, most := own }
/-- one track is tried for a note at a -/
def pnOne (like : Bool) (budget : Int) (E : Nat → Nat) (a : Nat) (own : Int) (rec : Nat → Int → PnSt → PnSt) (s : PnSt) (x : Int) : PnSt :=
  if pnStop like s = true then s else if s.tries = budget then pnOver s else if pnVain like s (own + pnNew E a x.toNat) = true then pnTick s else rec x.toNat (own + pnNew E a x.toNat) (pnTick s)
/-- r notes are still to come -/
noncomputable def pnB (like : Bool) (budget : Int) (E : Nat → Nat) (m n : Nat) (P R A B : Nat → Int) (l : Nat) : Nat → (Nat → Nat) → Int → PnSt → PnSt
  | 0, D, own, s => pnFound D own s
  | r + 1, D, own, s => (frL m P R D (A (l - (r + 1))).toNat (B (l - (r + 1))) n).foldl (pnOne like budget E (A (l - (r + 1))).toNat own (fun t o => pnB like budget E m n P R A B l r (setP D (A (l - (r + 1))).toNat t) o)) s
/-- the first j tracks of a list have been tried -/
noncomputable def pnF (like : Bool) (budget : Int) (E : Nat → Nat) (m n : Nat) (P R A B : Nat → Int) (l r : Nat) (D : Nat → Nat) (k : Nat) (own : Int) (ls : List Int) (j : Nat) (s : PnSt) : PnSt :=
  (ls.take j).foldl (pnOne like budget E k own (fun t o => pnB like budget E m n P R A B l r (setP D k t) o)) s
section
variable {like : Bool} {budget : Int} {E : Nat → Nat} {m n : Nat} {P R A B : Nat → Int} {l r : Nat} {D : Nat → Nat} {k : Nat} {own : Int} {ls : List Int} {j : Nat} {s : PnSt}
theorem pnB_zero : pnB like budget E m n P R A B l 0 D own s = pnFound D own s := rfl
theorem pnB_succ : pnB like budget E m n P R A B l (r + 1) D own s = pnF like budget E m n P R A B l r D (A (l - (r + 1))).toNat own (frL m P R D (A (l - (r + 1))).toNat (B (l - (r + 1))) n) (frL m P R D (A (l - (r + 1))).toNat (B (l - (r + 1))) n).length s := by
  unfold pnF; rw [List.take_length]; rfl
theorem pnF_zero : pnF like budget E m n P R A B l r D k own ls 0 s = s := rfl
theorem pnF_succ (hj : j < ls.length) : pnF like budget E m n P R A B l r D k own ls (j + 1) s = pnOne like budget E k own (fun t o => pnB like budget E m n P R A B l r (setP D k t) o) (pnF like budget E m n P R A B l r D k own ls j s) (ls.getD j 0) := by
  unfold pnF
  rw [List.take_add_one, List.getElem?_eq_getElem hj, List.foldl_append, List.getD, List.getElem?_eq_getElem hj]
  rfl
theorem pnOne_stop {rec : Nat → Int → PnSt → PnSt} {x : Int} (h : pnStop like s = true) : pnOne like budget E k own rec s x = s := if_pos h
theorem pnOne_over {rec : Nat → Int → PnSt → PnSt} {x : Int} (h : pnStop like s = false) (h2 : s.tries = budget) : pnOne like budget E k own rec s x = pnOver s := by
  unfold pnOne; rw [if_neg (by rw [h]; simp), if_pos h2]
theorem pnOne_vain {rec : Nat → Int → PnSt → PnSt} {x : Int} (h : pnStop like s = false) (h2 : ¬ s.tries = budget) (h3 : pnVain like s (own + pnNew E k x.toNat) = true) : pnOne like budget E k own rec s x = pnTick s := by
  unfold pnOne; rw [if_neg (by rw [h]; simp), if_neg h2, if_pos h3]
theorem pnOne_go {rec : Nat → Int → PnSt → PnSt} {x : Int} (h : pnStop like s = false) (h2 : ¬ s.tries = budget) (h3 : pnVain like s (own + pnNew E k x.toNat) = false) : pnOne like budget E k own rec s x = rec x.toNat (own + pnNew E k x.toNat) (pnTick s) := by
  unfold pnOne; rw [if_neg (by rw [h]; simp), if_neg h2, if_neg (by rw [h3]; simp)]
theorem pnF_stop (h : pnStop like (pnF like budget E m n P R A B l r D k own ls j s) = true) (i : Nat) : pnF like budget E m n P R A B l r D k own ls (j + i) s = pnF like budget E m n P R A B l r D k own ls j s := by
  induction i with
  | zero => rfl
  | succ i ih =>
    by_cases hj : j + i < ls.length
    · rw [show j + (i + 1) = j + i + 1 by omega, pnF_succ hj, ih]; exact pnOne_stop h
    · rw [← ih]; unfold pnF; rw [List.take_of_length_le (by omega), List.take_of_length_le (by omega)]
theorem pnF_end (hj : j ≤ ls.length) (h : pnStop like (pnF like budget E m n P R A B l r D k own ls j s) = true) : pnF like budget E m n P R A B l r D k own ls ls.length s = pnF like budget E m n P R A B l r D k own ls j s := by
  have := pnF_stop h (ls.length - j)
  rwa [show j + (ls.length - j) = ls.length by omega] at this
theorem pnVain_tick : pnVain like (pnTick s) own = pnVain like s own := rfl
theorem pnStop_tick : pnStop like (pnTick s) = pnStop like s := rfl
theorem pnStop_over : pnStop like (pnOver s) = true := rfl
theorem pnStop_found : pnStop like (pnFound D own s) = (s.over || !like) := rfl
/-- a state that may come up -/
def PnOK (budget : Int) (s : PnSt) : Prop := 0 ≤ s.tries ∧ s.tries ≤ budget ∧ D32 s.best ∧ 0 ≤ s.most ∧ s.most ≤ 200
theorem pnOK_tick (h : PnOK budget s) (h2 : ¬ s.tries = budget) : PnOK budget (pnTick s) := by
  obtain ⟨a, b, c⟩ := h
  exact ⟨by show 0 ≤ s.tries + 1; omega, by show s.tries + 1 ≤ budget; omega, c⟩
theorem pnOne_ok {rec : Nat → Int → PnSt → PnSt} {x : Int} (hs : PnOK budget s) (hrec : ∀ u, PnOK budget u → PnOK budget (rec x.toNat (own + pnNew E k x.toNat) u)) : PnOK budget (pnOne like budget E k own rec s x) := by
  unfold pnOne
  split
  · exact hs
  · split
    · exact hs
    · rename_i h2
      split
      · exact pnOK_tick hs h2
      · exact hrec _ (pnOK_tick hs h2)
theorem pnF_ok (ho : 0 ≤ own) (hn : n ≤ 24) (hD : D32 D) (hr : own + r + 1 ≤ 200) (hls : ∀ x ∈ ls, ∃ t : Nat, x = t ∧ t < n)
    (ih : ∀ (D : Nat → Nat) (own : Int) (s : PnSt), D32 D → 0 ≤ own → own + r ≤ 200 → PnOK budget s → PnOK budget (pnB like budget E m n P R A B l r D own s)) (hs : PnOK budget s) (hj : j ≤ ls.length) : PnOK budget (pnF like budget E m n P R A B l r D k own ls j s) := by
  induction j with
  | zero => exact hs
  | succ j ihj =>
    rw [pnF_succ (by omega)]
    refine pnOne_ok (ihj (by omega)) fun u hu => ?_
    have hx : ls.getD j 0 ∈ ls := by rw [List.getD, List.getElem?_eq_getElem (show j < ls.length by omega)]; exact List.getElem_mem _
    obtain ⟨t, e, ht⟩ := hls _ hx
    rw [e, Int.toNat_natCast]
    have hb := pnNew_b E k t
    exact ih _ _ _ (setP_32 hD (by omega) _) (by omega) (by omega) hu
theorem pnB_ok (hn : n ≤ 24) (r : Nat) : ∀ (D : Nat → Nat) (own : Int) (s : PnSt), D32 D → 0 ≤ own → own + r ≤ 200 → PnOK budget s → PnOK budget (pnB like budget E m n P R A B l r D own s) := by
  induction r with
  | zero => intro D own s hD h0 h1 hs; rw [pnB_zero]; exact ⟨hs.1, hs.2.1, hD, h0, by show own ≤ 200; omega⟩
  | succ r ih =>
    intro D own s hD h0 h1 hs
    rw [pnB_succ]
    refine pnF_ok h0 hn hD (by omega) (fun x hx => ?_) ih hs (Nat.le_refl _)
    obtain ⟨t, e, ht, _⟩ := frL_mem n x hx
    exact ⟨t, e, ht⟩
/-- one note: the states behind each of its tracks -/
theorem pn_facts (hn : n ≤ 24) (hD : D32 D) (ho : 0 ≤ own) (ho2 : own + r + 1 ≤ 200) (hs : PnOK budget s) (hk : k = (A (l - (r + 1))).toNat) (hls : frL m P R D k (B (l - (r + 1))) n = ls) :
    ∃ F : Nat → PnSt, F 0 = s ∧ (∀ j, j < ls.length → F (j + 1) = pnOne like budget E k own (fun t o => pnB like budget E m n P R A B l r (setP D k t) o) (F j) (ls.getD j 0)) ∧
      (∀ j, j ≤ ls.length → pnStop like (F j) = true → F ls.length = F j) ∧ (∀ j, j ≤ ls.length → PnOK budget (F j)) ∧ pnB like budget E m n P R A B l (r + 1) D own s = F ls.length := by
  refine ⟨fun j => pnF like budget E m n P R A B l r D k own ls j s, pnF_zero, fun j hj => pnF_succ hj, fun j hj h => pnF_end hj h, fun j hj => pnF_ok ho hn hD ho2 (fun x hx => ?_) (pnB_ok hn r) hs hj, ?_⟩
  · rw [← hls] at hx
    obtain ⟨t, e, ht, _⟩ := frL_mem n x hx
    exact ⟨t, e, ht⟩
  · rw [pnB_succ, ← hk, hls]
end
theorem pnStop_def (like : Bool) (s : PnSt) : pnStop like s = (s.over || (s.found && !like)) := rfl
theorem pnVain_def (like : Bool) (s : PnSt) (own : Int) : pnVain like s own = (like && s.found && decide (s.most ≤ own)) := rfl
attribute [irreducible] pnNew pnVain pnOne pnB pnF pnStop
/-- a pin that was free is taken back -/
theorem hasPin_def (D : Nat → Nat) (k t : Nat) : hasPin D k t = (D k).testBit t := by unfold hasPin; rfl
theorem setP_back {D : Nat → Nat} {k t : Nat} (h : hasPin D k t = false) : upd (setP D k t) k (andn (setP D k t k) (2 ^ t)) = D := by
  have e : setP D k t k = D k ||| 2 ^ t := by unfold setP upd; rw [if_pos rfl]
  rw [e]
  unfold setP
  rw [upd_upd]
  funext j
  unfold upd
  split
  · rename_i hj
    subst hj
    apply Nat.eq_of_testBit_eq
    intro i
    rw [andn_testBit, Nat.testBit_or, Nat.testBit_two_pow]
    by_cases hi : t = i
    · subst hi
      have h2 : (D j).testBit t = false := by rw [← hasPin_def]; exact h
      simp [h2]
    · simp [hi]
  · rfl

/-! Drums that lie inside a larger block: pins, free tracks. No conditions. -/
theorem kp_drumC {w : World} {g o : Nat} {D : Nat → Nat} (hg : g < w.heap.size) (h : DrumCells w g o D) : Kp w (fun V => DrumCells V g o D) := Kp.mk fun _ hb => h.below hb hg
set_option maxRecDepth 100000 in
theorem has_off (g od : Nat) (D : Nat → Nat) (k t : Nat) (w : World) (hD : D32 D) (hk : k < 96) (ht : t < 24) (hg : DrumCells w g od D) :
    Calls Try.prog 135 #[.pointer (some ⟨g, od, none⟩), .int .i64 (k : Int), .int .i64 (t : Int)] w fun e w' => e = .returned (.bool (hasPin D k t)) ∧ w = w' := by
  have c0 := hg k hk
  have HG := Lib.hid hg; clear hg
  have hk' : (k : Int) < 96 := by omega
  have hw2 : min t 32 = t := by omega
  go_enter Try.func135, Try.ntmps135
  go_wp2
  go_ret
  refine ⟨ret_bool ?_, rfl⟩
  have hlt : D k / 2 ^ t < 4294967296 := Nat.lt_of_le_of_lt (Nat.div_le_self _ _) (hD k)
  rw [div_cast, and1 hlt, hasPin_mod]
  rcases Nat.mod_two_eq_zero_or_one (D k / 2 ^ t) with h | h <;> rw [h] <;> rfl
set_option maxRecDepth 100000 in
theorem l02Pin_off (g od : Nat) (D : Nat → Nat) (k t : Nat) (w : World) (hD : D32 D) (hk : k < 96) (ht : t < 24) (hg : DrumCells w g od D) :
    Calls Try.prog 165 #[.pointer (some ⟨g, od, none⟩), .int .i64 (k : Int), .int .i64 (t : Int)] w fun e w' => e = .returned (.bool (hasPin D k t)) ∧ w = w' := by
  have c0 := hg k hk
  have HG := Lib.hid hg; clear hg
  have hk' : (k : Int) < 96 := by omega
  have hw1 := u64_nat t (by omega)
  have hw2 : min t 32 = t := by omega
  go_enter Try.func165, Try.ntmps165
  go_wp2
  go_ret
  refine ⟨ret_bool ?_, rfl⟩
  rw [div_cast, hasPin_mod, show ((D k / 2 ^ t : Nat) : Int).tmod 2 = ((D k / 2 ^ t % 2 : Nat) : Int) from (Int.ofNat_tmod _ 2).symm]
  rcases Nat.mod_two_eq_zero_or_one (D k / 2 ^ t) with h | h <;> rw [h] <;> rfl
set_option maxRecDepth 100000 in
set_option maxHeartbeats 1000000 in
theorem l02Free_off (gf gd Tf od : Nat) (m : Nat) (a : Option Addr) (n c : Nat) (P R : Nat → Int) (D : Nat → Nat) (k t : Nat) (w : World) (hm : 2 ≤ m ∧ m ≤ 96) (hk : k < m) (ht : t < n) (hn : n ≤ 24) (hr : 1 ≤ R t ∧ R t ≤ m) (hD : D32 D) (hf : w.heap[gf]? = some (.cells #[.int .i16 (m : Int), .slice a n c] Tf (0, 0))) (hd : DrumCells w gd od D) (hh : HamAt w a n P R) :
    Calls Try.prog 158 #[.pointer (some ⟨gf, 0, none⟩), .pointer (some ⟨gd, od, none⟩), .int .i64 (k : Int), .int .i64 (t : Int)] w fun e w' => e = .returned (.bool (frB m R D k t)) ∧ w = w' := by
  have HD := Lib.hid hD; have HDR := Lib.hid hd; clear hD hd
  have f0 := row_cell 0 hf
  have f1 := row_cell 1 hf
  have hx := HamAt.get hh (show 0 < n by omega)
  obtain ⟨g, off, rfl, hg, hc⟩ := hx
  have c1 := (hc t ht).2
  clear hc hh hf
  obtain ⟨r, hrr⟩ : ∃ r : Nat, R t = r := ⟨(R t).toNat, by omega⟩
  have HRR := Lib.hid (show (R t).toNat = r by rw [hrr]; exact Int.toNat_natCast r)
  rw [hrr] at c1 hr
  clear hrr
  have ht' : (t : Int) < n := by omega
  have q0 := i64_id (x := (r : Int)) (by omega)
  have q9 := i64_id (x := (m : Int)) (by omega)
  cases hp : hasPin D k t
  · have HP := Lib.hid hp
    go_enter Try.func158, Try.ntmps158
    go_wp2_with (go_at_call 165; refine (l02Pin_off gd od D k t _ HD.out (by omega) (by omega) HDR.out).mono ?_; rw [hp]; rintro e w2 ⟨rfl, rfl⟩)
    go_loopw [11] (fun i w' => w = w' ∧ ∃ j : Nat, 1 ≤ j ∧ j ≤ r ∧ i = .int .i64 j ∧ ∀ x, 1 ≤ x → x < j → hasPin D ((k + x) % m) t = false ∧ hasPin D ((k + m - x) % m) t = false) (fun i _ => (r - intOf i).toNat)
    case atStart => exact ⟨rfl, 1, by omega, by omega, rfl, fun x h1 h2 => by omega⟩
    case round =>
      obtain ⟨rfl, j, hj1, hjr, rfl, hno⟩ := hrel
      have HNO := Lib.hid hno; clear hno
      by_cases hlt : j < r
      · have hlt' : (j : Int) < r := by omega
        have hq := Nat.mod_lt (k + j) (show 0 < m by omega)
        have hmod := nmod k j m
        have hmod' := ntmod k j m
        obtain ⟨x, hx⟩ : ∃ x, (k + j) % m = x := ⟨_, rfl⟩
        rw [hx] at hq hmod hmod'
        have HX := Lib.hid hx; clear hx
        have hq2 := Nat.mod_lt (k + m - j) (show 0 < m by omega)
        have he : (k : Int) + (m : Int) - (j : Int) = ((k + m - j : Nat) : Int) := by omega
        have hmod2 : ((k : Int) + (m : Int) - (j : Int)) % (m : Int) = (((k + m - j) % m : Nat) : Int) := by rw [he, ← Int.natCast_emod]
        have hmod2' : ((k : Int) + (m : Int) - (j : Int)).tmod (m : Int) = (((k + m - j) % m : Nat) : Int) := by rw [he, ← Int.ofNat_tmod]
        obtain ⟨y, hy⟩ : ∃ y, (k + m - j) % m = y := ⟨_, rfl⟩
        rw [hy] at hq2 hmod2 hmod2'
        have HY := Lib.hid hy; clear hy he
        have q1 := i64_id (x := (k : Int) + (j : Int)) (by omega)
        have q2 := i64_id (x := (k : Int) + (m : Int)) (by omega)
        have q3 := i64_id (x := (k : Int) + (m : Int) - (j : Int)) (by omega)
        have hm0 : ¬ m = 0 := by omega
        have HC1 := Lib.hid (l02Pin_off gd od D x t w HD.out (by omega) (by omega) HDR.out)
        have HC2 := Lib.hid (l02Pin_off gd od D y t w HD.out (by omega) (by omega) HDR.out)
        cases hp1 : hasPin D x t
        · have HP1 := Lib.hid hp1
          rw [hp1] at HC1
          cases hp2 : hasPin D y t
          · have HP2 := Lib.hid hp2
            rw [hp2] at HC2
            go_wp2_with (go_at_call 165; (first | (with_reducible refine HC1.out.mono ?_) | (with_reducible refine HC2.out.mono ?_)); rintro e w2 ⟨rfl, rfl⟩)
            go_roundw
            case rel => exact ⟨trivial, j + 1, by omega, by omega, by go_num, fun z h1 h2 => if e : z = j then by rw [e, HX.out, HY.out]; exact ⟨HP1.out, HP2.out⟩ else HNO.out z h1 (by omega)⟩
            case measure => simp [intOf]; omega
          · have HP2 := Lib.hid hp2
            rw [hp2] at HC2
            go_wp2_with (go_at_call 165; (first | (with_reducible refine HC1.out.mono ?_) | (with_reducible refine HC2.out.mono ?_)); rintro e w2 ⟨rfl, rfl⟩)
            go_ret
            exact ⟨ret_bool (by rw [frB_false (fun h => by have := (h.2 j hj1 (by rw [HRR.out]; exact hlt)).2; rw [HY.out, HP2.out] at this; cases this)]), rfl⟩
        · have HP1 := Lib.hid hp1
          rw [hp1] at HC1
          go_wp2_with (go_at_call 165; with_reducible refine HC1.out.mono ?_; rintro e w2 ⟨rfl, rfl⟩)
          go_ret
          exact ⟨ret_bool (by rw [frB_false (fun h => by have := (h.2 j hj1 (by rw [HRR.out]; exact hlt)).1; rw [HX.out, HP1.out] at this; cases this)]), rfl⟩
      · have hjr2 : j = r := by omega
        subst hjr2
        go_wp2
        go_ret
        exact ⟨ret_bool (by rw [frB_true ⟨HP.out, fun x h1 h2 => HNO.out x h1 (by rw [HRR.out] at h2; exact h2)⟩]), rfl⟩
  · have HP := Lib.hid hp
    go_enter Try.func158, Try.ntmps158
    go_wp2_with (go_at_call 165; refine (l02Pin_off gd od D k t _ HD.out (by omega) (by omega) HDR.out).mono ?_; rw [hp]; rintro e w2 ⟨rfl, rfl⟩)
    go_ret
    exact ⟨ret_bool (by rw [frB_false (fun h => by have := h.1; rw [HP.out] at this; cases this)]), rfl⟩
set_option maxRecDepth 100000 in
set_option maxHeartbeats 1000000 in
theorem l03Tracks_off (gf gd Tf od : Nat) (m : Nat) (a : Option Addr) (n c : Nat) (P R : Nat → Int) (D : Nat → Nat) (k : Nat) (p : Int) (w : World) (hm : 2 ≤ m ∧ m ≤ 96) (hk : k < m) (hn : n ≤ 24) (hr : ∀ t, t < n → 1 ≤ R t ∧ R t ≤ m) (hP : I8 P) (hD : D32 D) (hf : w.heap[gf]? = some (.cells #[.int .i16 (m : Int), .slice a n c] Tf (0, 0))) (hgd : gd < w.heap.size) (hd : DrumCells w gd od D) (hh : HamAt w a n P R) :
    Calls Try.prog 131 #[.pointer (some ⟨gf, 0, none⟩), .pointer (some ⟨gd, od, none⟩), .agg #[.int .i16 (k : Int), .int .i8 p]] w fun e w' => ∃ v, e = .returned v ∧ Below w.heap.size w w' ∧ OwnI w' w.heap.size v (frL m P R D k p n) := by
  have HD := Lib.hid hD; have HP := Lib.hid hP; have HRR := Lib.hid hr; have KD := kp_drumC hgd hd; clear hD hd hP hr
  have KB := Kp.base w; have KH := kp_ham hh; have KF := kp_row hf; clear hh hf
  replace KB := KB.alloc (.cells #[.int .i16 (k : Int), .int .i8 p] 95)
  replace KD := KD.alloc (.cells #[.int .i16 (k : Int), .int .i8 p] 95)
  replace KH := KH.alloc (.cells #[.int .i16 (k : Int), .int .i8 p] 95)
  replace KF := KF.alloc (.cells #[.int .i16 (k : Int), .int .i8 p] 95)
  have KN := kp_new1 w #[.int .i16 (k : Int), .int .i8 p] 95 (g := w.heap.size) (by simp)
  have HZ := Lib.hid (show (w.alloc (.cells #[.int .i16 (k : Int), .int .i8 p] 95)).heap.size = w.heap.size + 1 by simp)
  go_enter Try.func131, Try.ntmps131
  go_wp2
  generalize (w.alloc (.cells #[.int .i16 (k : Int), .int .i8 p] 95)) = W at KB KD KH KF KN HZ ⊢
  have hz := HZ.out
  rw [← hz]
  have hws : w.heap.size ≤ W.heap.size := KB.here.size
  clear HZ hz
  have hn0 := OwnI.nil W W.heap.size (Nat.le_refl _)
  rw [← frL_zero (m := m) (P := P) (R := R) (D := D) (k := k) (p := p)] at hn0
  have HN0 := Lib.hid hn0; clear hn0
  go_loopw [7, 8] (fun v i w' => Below W.heap.size W w' ∧ ∃ j : Nat, j ≤ n ∧ i = .int .i64 j ∧ OwnI w' W.heap.size v (frL m P R D k p j)) (fun _ i _ => n - (intOf i).toNat)
  case atStart => exact ⟨(Below.refl _ _).alloc (Nat.le_refl _) _, 0, by omega, rfl, HN0.out⟩
  case round =>
    clear HN0
    obtain ⟨hb, j, hj, rfl, hown⟩ := hrel
    have HOWN := Lib.hid hown
    replace KB := KB.on hb
    replace KD := KD.on hb
    replace KH := KH.on hb
    replace KF := KF.on hb
    replace KN := KN.on hb
    obtain ⟨vb, vc, rfl, _⟩ := OwnI.at hown
    clear hown
    have hsz := hb.size
    have f0 := row_cell 0 KF.here
    have f1 := row_cell 1 KF.here
    by_cases hlt : j < n
    · have hj' : (j : Int) < n := by omega
      have hlen := frL_len (m := m) (P := P) (R := R) (D := D) (k := k) (p := p) j
      have hyes := frL_yes (m := m) (P := P) (R := R) (D := D) (k := k) (p := p) (j := j)
      have hpit := frL_pitch (m := m) (P := P) (R := R) (D := D) (k := k) (p := p) (j := j)
      have hhel := frL_held (m := m) (P := P) (R := R) (D := D) (k := k) (p := p) (j := j)
      have HY := Lib.hid hyes; have HPI := Lib.hid hpit; have HHE := Lib.hid hhel; have HLEN := Lib.hid hlen; clear hyes hpit hhel hlen
      have hx := HamAt.get KH.here (show 0 < n by omega)
      obtain ⟨g, off, rfl, hg, hc⟩ := hx
      have c0 := (hc j hlt).1
      clear hc
      have n0 := row_cell 0 KN.here
      have n1 := row_cell 1 KN.here
      have q0 := i64_id (x := (k : Int)) (by omega)
      have HFR := Lib.hid (fun N : Nat => l02Free_off gf gd Tf od m _ n c P R D k j (wr.drewN N) hm hk hlt hn (HRR.out j hlt) HD.out (KF.at (below_drewN (Below.refl _ _) N)) (KD.at (below_drewN (Below.refl _ _) N)) (KH.at (below_drewN (Below.refl _ _) N)))
      by_cases hpj : P j = p
      · cases hf : frB m R D k j
        · have HX := Lib.hid (HHE.out hf)
          rw [hf] at HFR
          go_wp2
          go_quiet ((go_at_call 158; exact q_same (HFR.out _)))
          go_wp2
          go_roundw
          case rel => exact ⟨below_drewN hb _, j + 1, by omega, by go_num, by rw [HX.out]; exact HOWN.out.below (below_drewN (Below.refl _ _) _)⟩
          case measure => simp [intOf]; omega
        · have HX := Lib.hid (HY.out hpj hf)
          rw [hf] at HFR
          go_wp2
          go_quiet ((go_at_call 158; exact q_same (HFR.out _)))
          have hbV := below_drewN hb nq
          have HO3 := Lib.hid (HOWN.out.below (below_drewN (Below.refl _ _) nq))
          generalize wr.drewN nq = V at hbV HO3 ⊢
          have hsz4 := hbV.size
          have hlen := HLEN.out
          go_wp2_with (at_builtin; refine append_int rfl _ _ rfl W.heap.size _ (frL m P R D k p j) rfl (HO3.out.alloc _) V.heap.size (j : Int) rfl (by simp) (by omega) (by simp; omega) ?_; intro v2 w5 hown2 hb5; have HO5 := Lib.hid hown2; have HB5 := Lib.hid hb5; clear hown2 hb5)
          go_roundw
          case rel => exact ⟨(hbV.alloc hsz4 _).trans HB5.out, j + 1, by omega, by go_num, by rw [HX.out]; exact HO5.out⟩
          case measure => simp [intOf]; omega
      · have HX := Lib.hid (HPI.out hpj)
        go_wp2
        go_quiet (fail)
        go_wp2
        go_roundw
        case rel => exact ⟨below_drewN hb _, j + 1, by omega, by go_num, by rw [HX.out]; exact HOWN.out.below (below_drewN (Below.refl _ _) _)⟩
        case measure => simp [intOf]; omega
    · have hjn : n = j := by omega
      subst hjn
      go_wp2
      go_ret
      exact ⟨_, rfl, KB.here, HOWN.out.mono hws⟩

/-! The program's block of a search: its cells, what is written. No conditions. -/
/-! ### all blocks but one -/
/-- all blocks but one are as they were, and so is all else -/
def KeepO (g : Nat) (w V : World) : Prop := w.heap.size ≤ V.heap.size ∧ (∀ j, j ≠ g → j < w.heap.size → V.heap[j]? = w.heap[j]?) ∧ V.os = w.os ∧ V.tape = w.tape ∧ V.output = w.output
section
variable {g : Nat} {w V U : World}
theorem KeepO.of (h : Below w.heap.size w V) : KeepO g w V := ⟨h.size, fun j _ hj => h.block j hj, h.os, h.tape, h.output⟩
theorem KeepO.trans (h : KeepO g w V) (h2 : KeepO g V U) : KeepO g w U := ⟨Nat.le_trans h.1 h2.1, fun j a hl => (h2.2.1 j a (Nat.lt_of_lt_of_le hl h.1)).trans (h.2.1 j a hl), h2.2.2.1.trans h.2.2.1, h2.2.2.2.1.trans h.2.2.2.1, h2.2.2.2.2.trans h.2.2.2.2⟩
theorem KeepO.refl (w : World) : KeepO g w w := ⟨Nat.le_refl _, fun _ _ _ => rfl, rfl, rfl, rfl⟩
theorem KeepO.row (h : KeepO g w V) {x : Nat} {o : Obj} (hx : w.heap[x]? = some o) (a : x ≠ g) : V.heap[x]? = some o := (h.2.1 x a (Array.getElem?_eq_some_iff.1 hx).1).trans hx
theorem KeepO.own {base : Nat} {v : Value} {l : List Int} (h : KeepO g w V) (ho : OwnI w base v l) (a : g < base) : OwnI V base v l := by
  obtain ⟨hl, ho⟩ := ho
  refine ⟨hl, ?_⟩
  rcases ho with h0 | ⟨x, cap, cur, rfl, hg, hb, h2⟩
  · exact .inl h0
  · exact .inr ⟨x, cap, cur, rfl, hg, h.row hb (by omega), h2⟩
theorem KeepO.setCell (h : KeepO g w V) (k : Nat) (v : Value) : KeepO g w (V.setCell ⟨g, k, none⟩ v) := ⟨by have := h.1; simpa using this, fun j a hj => (heap_setCell_other _ _ j _ a).trans (h.2.1 j a hj), h.2.2.1, h.2.2.2.1, h.2.2.2.2⟩
theorem KeepO.setRow (h : KeepO g w V) (cs : Array Value) : KeepO g w (V.setRow g cs) := ⟨by have := h.1; simpa using this, fun j a hj => (setRow_other V g j cs a).trans (h.2.1 j a hj), h.2.2.1, h.2.2.2.1, h.2.2.2.2⟩
theorem KeepO.setCells (vs : List Value) : ∀ {o : Nat} {V : World}, KeepO g w V → KeepO g w (V.setCells g o vs) := by
  induction vs with
  | nil => intro o V h; exact h
  | cons v r ih => intro o V h; rw [World.setCells]; exact ih (h.setCell _ _)
theorem KeepO.below {B : Nat} {w0 : World} (h : KeepO g w V) (hb : Below B w0 w) (hg : B ≤ g) (hB : B ≤ w.heap.size) : Below B w0 V := hb.trans ⟨h.2.2.1, h.2.2.2.1, h.2.2.2.2, h.1, fun j hj => h.2.1 j (by omega) (by omega)⟩
end
theorem below_self {w V : World} {B : Nat} (h : Below w.heap.size w V) (hB : B ≤ w.heap.size) : Below B w V := h.mono hB
/-- a drum is stored in a block -/
theorem blk_drum {w : World} {T g N : Nat} {f : Nat → Value} (h : BlkAt w T g N f) (o : Nat) (hN : o + 96 ≤ N) (E : Nat → Nat) : BlkAt (w.setCells g o (dc E).toList) T g N (fun i => if o ≤ i ∧ i < o + 96 then .int .u32 (E (i - o)) else f i) := by
  obtain ⟨f', hf'⟩ := blk_setCells (dc E).toList h (by rw [Array.length_toList, dc_size]; exact hN)
  refine hf'.congr fun k hk => ?_
  have hc := hf'.cell k hk
  by_cases hi : o ≤ k ∧ k < o + 96
  · have h1 := drum_same E (there_part h.there o 96 hN) (k - o) (by omega)
    rw [show o + (k - o) = k by omega, hc] at h1
    rw [if_pos hi]
    exact Option.some.inj h1
  · have h1 := World.rangeAt_setCells_apart (w := w) (b' := g) (o' := k) (cs := [f k]) (fun j v hv => by
      match j, hv with
      | 0, hv => simp at hv; subst hv; simpa using h.cell k hk) g o (dc E).toList (by have := dc_size E; simp [this]; omega) 0 (f k) rfl
    rw [Nat.add_zero, hc] at h1
    rw [if_neg hi]
    exact Option.some.inj h1
theorem kp_blk {w : World} {T g N : Nat} {f : Nat → Value} (h : BlkAt w T g N f) : Kp w (fun V => BlkAt V T g N f) := Kp.mk fun _ hb => h.below hb h.lt
/-! ### the program's block -/
/-- the cells of the program's block -/
def pnC (s : Int) (a : Option Addr) (n c : Nat) (q : Option Addr) (l e0 : Nat) (E : Nat → Nat) (budget : Int) (like : Bool) (st : PnSt) : Nat → Value := fun i =>
  if i = 0 then .int .i16 s else if i = 1 then .slice a n c else if i = 2 then .slice q l e0 else if i < 99 then .int .u32 (E (i - 3)) else if i = 99 then .int .i64 budget else if i = 100 then .int .i64 st.tries else if i = 101 then .bool st.over
  else if i = 102 then .bool st.found else if i = 103 then .int .i64 st.most else if i < 200 then .int .u32 (st.best (i - 104)) else .bool like
/-- the program's block of a search -/
def PnAt (w : World) (g : Nat) (s : Int) (a : Option Addr) (n c : Nat) (q : Option Addr) (l e0 : Nat) (E : Nat → Nat) (budget : Int) (like : Bool) (st : PnSt) : Prop := BlkAt w 141 g 201 (pnC s a n c q l e0 E budget like st)
section
variable {w V : World} {g : Nat} {s : Int} {a : Option Addr} {n c : Nat} {q : Option Addr} {l e0 : Nat} {E : Nat → Nat} {budget : Int} {like : Bool} {st : PnSt}
theorem PnAt.lt (h : PnAt w g s a n c q l e0 E budget like st) : g < w.heap.size := BlkAt.lt h
theorem PnAt.frozen (h : PnAt w g s a n c q l e0 E budget like st) (k : Nat) : w.frozen? ⟨g, k, none⟩ = false := BlkAt.frozen h k
theorem PnAt.below {B : Nat} (h : PnAt w g s a n c q l e0 E budget like st) (hb : Below B w V) (hg : g < B) : PnAt V g s a n c q l e0 E budget like st := BlkAt.below h hb hg
theorem kp_pn (h : PnAt w g s a n c q l e0 E budget like st) : Kp w (fun V => PnAt V g s a n c q l e0 E budget like st) := Kp.mk fun _ hb => h.below hb h.lt
theorem PnAt.c0 (h : PnAt w g s a n c q l e0 E budget like st) : w.cell? ⟨g, 0, none⟩ = some (.int .i16 s) := BlkAt.cell h 0 (by decide)
theorem PnAt.c1 (h : PnAt w g s a n c q l e0 E budget like st) : w.cell? ⟨g, 1, none⟩ = some (.slice a n c) := BlkAt.cell h 1 (by decide)
theorem PnAt.c2 (h : PnAt w g s a n c q l e0 E budget like st) : w.cell? ⟨g, 2, none⟩ = some (.slice q l e0) := BlkAt.cell h 2 (by decide)
theorem PnAt.c99 (h : PnAt w g s a n c q l e0 E budget like st) : w.cell? ⟨g, 99, none⟩ = some (.int .i64 budget) := BlkAt.cell h 99 (by decide)
theorem PnAt.c100 (h : PnAt w g s a n c q l e0 E budget like st) : w.cell? ⟨g, 100, none⟩ = some (.int .i64 st.tries) := BlkAt.cell h 100 (by decide)
theorem PnAt.c101 (h : PnAt w g s a n c q l e0 E budget like st) : w.cell? ⟨g, 101, none⟩ = some (.bool st.over) := BlkAt.cell h 101 (by decide)
theorem PnAt.c102 (h : PnAt w g s a n c q l e0 E budget like st) : w.cell? ⟨g, 102, none⟩ = some (.bool st.found) := BlkAt.cell h 102 (by decide)
theorem PnAt.c103 (h : PnAt w g s a n c q l e0 E budget like st) : w.cell? ⟨g, 103, none⟩ = some (.int .i64 st.most) := BlkAt.cell h 103 (by decide)
theorem PnAt.c200 (h : PnAt w g s a n c q l e0 E budget like st) : w.cell? ⟨g, 200, none⟩ = some (.bool like) := BlkAt.cell h 200 (by decide)
theorem PnAt.old (h : PnAt w g s a n c q l e0 E budget like st) : DrumCells w g 3 E := fun k hk => by
  rw [BlkAt.cell h (3 + k) (by omega)]
  unfold pnC
  rw [if_neg (by omega), if_neg (by omega), if_neg (by omega), if_pos (by omega), show 3 + k - 3 = k by omega]
theorem PnAt.best (h : PnAt w g s a n c q l e0 E budget like st) : DrumCells w g 104 st.best := fun k hk => by
  rw [BlkAt.cell h (104 + k) (by omega)]
  unfold pnC
  rw [if_neg (by omega), if_neg (by omega), if_neg (by omega), if_neg (by omega), if_neg (by omega), if_neg (by omega), if_neg (by omega), if_neg (by omega), if_neg (by omega), if_pos (by omega), show 104 + k - 104 = k by omega]
theorem PnAt.frame (h : PnAt w g s a n c q l e0 E budget like st) : w.rangeAt g 0 [.int .i16 s, .slice a n c] := fun j v hv => by
  match j, hv with
  | 0, hv => simp at hv; subst hv; exact h.c0
  | 1, hv => simp at hv; subst hv; exact h.c1
theorem PnAt.tick (h : PnAt w g s a n c q l e0 E budget like st) : PnAt (w.setCell ⟨g, 100, none⟩ (.int .i64 (st.tries + 1))) g s a n c q l e0 E budget like (pnTick st) := by
  refine (BlkAt.setCell h 100 _ (by decide)).congr fun k hk => ?_
  unfold updV
  by_cases e : k = 100
  · subst e; rfl
  · rw [if_neg e]
    unfold pnC
    rw [if_neg e, if_neg e]
    rfl
theorem PnAt.over (h : PnAt w g s a n c q l e0 E budget like st) : PnAt (w.setCell ⟨g, 101, none⟩ (.bool true)) g s a n c q l e0 E budget like (pnOver st) := by
  refine (BlkAt.setCell h 101 _ (by decide)).congr fun k hk => ?_
  unfold updV
  by_cases e : k = 101
  · subst e; rfl
  · rw [if_neg e]
    unfold pnC
    rw [if_neg e, if_neg e]
    rfl
theorem PnAt.found (h : PnAt w g s a n c q l e0 E budget like st) (D : Nat → Nat) (own : Int) : PnAt (((w.setCells g 104 (dc D).toList).setCell ⟨g, 102, none⟩ (.bool true)).setCell ⟨g, 103, none⟩ (.int .i64 own)) g s a n c q l e0 E budget like (pnFound D own st) := by
  refine (BlkAt.setCell (BlkAt.setCell (blk_drum h 104 (by decide) D) 102 _ (by decide)) 103 _ (by decide)).congr fun k hk => ?_
  unfold updV
  by_cases e3 : k = 103
  · subst e3; rfl
  · rw [if_neg e3]
    by_cases e2 : k = 102
    · subst e2; rfl
    · rw [if_neg e2]
      show (if 104 ≤ k ∧ k < 104 + 96 then Value.int .u32 (D (k - 104)) else pnC s a n c q l e0 E budget like st k) = _
      by_cases e : 104 ≤ k ∧ k < 104 + 96
      · rw [if_pos e]
        unfold pnC
        rw [if_neg (by omega), if_neg (by omega), if_neg (by omega), if_neg (by omega), if_neg (by omega), if_neg (by omega), if_neg (by omega), if_neg (by omega), if_neg (by omega), if_pos (by omega)]
        rfl
      · rw [if_neg e]
        unfold pnC
        by_cases e4 : k < 99
        · by_cases e5 : k = 0
          · rw [if_pos e5, if_pos e5]
          · rw [if_neg e5, if_neg e5]
            by_cases e6 : k = 1
            · rw [if_pos e6, if_pos e6]
            · rw [if_neg e6, if_neg e6]
              by_cases e7 : k = 2
              · rw [if_pos e7, if_pos e7]
              · rw [if_neg e7, if_neg e7, if_pos e4, if_pos e4]
        · by_cases e8 : k = 99
          · subst e8; rfl
          · by_cases e9 : k = 100
            · subst e9; rfl
            · by_cases e10 : k = 101
              · subst e10; rfl
              · have e11 : k = 200 := by omega
                subst e11; rfl
theorem PnAt.room (h : PnAt w g s a n c q l e0 E budget like st) : w.there g 104 96 := there_part (BlkAt.there h) 104 96 (by decide)
theorem PnAt.behind (h : PnAt w g s a n c q l e0 E budget like st) (D : Nat → Nat) : let V := w.setCells g 104 (dc D).toList; V.cell? ⟨g, 102, none⟩ = some (.bool st.found) ∧ V.cell? ⟨g, 103, none⟩ = some (.int .i64 st.most) ∧ V.frozen? ⟨g, 102, none⟩ = false ∧ V.frozen? ⟨g, 103, none⟩ = false := by
  have h2 := blk_drum h 104 (by decide) D
  exact ⟨h2.cell 102 (by decide), h2.cell 103 (by decide), h2.frozen 102, h2.frozen 103⟩
theorem PnAt.keep {x : Nat} (h : PnAt w g s a n c q l e0 E budget like st) (hk : KeepO x w V) (hne : g ≠ x) : PnAt V g s a n c q l e0 E budget like st := hk.row h hne
end
attribute [irreducible] pnC PnAt
section
variable {ops : Array Oper} {rest : List Oper} {o : Oper} {a : Act} {w : World} {Q : Exit → Act → World → Prop}
theorem ex_load_iframe_mid {o : Oper} {a : Act} {W : World} (x : Operand) (ho : o.op = .load 27 x) (g p : Nat) (hx : a.eval x = .pointer (some ⟨g, p, none⟩)) (s : Int) (ad : Option Addr) (n c : Nat)
    (hg : W.rangeAt g p [.int .i16 s, .slice ad n c]) : (execOp a.eval o).run Try.prog W = .ok (.value (.agg #[.int .i16 s, .slice ad n c])) W := by
  have h := run_loadVar_mid (P := Try.prog) W g p 27 [.int .i16 s, .slice ad n c] _ hg Try.underlying27 rfl (by kernel_rfl)
  unfold execOp
  simp only [ho, hx, Instr.loadAt, Instr.sureAddr, Sem.run_bind, Sem.run_pure, Result.andThen_ok, h]
end
end Go.Proofs.Ytpfjmoodfodfhaa
