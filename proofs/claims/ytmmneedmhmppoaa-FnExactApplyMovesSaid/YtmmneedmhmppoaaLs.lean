/- Pins are listed; the moves between two drums. No conditions. -/
import Derived.Test.YtmmneedmhmppoaaOwnP
import Derived.Test.YtmmneedmhmppoaaOwnG
import Derived.Test.YtmmneedmhmppoaaCost
import Derived.Test.YtmmneedmhmppoaaCC
import Derived.Outline
namespace Go.Proofs.Ytmmneedmhmppoaa
open Go.RowKit
set_option linter.unusedVariables false
set_option linter.unusedSimpArgs false

/-- the places of which p holds, of the first j ones (by the step, then by the track; n tracks) -/
def plL (p : Nat → Nat → Bool) (n : Nat) : Nat → List (Int × Int)
  | 0 => []
  | j + 1 => if p (j / n) (j % n) then plL p n j ++ [(((j / n : Nat) : Int), ((j % n : Nat) : Int))] else plL p n j
theorem plL_zero (p : Nat → Nat → Bool) (n : Nat) : plL p n 0 = [] := rfl
theorem plL_yes {p : Nat → Nat → Bool} {n k t : Nat} (ht : t < n) (h : p k t = true) : plL p n (k * n + t + 1) = plL p n (k * n + t) ++ [((k : Int), (t : Int))] := by
  have e : plL p n (k * n + t + 1) = if p ((k * n + t) / n) ((k * n + t) % n) then plL p n (k * n + t) ++ [((((k * n + t) / n : Nat) : Int), (((k * n + t) % n : Nat) : Int))] else plL p n (k * n + t) := rfl
  rw [e, (place_div ht).1, (place_div ht).2, h]
  rfl
theorem plL_no {p : Nat → Nat → Bool} {n k t : Nat} (ht : t < n) (h : p k t = false) : plL p n (k * n + t + 1) = plL p n (k * n + t) := by
  have e : plL p n (k * n + t + 1) = if p ((k * n + t) / n) ((k * n + t) % n) then plL p n (k * n + t) ++ [((((k * n + t) / n : Nat) : Int), (((k * n + t) % n : Nat) : Int))] else plL p n (k * n + t) := rfl
  rw [e, (place_div ht).1, (place_div ht).2, h]
  rfl
theorem plL_len (p : Nat → Nat → Bool) (n j : Nat) : (plL p n j).length ≤ j := by
  induction j with
  | zero => simp [plL]
  | succ j ih =>
    rw [plL]
    split
    · simp; omega
    · omega
theorem plL_congr {p q : Nat → Nat → Bool} {n : Nat} : ∀ j, (∀ i, i < j → p (i / n) (i % n) = q (i / n) (i % n)) → plL p n j = plL q n j := by
  intro j
  induction j with
  | zero => intro _; rfl
  | succ j ih =>
    intro h
    have e1 : plL p n (j + 1) = if p (j / n) (j % n) then plL p n j ++ [(((j / n : Nat) : Int), ((j % n : Nat) : Int))] else plL p n j := rfl
    have e2 : plL q n (j + 1) = if q (j / n) (j % n) then plL q n j ++ [(((j / n : Nat) : Int), ((j % n : Nat) : Int))] else plL q n j := rfl
    rw [e1, e2, ih fun i hi => h i (by omega), h j (by omega)]
theorem place_lt {s n k t : Nat} (hk : k < s) (ht : t < n) : k * n + t < s * n := by
  have := Nat.mul_le_mul_right n (show k + 1 ≤ s by omega)
  rw [Nat.add_mul, Nat.one_mul] at this
  omega
theorem place_bound {s n : Nat} (hs : s ≤ 96) (hn : n ≤ 24) : s * n ≤ 2304 := Nat.mul_le_mul hs hn
attribute [irreducible] plL
theorem hasPin_less (D E : Nat → Nat) (k t : Nat) : hasPin (lessD D E) k t = (hasPin D k t && !hasPin E k t) := by
  unfold hasPin lessD
  exact andn_testBit _ _ _
theorem hasPin_valid {s : Int} {n : Nat} {D : Nat → Nat} (h : vDrum s n D = true) (hs : 2 ≤ s ∧ s ≤ 96) : (∀ k t, k < 96 → n ≤ t → hasPin D k t = false) ∧ ∀ k t, k < 96 → s.toNat ≤ k → hasPin D k t = false := by
  have hv := vDrum_iff.1 h
  constructor
  · intro k t hk ht
    rw [hasPin_mod]
    have h1 : D k < 2 ^ n := by
      have := (hv k hk).1
      rcases Nat.lt_or_ge (D k) (2 ^ n) with h2 | h2
      · exact h2
      · have := Nat.div_pos h2 (Nat.two_pow_pos n); omega
    have h3 : D k / 2 ^ t = 0 := Nat.div_eq_of_lt (Nat.lt_of_lt_of_le h1 (Nat.pow_le_pow_right (by omega) ht))
    rw [h3]; rfl
  · intro k t hk hks
    rw [hasPin_mod, (hv k hk).2 (by omega), Nat.zero_div]; rfl
set_option maxRecDepth 100000 in
theorem listed1_any (go base : Nat) (v : Value) (l : List (Int × Int)) (k t : Nat) (W : World) (hk : k < 96) (ht : t < 24) (hgo : W.heap[go]? = some (.cells #[v] 55 (0, 0))) (hown : OwnP W base v l) (hl : l.length ≤ 10000) (hbase : base ≤ W.heap.size) :
    Calls Try.prog 144 #[.int .i64 (k : Int), .int .i64 (t : Int), .pointer (some ⟨go, 0, none⟩)] W fun e W' => e = .returned (.tuple #[]) ∧ KeepT 129 55 W W' ∧ (∀ B, B ≤ base → B ≤ go → Below B W W') ∧ ∃ v', W'.heap[go]? = some (.cells #[v'] 55 (0, 0)) ∧ OwnP W' base v' (l ++ [((k : Int), (t : Int))]) := by
  obtain ⟨b, c, rfl⟩ := OwnL.form hown
  have c0 := row_cell 0 hgo
  have HGO := Lib.hid hgo; have HOWN := Lib.hid hown; have HL := Lib.hid hl; have HB := Lib.hid hbase
  clear hgo hown
  obtain ⟨n, hn⟩ : ∃ n, l.length = n := ⟨_, rfl⟩
  rw [hn] at c0 HGO HOWN hl
  have HN := Lib.hid hn; clear hn
  obtain ⟨o1, ho1⟩ : ∃ o : Obj, o = .cells #[.int .i64 (k : Int), .int .i64 (t : Int)] 129 := ⟨_, rfl⟩
  have HW1 := Lib.hid (show (W.alloc o1).heap[go]? = some (.cells #[.slice b n c] 55 (0, 0)) from (heap_alloc_old W o1 (row_lt HGO.out)).trans HGO.out)
  rw [ho1] at HW1
  clear ho1 o1
  go_enter Try.func144, Try.ntmps144
  go_wp2_with (at_builtin; go_loud (refine append_Lg Try.underlying55 infoP2 rfl (by decide) (by decide) encP_len encP_one rfl _ _ rfl base _ l rfl (OwnP.alloc HOWN.out _) ⟨W.heap.size, 0, none⟩ 1 1 [((k : Int), (t : Int))] rfl rfl (one_cells (heap_alloc_new W _)) (by rw [HN.out]; omega) (Nat.le_trans HB.out (by simp)) ?_; intro v2 w2 hown2 hg2; obtain ⟨b2, c3, hv2⟩ := OwnL.form hown2; obtain ⟨n2, hn2⟩ : ∃ m, (l ++ [((k : Int), (t : Int))]).length = m := ⟨_, rfl⟩; rw [hn2] at hv2; subst hv2; clear hn2; have HO2 := Lib.hid hown2; have HG2 := Lib.hid hg2; have HR2 := Lib.hid (show w2.heap[go]? = some (.cells #[.slice b n c] 55 (0, 0)) from (keep_grown (T2 := 129) (OwnP.alloc HOWN.out _) hg2).2 go _ _ _ HW1.out (by decide) (by decide)); have c2 := row_cell 0 HR2.out; have f2 := frozen_of_row w2 go 0 _ _ HR2.out; clear hown2 hg2 c0))
  go_end0
  refine ⟨rfl, ((keep_alloc _ _ W _).trans (keep_grown (T2 := 55) (OwnP.alloc HOWN.out _) HG2.out)).trans (keep_set HR2.out _), fun B h1 h2 => ?_, _, heap_setCell_same w2 go 0 _ _ _ HR2.out, own_set HO2.out HR2.out (by decide) _⟩
  have ho := OwnP.alloc HOWN.out (.cells #[.int .i64 (k : Int), .int .i64 (t : Int)] 129)
  have hbw : B ≤ W.heap.size := Nat.le_trans h1 HB.out
  have ha : Below B W (W.alloc (.cells #[.int .i64 (k : Int), .int .i64 (t : Int)] 129)) := (Below.refl _ _).alloc hbw _
  exact (ha.trans (below_grown HG2.out (by simp; omega) (fun x hx => Nat.le_trans h1 (OwnP.lt ho x hx).1))).setCell h2 _
/-- what holds while the pins are listed -/
def LsInv (w : World) (go : Nat) (p : Nat → Nat → Bool) (n j : Nat) (W : World) : Prop :=
  Below w.heap.size w W ∧ w.heap.size ≤ go ∧ ∃ v, W.heap[go]? = some (.cells #[v] 55 (0, 0)) ∧ OwnP W w.heap.size v (plL p n j)
set_option maxRecDepth 100000 in
theorem listed_any (s : Int) (a : Option Addr) (n c : Nat) (D : Nat → Nat) (w : World) (hs : 2 ≤ s ∧ s ≤ 96) (hn : 1 ≤ n ∧ n ≤ 24) (hD : D32 D) :
    Calls Try.prog 92 #[.agg #[.int .i16 s, .slice a n c], .agg (dc D)] w fun e w' => ∃ v, e = .returned v ∧ Below w.heap.size w w' ∧ OwnP w' w.heap.size v (plL (hasPin D) n (s.toNat * n)) := by
  have HD := Lib.hid hD; clear hD
  have KB := Kp.base w
  replace KB := KB.alloc (.cells #[.int .i16 s, .slice a n c] 43)
  have KF := kp_new1 w #[.int .i16 s, .slice a n c] 43 (g := w.heap.size) (by simp)
  replace KB := KB.alloc (.cells (dc D) 45)
  replace KF := KF.alloc (.cells (dc D) 45)
  have KD := kp_newd (w.alloc (.cells #[.int .i16 s, .slice a n c] 43)) (D) 45 (g := w.heap.size + 1) (by simp)
  have HZ := Lib.hid (show ((w.alloc (.cells #[.int .i16 s, .slice a n c] 43)).alloc (.cells (dc D) 45)).heap.size = w.heap.size + 1 + 1 by simp)
  go_enter Try.func92, Try.ntmps92
  go_wp2_with (first | (with_reducible refine load_iframe rfl _ rfl w.heap.size rfl _ s a n c ((KF.alloc _).alloc _).here ?_) | (with_reducible refine load_drum rfl _ rfl (w.heap.size + 1) rfl _ D ((KD.alloc _).alloc _).here ?_))
  have hb0 : Below w.heap.size w ((((w.alloc (.cells #[.int .i16 s, .slice a n c] 43)).alloc (.cells (dc D) 45)).alloc (.cells #[] 129)).alloc (.cells #[.slice (some ⟨w.heap.size + 1 + 1, 0, none⟩) 0 0] 55)) := (((KB.alloc _).alloc _)).here
  have h0 : LsInv w (w.heap.size + 1 + 1 + 1) (hasPin D) n 0 ((((w.alloc (.cells #[.int .i16 s, .slice a n c] 43)).alloc (.cells (dc D) 45)).alloc (.cells #[] 129)).alloc (.cells #[.slice (some ⟨w.heap.size + 1 + 1, 0, none⟩) 0 0] 55)) := by
    refine ⟨hb0, by omega, .slice (some ⟨w.heap.size + 1 + 1, 0, none⟩) 0 0, ?_, ?_⟩
    · have h := heap_alloc_new (((w.alloc (.cells #[.int .i16 s, .slice a n c] 43)).alloc (.cells (dc D) 45)).alloc (.cells #[] 129)) (.cells #[.slice (some ⟨w.heap.size + 1 + 1, 0, none⟩) 0 0] 55)
      simpa using h
    · rw [plL_zero]
      have h := OwnL.nil (T := 129) (sz := 2) (enc := encP) ((w.alloc (.cells #[.int .i16 s, .slice a n c] 43)).alloc (.cells (dc D) 45)) w.heap.size (by simp; omega)
      rw [show ((w.alloc (.cells #[.int .i16 s, .slice a n c] 43)).alloc (.cells (dc D) 45)).heap.size = w.heap.size + 1 + 1 by simp] at h
      exact OwnP.alloc h _
  refine (pins_any 129 55 s a n c D 144 #[.pointer (some ⟨w.heap.size + 1 + 1 + 1, 0, none⟩)] (LsInv w (w.heap.size + 1 + 1 + 1) (hasPin D) n) _ hs hn HD.out ⟨by decide, by decide⟩ ⟨by decide, by decide⟩ (call_enter _ _ Try.func144 (by kernel_rfl) (by kernel_rfl)) ?_ ?_ ?_ h0).mono ?_
  · rintro j k t W hk ht rfl hp ⟨hb, hgo, v, hc, hown⟩
    have hlen := plL_len (hasPin D) n (k * n + t)
    have hj := place_lt (s := s.toNat) (by omega : k < s.toNat) ht
    have hj2 := place_bound (s := s.toNat) (n := n) (by omega) (by omega)
    refine (listed1_any _ w.heap.size v _ k t W (by omega) (by omega) hc hown (by omega) hb.size).mono ?_
    rintro e W' ⟨rfl, hkp, hbl, v', hc', hown'⟩
    exact ⟨rfl, ⟨hb.trans (hbl _ (Nat.le_refl _) hgo), hgo, v', hc', by rw [plL_yes ht hp]; exact hown'⟩, hkp⟩
  · rintro j k t W hk ht rfl hp ⟨hb, hgo, v, hc, hown⟩
    exact ⟨hb, hgo, v, hc, by rw [plL_no ht hp]; exact hown⟩
  · rintro j W W' ⟨hb, hgo, v, hc, hown⟩ hb2
    exact ⟨hb.trans (hb2.mono hb.size), hgo, v, (hb2.block _ (row_lt hc)).trans hc, OwnP.below hown hb2⟩
  · rintro e w2 ⟨rfl, ⟨hb, hgo, v, hc, hown⟩, _⟩
    have c0 := row_cell 0 hc
    obtain ⟨b, c2, rfl⟩ := OwnL.form hown
    have HO := Lib.hid hown; have HC := Lib.hid hc; clear hown hc
    clear h0
    go_wp2
    go_ret
    exact ⟨_, rfl, hb, HO.out⟩
set_option maxRecDepth 100000 in
set_option maxHeartbeats 1000000 in
theorem l03Only_any (gf ga gb Tf Ta Tb : Nat) (s : Int) (a : Option Addr) (n c : Nat) (D E : Nat → Nat) (w : World) (hs : 2 ≤ s ∧ s ≤ 96) (hn : 1 ≤ n ∧ n ≤ 24) (hD : D32 D) (hE : D32 E)
    (hf : w.heap[gf]? = some (.cells #[.int .i16 s, .slice a n c] Tf (0, 0))) (ha : DrumAt w Ta ga D) (hb : DrumAt w Tb gb E) :
    Calls Try.prog 91 #[.pointer (some ⟨gf, 0, none⟩), .pointer (some ⟨ga, 0, none⟩), .pointer (some ⟨gb, 0, none⟩)] w fun e w' => ∃ v, e = .returned v ∧ Below w.heap.size w w' ∧ OwnP w' w.heap.size v (plL (hasPin (lessD D E)) n (s.toNat * n)) := by
  have HD := Lib.hid hD; have HE := Lib.hid hE; clear hD hE
  have KF := kp_row hf; have KA := kp_drum ha; have KC := kp_drum hb; clear hf ha hb
  have hn0 : OwnP (w.alloc (.cells #[] 129)) w.heap.size (.slice (some ⟨w.heap.size, 0, none⟩) 0 0) (plL (hasPin (lessD D E)) n 0) := by rw [plL_zero]; exact OwnL.nil w w.heap.size (Nat.le_refl _)
  have HN0 := Lib.hid hn0; clear hn0
  go_enter Try.func91, Try.ntmps91
  go_wp2
  go_loopw [7, 8] (fun v i w' => Below w.heap.size w w' ∧ ∃ k : Nat, (k : Int) ≤ s ∧ i = .int .i64 k ∧ OwnP w' w.heap.size v (plL (hasPin (lessD D E)) n (k * n))) (fun _ i _ => (s - intOf i).toNat)
  case atStart => exact ⟨(Below.refl _ _).alloc (Nat.le_refl _) _, 0, by omega, rfl, by rw [Nat.zero_mul]; exact HN0.out⟩
  case round =>
    clear HN0
    obtain ⟨hb, k, hk, rfl, hown⟩ := hrel
    have HOWN := Lib.hid hown; clear hown
    have f0 := row_cell 0 (KF.at hb)
    by_cases hlt : (k : Int) < s
    · go_wp2
      go_loopw [7, 9] (fun v i w' => Below w.heap.size w w' ∧ ∃ t : Nat, t ≤ n ∧ i = .int .i64 t ∧ OwnP w' w.heap.size v (plL (hasPin (lessD D E)) n (k * n + t))) (fun _ i _ => n - (intOf i).toNat)
      case atStart => exact ⟨hb, 0, by omega, rfl, HOWN.out⟩
      case round =>
        clear HOWN f0 hb
        obtain ⟨hb, t, ht, rfl, hown⟩ := hrel
        have HOWN := Lib.hid hown; clear hown
        have f1 := row_cell 1 (KF.at hb)
        by_cases hlt2 : t < n
        · have ht' : (t : Int) < n := by omega
          have HA := Lib.hid (KA.at hb); have HC := Lib.hid (KC.at hb)
          have hl := hasPin_less D E k t
          have hsz := hb.size
          cases hp : hasPin D k t
          · rw [hp, Bool.false_and] at hl
            have hy := Lib.hid (plL_no hlt2 hl)
            clear hl
            go_wp2_with (go_at_call 143; refine (l02Pin_any ga Ta D k t _ HD.out (by omega) (by omega) HA.out).mono ?_; rw [hp]; rintro e w2 ⟨rfl, rfl⟩)
            go_roundw
            case rel => exact ⟨hb, t + 1, by omega, by go_num, by rw [← Nat.add_assoc, hy.out]; exact HOWN.out⟩
            case measure => simp [intOf]; omega
          · cases hq : hasPin E k t
            · rw [hp, hq] at hl
              have hy := Lib.hid (plL_yes hlt2 (show hasPin (lessD D E) k t = true from hl))
              clear hl
              have hlen := plL_len (hasPin (lessD D E)) n (k * n + t)
              have hj := place_lt (s := s.toNat) (by omega : k < s.toNat) hlt2
              have hj2 := place_bound (s := s.toNat) (n := n) (by omega) (by omega)
              have HLEN := Lib.hid (show (plL (hasPin (lessD D E)) n (k * n + t)).length ≤ 3000 by omega)
              clear hlen hj hj2
              have hb1 := hb.alloc hsz (.cells #[.int .i64 (k : Int), .int .i64 (t : Int)] 129)
              go_wp2_with (first | (go_at_call 143; first | ((with_reducible refine (l02Pin_any ga Ta D k t _ HD.out (by omega) (by omega) HA.out).mono ?_); rw [hp]; rintro e w2 ⟨rfl, rfl⟩) | ((with_reducible refine (l02Pin_any gb Tb E k t _ HE.out (by omega) (by omega) HC.out).mono ?_); rw [hq]; rintro e w2 ⟨rfl, rfl⟩)) | (at_builtin; refine append_pairs rfl _ _ rfl w.heap.size _ (plL (hasPin (lessD D E)) n (k * n + t)) rfl (OwnP.alloc HOWN.out _) ⟨wr.heap.size, 0, none⟩ 1 1 [((k : Int), (t : Int))] rfl rfl (one_cells (heap_alloc_new wr _)) (by have := HLEN.out; omega) (by simp; omega) ?_; intro v2 w2 hown2 hb2; have HO2 := Lib.hid hown2; have hb4 := hb1.trans hb2; clear hown2 hb2))
              go_roundw
              case rel => exact ⟨hb4, t + 1, by omega, by go_num, by rw [← Nat.add_assoc, hy.out]; exact HO2.out⟩
              case measure => simp [intOf]; omega
            · rw [hp, hq] at hl
              have hy := Lib.hid (plL_no hlt2 (show hasPin (lessD D E) k t = false from hl))
              clear hl
              go_wp2_with (go_at_call 143; first | ((with_reducible refine (l02Pin_any ga Ta D k t _ HD.out (by omega) (by omega) HA.out).mono ?_); rw [hp]; rintro e w2 ⟨rfl, rfl⟩) | ((with_reducible refine (l02Pin_any gb Tb E k t _ HE.out (by omega) (by omega) HC.out).mono ?_); rw [hq]; rintro e w2 ⟨rfl, rfl⟩))
              go_roundw
              case rel => exact ⟨hb, t + 1, by omega, by go_num, by rw [← Nat.add_assoc, hy.out]; exact HOWN.out⟩
              case measure => simp [intOf]; omega
        · have htn : t = n := by omega
          subst htn
          go_wp2
          go_roundw
          case rel => exact ⟨hb, k + 1, by omega, by go_num, by rw [Nat.add_mul, Nat.one_mul]; exact HOWN.out⟩
          case measure => simp [intOf]; omega
    · have hks : (k : Int) = s := by omega
      go_wp2
      go_ret
      exact ⟨_, rfl, hb, by rw [show s.toNat = k by omega]; exact HOWN.out⟩
/-- two drums as a list -/
def twoL (A B : Nat → Nat) : Nat → Nat → Nat := fun i => if i = 0 then A else B
def ok2 (s : Int) (n : Nat) (P R : Nat → Int) (A B : Nat → Nat) : Bool := okAll s n P R 2 (twoL A B)
theorem ok2_def (s : Int) (n : Nat) (P R : Nat → Int) (A B : Nat → Nat) : ok2 s n P R A B = okAll s n P R 2 (twoL A B) := rfl
theorem ok2_iff {s : Int} {n : Nat} {P R : Nat → Int} {A B : Nat → Nat} : ok2 s n P R A B = true ↔ vFrame s n P R = true ∧ vDrum s n A = true ∧ vDrum s n B = true := by
  rw [ok2_def, okAll_iff]
  constructor
  · rintro ⟨h1, h2⟩; exact ⟨h1, h2 0 (by omega), h2 1 (by omega)⟩
  · rintro ⟨h1, h2, h3⟩
    exact ⟨h1, fun i hi => by
      obtain rfl | rfl : i = 0 ∨ i = 1 := by omega
      · exact h2
      · exact h3⟩
theorem ok2_no {s : Int} {n : Nat} {P R : Nat → Int} {A B : Nat → Nat} (h : ¬ (vFrame s n P R = true ∧ vDrum s n A = true ∧ vDrum s n B = true)) : ok2 s n P R A B = false := by
  rw [← Bool.not_eq_true, ok2_iff]; exact h
attribute [irreducible] ok2
def mbV (s : Int) (n : Nat) (P R : Nat → Int) (A B : Nat → Nat) (C : Nat → Nat) : List (Int × Int) := if ok2 s n P R A B then plL (hasPin C) n (s.toNat * n) else []
theorem mbV_yes {s : Int} {n : Nat} {P R : Nat → Int} {A B C : Nat → Nat} (h : ok2 s n P R A B = true) : mbV s n P R A B C = plL (hasPin C) n (s.toNat * n) := by unfold mbV; rw [h]; rfl
theorem mbV_no {s : Int} {n : Nat} {P R : Nat → Int} {A B C : Nat → Nat} (h : ok2 s n P R A B = false) : mbV s n P R A B C = [] := by unfold mbV; rw [h]; rfl
theorem mbV_len {s : Int} {n : Nat} {P R : Nat → Int} {A B C : Nat → Nat} : (mbV s n P R A B C).length ≤ 1000000 := by
  cases h : ok2 s n P R A B
  · rw [mbV_no h]; simp
  · rw [mbV_yes h]
    have h1 := plL_len (hasPin C) n (s.toNat * n)
    obtain ⟨hS, hN, _⟩ := vFrame_iff.1 (ok2_iff.1 h).1
    have h2 := place_bound (s := s.toNat) (n := n) (by omega) (by omega)
    omega
attribute [irreducible] mbV
end Go.Proofs.Ytmmneedmhmppoaa
