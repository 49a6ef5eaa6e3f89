/- Moves are made, by the reference and by the program. No conditions. -/
import Derived.Test.YtmmneedmhmppoaaAm
import Derived.Outline
namespace Go.Proofs.Ytmmneedmhmppoaa
open Go.RowKit
set_option linter.unusedVariables false
set_option linter.unusedSimpArgs false

/-- two rows of numbers behind each other -/
def jn (m : Nat) (A C : Nat → Int) : Nat → Int := fun i => if i < m then A i else C (i - m)
theorem jn_lt {m : Nat} {A C : Nat → Int} {i : Nat} (h : i < m) : jn m A C i = A i := if_pos h
theorem jn_ge {m : Nat} {A C : Nat → Int} (i : Nat) : jn m A C (m + i) = C i := by unfold jn; rw [if_neg (by omega), Nat.add_sub_cancel_left]
theorem prL_jn {n m : Nat} {A B C D : Nat → Int} : prL n A B ++ prL m C D = prL (n + m) (jn n A C) (jn n B D) := prL_app
attribute [irreducible] jn
theorem any_join {s : Int} {n m1 m2 : Nat} {A B C D : Nat → Int} : anyB (offB s n (jn m1 A C) (jn m1 B D)) (m1 + m2) = (anyB (offB s n A B) m1 || anyB (offB s n C D) m2) := by
  rw [Bool.eq_iff_iff, Bool.or_eq_true, anyB_iff, anyB_iff, anyB_iff]
  constructor
  · rintro ⟨k, hk, h⟩
    by_cases h1 : k < m1
    · rw [offB_def, jn_lt h1, jn_lt h1, ← offB_def] at h
      exact .inl ⟨k, h1, h⟩
    · obtain ⟨i, rfl⟩ : ∃ i, k = m1 + i := ⟨k - m1, by omega⟩
      rw [offB_def, jn_ge, jn_ge, ← offB_def] at h
      exact .inr ⟨i, by omega, h⟩
  · rintro (⟨k, hk, h⟩ | ⟨k, hk, h⟩)
    · exact ⟨k, by omega, by rw [offB_def, jn_lt hk, jn_lt hk, ← offB_def]; exact h⟩
    · exact ⟨m1 + k, by omega, by rw [offB_def, jn_ge, jn_ge, ← offB_def]; exact h⟩
/-- the first j moves can be made: m1 of them take pins out, the others put pins -/
def amB (m1 : Nat) (D : Nat → Nat) (A B : Nat → Int) : Nat → Bool
  | 0 => true
  | j + 1 => amB m1 D A B j && (hasPin (mkD D A B j) (A j).toNat (B j).toNat == decide (j < m1))
section
variable {m1 : Nat} {D : Nat → Nat} {A B : Nat → Int} {j m : Nat}
theorem amB_zero : amB m1 D A B 0 = true := rfl
theorem amB_yes (h : amB m1 D A B j = true) (h2 : hasPin (mkD D A B j) (A j).toNat (B j).toNat = decide (j < m1)) : amB m1 D A B (j + 1) = true := by simp [amB, h, h2]
theorem amB_mono (h : amB m1 D A B j = false) (i : Nat) : amB m1 D A B (j + i) = false := by
  induction i with
  | zero => exact h
  | succ i ih => rw [← Nat.add_assoc]; simp [amB, ih]
theorem amB_no (hj : j < m) (h2 : hasPin (mkD D A B j) (A j).toNat (B j).toNat = !decide (j < m1)) : amB m1 D A B m = false := by
  have h : amB m1 D A B (j + 1) = false := by simp only [amB, h2]; cases decide (j < m1) <;> simp
  have := amB_mono h (m - (j + 1))
  rwa [show j + 1 + (m - (j + 1)) = m by omega] at this
theorem mkD_in32 (hD : D32 D) (h : ∀ i, i < m → (B i).toNat < 24) : ∀ j, j ≤ m → D32 (mkD D A B j) := by
  intro j
  induction j with
  | zero => intro _; rw [mkD_zero]; exact hD
  | succ j ih => intro hj; rw [mkD_succ]; exact wpD_32 (ih (by omega)) (h j (by omega))
end
attribute [irreducible] amB
def amC (ok : Bool) (off : Bool) (fine : Bool) : Int := if ok then (if off then 2 else if fine then 0 else 4) else 1
theorem amC_1 (x y : Bool) : amC false x y = 1 := rfl
theorem amC_2 (y : Bool) : amC true true y = 2 := rfl
theorem amC_4 : amC true false false = 4 := rfl
theorem amC_0 : amC true false true = 0 := rfl
attribute [irreducible] amC
def amCode (s : Int) (n : Nat) (P R : Nat → Int) (D : Nat → Nat) (m1 : Nat) (A B : Nat → Int) (m2 : Nat) (C E : Nat → Int) : Int := amC (okAll s n P R 1 (fun _ => D)) (anyB (offB s n (jn m1 A C) (jn m1 B E)) (m1 + m2)) (amB m1 D (jn m1 A C) (jn m1 B E) (m1 + m2))
theorem amCode_def (s : Int) (n : Nat) (P R : Nat → Int) (D : Nat → Nat) (m1 : Nat) (A B : Nat → Int) (m2 : Nat) (C E : Nat → Int) : amCode s n P R D m1 A B m2 C E = amC (okAll s n P R 1 (fun _ => D)) (anyB (offB s n (jn m1 A C) (jn m1 B E)) (m1 + m2)) (amB m1 D (jn m1 A C) (jn m1 B E) (m1 + m2)) := rfl
def amR (s : Int) (n : Nat) (P R : Nat → Int) (D : Nat → Nat) (m1 : Nat) (A B : Nat → Int) (m2 : Nat) (C E : Nat → Int) : Nat → Nat := if amCode s n P R D m1 A B m2 C E = 0 then mkD D (jn m1 A C) (jn m1 B E) (m1 + m2) else fun _ => 0
section
variable {s : Int} {n : Nat} {P R : Nat → Int} {D : Nat → Nat} {m1 : Nat} {A B : Nat → Int} {m2 : Nat} {C E : Nat → Int}
theorem amR_yes (h : amCode s n P R D m1 A B m2 C E = 0) : amR s n P R D m1 A B m2 C E = mkD D (jn m1 A C) (jn m1 B E) (m1 + m2) := if_pos h
theorem amR_no {x : Int} (h : amCode s n P R D m1 A B m2 C E = x) (hx : ¬ x = 0) : amR s n P R D m1 A B m2 C E = fun _ => 0 := by subst h; exact if_neg hx
end
attribute [irreducible] amR amCode
theorem concat_pr (gs : Nat) (b1 : Option Addr) (m1 d1 : Nat) (A B : Nat → Int) (b2 : Option Addr) (m2 d2 : Nat) (C E : Nat → Int) (w : World) (hm : m1 + m2 ≤ 4000000) (hg : w.heap[gs]? = some (.cells #[.slice b1 m1 d1, .slice b2 m2 d2] 55 (0, 0))) (h1 : PrO w b1 m1 d1 A B) (h2 : PrO w b2 m2 d2 C E) :
    Calls Try.prog 110 #[.slice (some ⟨gs, 0, none⟩) 2 2] w fun e w' => ∃ b c, e = .returned (.slice b (m1 + m2) c) ∧ Below w.heap.size w w' ∧ PrO w' b (m1 + m2) c (jn m1 A C) (jn m1 B E) := by
  refine (concatP_any gs 0 0 _ _ (prL m1 A B) (prL m2 C E) w (by rw [prL_len, prL_len]; exact hm) hg h1 h2).mono ?_
  rintro e w' ⟨r, rfl, hb, ho⟩
  rw [prL_jn] at ho
  obtain ⟨b, c, rfl⟩ := OwnL.form ho
  rw [prL_len] at ho ⊢
  exact ⟨b, c, rfl, hb, OwnP.mono ho (Nat.zero_le _)⟩
/-- pairs stay when a block of another type changes -/
theorem PrO.other {w w' : World} {b : Option Addr} {n c : Nat} {A B : Nat → Int} {g T : Nat} {cs : Array Value} {f : Nat × Nat} (h : PrO w b n c A B) (hg : w.heap[g]? = some (.cells cs T f)) (hT : T ≠ 129) (hs : ∀ j, j ≠ g → w'.heap[j]? = w.heap[j]?) : PrO w' b n c A B := by
  refine ⟨h.1, ?_⟩
  rcases h.2 with h0 | ⟨g', cap, cur, e, hb, hr, h2⟩
  · exact .inl h0
  · refine .inr ⟨g', cap, cur, e, hb, (hs g' ?_).trans hr, h2⟩
    rintro rfl
    rw [hr] at hg
    simp at hg
    exact hT hg.2.1.symm
theorem xor_or {D : Nat → Nat} {k t : Nat} (h : hasPin D k t = false) : D k ||| 2 ^ t = D k ^^^ 2 ^ t := by
  have hx : (D k).testBit t = false := by rw [← h]; unfold hasPin; rfl
  apply Nat.eq_of_testBit_eq
  intro i
  rw [Nat.testBit_xor, Nat.testBit_or, Nat.testBit_two_pow]
  by_cases e : t = i
  · subst e; rw [hx]; simp
  · simp [e]
theorem wpD_put {D : Nat → Nat} {x y : Int} {i t : Nat} {on : Bool} (hx : x = i) (hy : y = t) (h : hasPin D i t = !on) : upd D i (putRow (D i) (2 ^ t) on) = wpD D x y := by
  rw [putRow_xor h, wpD_def, hx, hy]; rfl
set_option maxRecDepth 100000 in
set_option maxHeartbeats 1000000 in
theorem implApplyMoves_any (s : Int) (a : Option Addr) (n c : Nat) (P R : Nat → Int) (D : Nat → Nat) (b1 : Option Addr) (m1 d1 : Nat) (A B : Nat → Int) (b2 : Option Addr) (m2 d2 : Nat) (C E : Nat → Int) (w : World) (hs : -32768 ≤ s ∧ s ≤ 32767) (hn : n ≤ 1048576) (hP : I8 P) (hR : I8 R) (hh : HamAt w a n P R) (hD : D32 D) (hm1 : m1 ≤ 1048576) (hA : I64 A) (hB : I64 B) (hl1 : PrO w b1 m1 d1 A B) (hm2 : m2 ≤ 1048576) (hC : I64 C) (hE : I64 E) (hl2 : PrO w b2 m2 d2 C E) :
    Calls Try.prog 48 #[.agg #[.int .i16 s, .slice a n c], .agg (dc D), .slice b1 m1 d1, .slice b2 m2 d2] w fun e w' => e = .returned (.tuple #[.agg (dc (amR s n P R D m1 A B m2 C E)), .int .i64 (amCode s n P R D m1 A B m2 C E)]) ∧ Below w.heap.size w w' := by
  have HP := Lib.hid hP; have HR := Lib.hid hR; have HD := Lib.hid hD; clear hP hR hD hA hB hC hE
  have KB := Kp.base w
  have KH := kp_ham hh; have K1 := kp_prO hl1; have K2 := kp_prO hl2; clear hh hl1 hl2
  replace KB := KB.alloc (.cells #[.int .i16 s, .slice a n c] 43)
  replace KH := KH.alloc (.cells #[.int .i16 s, .slice a n c] 43)
  replace K1 := K1.alloc (.cells #[.int .i16 s, .slice a n c] 43)
  replace K2 := K2.alloc (.cells #[.int .i16 s, .slice a n c] 43)
  have KF := kp_new1 w #[.int .i16 s, .slice a n c] 43 (g := w.heap.size) (by simp)
  replace KB := KB.alloc (.cells (dc D) 45)
  replace KH := KH.alloc (.cells (dc D) 45)
  replace K1 := K1.alloc (.cells (dc D) 45)
  replace K2 := K2.alloc (.cells (dc D) 45)
  replace KF := KF.alloc (.cells (dc D) 45)
  have KD := kp_newd (w.alloc (.cells #[.int .i16 s, .slice a n c] 43)) (D) 45 (g := w.heap.size + 1) (by simp)
  replace KB := KB.alloc (.cells (dc fun _ => 0) 45)
  replace KH := KH.alloc (.cells (dc fun _ => 0) 45)
  replace K1 := K1.alloc (.cells (dc fun _ => 0) 45)
  replace K2 := K2.alloc (.cells (dc fun _ => 0) 45)
  replace KF := KF.alloc (.cells (dc fun _ => 0) 45)
  replace KD := KD.alloc (.cells (dc fun _ => 0) 45)
  have K0 := kp_newd ((w.alloc (.cells #[.int .i16 s, .slice a n c] 43)).alloc (.cells (dc D) 45)) (fun _ => 0) 45 (g := w.heap.size + 1 + 1) (by simp)
  have HZ := Lib.hid (show (((w.alloc (.cells #[.int .i16 s, .slice a n c] 43)).alloc (.cells (dc D) 45)).alloc (.cells (dc fun _ => 0) 45)).heap.size = w.heap.size + 1 + 1 + 1 by simp)
  go_enter Try.func48, Try.ntmps48
  go_wp2_with (first | (with_reducible refine load_iframe rfl _ rfl w.heap.size rfl _ s a n c KF.here ?_) | (with_reducible refine load_drum rfl _ rfl (w.heap.size + 1) rfl _ D KD.here ?_) | (with_reducible refine alloc_drum ?_ ?_ ?_; with_reducible rfl; with_reducible rfl) | (with_reducible refine build1 rfl _ rfl D rfl ?_))
  generalize (((w.alloc (.cells #[.int .i16 s, .slice a n c] 43)).alloc (.cells (dc D) 45)).alloc (.cells (dc fun _ => 0) 45)) = W at KB KH K1 K2 KF KD K0 HZ ⊢
  have hz := HZ.out
  have hl := DrumsAt.one W D (fun _ => D) rfl
  rw [hz] at hl
  refine (drumCode_any s a n c P R _ 1 1 (fun _ => D) _ (by omega) (by omega) hs HP.out HR.out (KH.alloc _).here hl).mono ?_
  rintro e w1 ⟨rfl, hb1⟩
  replace KB := KB.alloc (.cells (dc D) 45)
  replace K1 := K1.alloc (.cells (dc D) 45)
  replace K2 := K2.alloc (.cells (dc D) 45)
  replace KF := KF.alloc (.cells (dc D) 45)
  replace KD := KD.alloc (.cells (dc D) 45)
  replace K0 := K0.alloc (.cells (dc D) 45)
  replace KB := KB.on hb1
  replace K1 := K1.on hb1
  replace K2 := K2.on hb1
  replace KF := KF.on hb1
  replace KD := KD.on hb1
  replace K0 := K0.on hb1
  clear hb1 hz hl KH
  cases hv : okAll s n P R 1 (fun _ => D)
  · have HC := Lib.hid (show amCode s n P R D m1 A B m2 C E = 1 by rw [amCode_def, hv, amC_1])
    clear hv
    have HR0 := Lib.hid (amR_no HC.out (by simp))
    rw [unl_false]
    have h1 := K0.here
    go_wp2_with (first | (with_reducible refine build_drum rfl rfl ?_) | (with_reducible refine store_drum rfl _ _ rfl (w.heap.size + 1 + 1) (fun _ => 0) rfl rfl _ _ h1 ?_))
    refine bodyPost_ret (results_drum2 rfl _ _ (w.heap.size + 1 + 1) _ (fun _ => 0) (.int .i64 1) rfl (DrumAt.setRow h1 _) rfl) rfl ⟨by rw [HC.out, HR0.out], below_setRow KB.here (by omega) _⟩
  · obtain ⟨hS, hN⟩ := okAll_frame hv
    have HV := Lib.hid hv; clear hv
    rw [unl_true]
    obtain ⟨N, hN⟩ : ∃ N, m1 + m2 = N := ⟨_, rfl⟩
    obtain ⟨X, hX⟩ : ∃ X, jn m1 A C = X := ⟨_, rfl⟩
    obtain ⟨Y, hY⟩ : ∃ Y, jn m1 B E = Y := ⟨_, rfl⟩
    have HCAT := Lib.hid (fun (gs : Nat) (V : World) (h0 : V.heap[gs]? = some (.cells #[.slice b1 m1 d1, .slice b2 m2 d2] 55 (0, 0))) (h1 : PrO V b1 m1 d1 A B) (h2 : PrO V b2 m2 d2 C E) => concat_pr gs b1 m1 d1 A B b2 m2 d2 C E V (by omega) h0 h1 h2)
    have hcd := amCode_def s n P R D m1 A B m2 C E
    have HR1 := Lib.hid (amR_yes (s := s) (n := n) (P := P) (R := R) (D := D) (m1 := m1) (A := A) (B := B) (m2 := m2) (C := C) (E := E))
    have HR2 := Lib.hid (fun x => amR_no (s := s) (n := n) (P := P) (R := R) (D := D) (m1 := m1) (A := A) (B := B) (m2 := m2) (C := C) (E := E) (x := x))
    rw [hN, hX, hY, HV.out] at hcd
    rw [hN, hX, hY] at HCAT HR1
    have hN2 : N ≤ 2097152 := by omega
    have HN := Lib.hid hN; clear hN hX hY
    have kg1 := (kp_new1 w1 #[.slice b1 m1 d1, .slice b2 m2 d2] 55 (g := w1.heap.size) rfl).here
    have KG1 := Lib.hid kg1; clear kg1
    go_wp2_with fail
    refine (HCAT.out w1.heap.size _ KG1.out (K1.alloc _).here (K2.alloc _).here).mono ?_
    rintro e w2 ⟨br, cr, rfl, hb2, hpr⟩
    have hpz := KB.here.size
    replace KB := KB.alloc (.cells #[.slice b1 m1 d1, .slice b2 m2 d2] 55)
    replace K1 := K1.alloc (.cells #[.slice b1 m1 d1, .slice b2 m2 d2] 55)
    replace K2 := K2.alloc (.cells #[.slice b1 m1 d1, .slice b2 m2 d2] 55)
    replace KF := KF.alloc (.cells #[.slice b1 m1 d1, .slice b2 m2 d2] 55)
    replace KD := KD.alloc (.cells #[.slice b1 m1 d1, .slice b2 m2 d2] 55)
    replace K0 := K0.alloc (.cells #[.slice b1 m1 d1, .slice b2 m2 d2] 55)
    replace KB := KB.on hb2
    replace K1 := K1.on hb2
    replace K2 := K2.on hb2
    replace KF := KF.on hb2
    replace KD := KD.on hb2
    replace K0 := K0.on hb2
    have HPR := Lib.hid hpr; clear hpr hb2 KG1
    go_wp2_with fail
    refine (containsFuncP br N cr X Y w.heap.size s a n c w2 (by omega) HPR.out.read hs hn KF.here).mono ?_
    rintro e w3 ⟨rfl, hb3⟩
    replace KB := KB.on hb3
    replace K1 := K1.on hb3
    replace K2 := K2.on hb3
    replace KF := KF.on hb3
    replace KD := KD.on hb3
    replace K0 := K0.on hb3
    clear HPR hb3
    cases hoff : anyB (offB s n X Y) N
    · rw [hoff] at hcd
      have HOFF := Lib.hid hoff; clear hoff
      have HCD := Lib.hid hcd; clear hcd
      have kg1 := (kp_new1 w3 #[.slice b1 m1 d1, .slice b2 m2 d2] 55 (g := w3.heap.size) rfl).here
      have KG1 := Lib.hid kg1; clear kg1
      go_wp2_with fail
      refine (HCAT.out w3.heap.size _ KG1.out (K1.alloc _).here (K2.alloc _).here).mono ?_
      rintro e w4 ⟨br, cr, rfl, hb2, hpr⟩
      replace KB := KB.alloc (.cells #[.slice b1 m1 d1, .slice b2 m2 d2] 55)
      replace K1 := K1.alloc (.cells #[.slice b1 m1 d1, .slice b2 m2 d2] 55)
      replace K2 := K2.alloc (.cells #[.slice b1 m1 d1, .slice b2 m2 d2] 55)
      replace KF := KF.alloc (.cells #[.slice b1 m1 d1, .slice b2 m2 d2] 55)
      replace KD := KD.alloc (.cells #[.slice b1 m1 d1, .slice b2 m2 d2] 55)
      replace K0 := K0.alloc (.cells #[.slice b1 m1 d1, .slice b2 m2 d2] 55)
      replace KB := KB.on hb2
      replace K1 := K1.on hb2
      replace K2 := K2.on hb2
      replace KF := KF.on hb2
      replace KD := KD.on hb2
      replace K0 := K0.on hb2
      clear hb2 KG1 K1 K2
      have hw5 := KB.here
      go_wp2
      go_loopw [34] (fun i w' => Below w.heap.size w w' ∧ DrumAt w' 45 (w.heap.size + 1 + 1) (fun _ => 0) ∧ ∃ k : Nat, k ≤ N ∧ i = .int .i64 k ∧ DrumAt w' 45 (w.heap.size + 1) (mkD D X Y k) ∧ PrO w' br N cr X Y ∧ amB m1 D X Y k = true) (fun i _ => N - (intOf i).toNat)
      case atStart => exact ⟨hw5, K0.here, 0, by omega, rfl, by rw [mkD_zero]; exact KD.here, hpr, amB_zero⟩
      case round =>
        clear hw5 hpr K0 KD KB KF
        obtain ⟨hb, h0, k, hk, rfl, hd, hpr, ham⟩ := hrel
        have H0 := Lib.hid h0; have HDR := Lib.hid hd; have HPR := Lib.hid hpr; have HAM := Lib.hid ham
        clear h0 hd hpr ham
        by_cases hlt : k < N
        · have hk' : (k : Int) < N := by omega
          have hx := PairAt.get HPR.out.read (show 0 < N by omega)
          obtain ⟨gp, off, rfl, hgp, hc⟩ := hx
          have c0 := (hc k hlt).1
          have c1 := (hc k hlt).2
          clear hc
          have hno : offB s n X Y k = false := by
            cases h : offB s n X Y k
            · rfl
            · have := anyB_iff.2 ⟨k, hlt, h⟩
              rw [HOFF.out] at this; cases this
          obtain ⟨hxk, hyk⟩ := offB_no hno
          clear hno
          obtain ⟨i, hi⟩ : ∃ i : Nat, X k = i := ⟨(X k).toNat, by omega⟩
          obtain ⟨t, ht⟩ : ∃ t : Nat, Y k = t := ⟨(Y k).toNat, by omega⟩
          have hi96 : i < 96 := by omega
          have ht24 : t < 24 := by omega
          rw [hi] at c0; rw [ht] at c1
          have HI := Lib.hid hi; have HT := Lib.hid ht; clear hi ht
          have hkc := row_cell 0 (heap_alloc_new wr (.cells #[.int .i64 (i : Int), .int .i64 (t : Int)] 129))
          have HD2 := Lib.hid (mkD_in32 (D := D) (A := X) (B := Y) (m := N) HD.out (fun q hq => by
            have hno : offB s n X Y q = false := by
              cases h : offB s n X Y q
              · rfl
              · have := anyB_iff.2 ⟨q, hq, h⟩
                rw [HOFF.out] at this; cases this
            have := (offB_no hno).2
            omega) k (by omega))
          have hba := hb.alloc hb.size (.cells #[.int .i64 (i : Int), .int .i64 (t : Int)] 129)
          have HBA := Lib.hid hba; clear hba
          have HD1 := Lib.hid (HDR.out.alloc (.cells #[.int .i64 (i : Int), .int .i64 (t : Int)] 129))
          have HPR1 := Lib.hid (show PrO (wr.alloc (.cells #[.int .i64 (i : Int), .int .i64 (t : Int)] 129)) (some ⟨gp, off, none⟩) N cr X Y from OwnP.alloc HPR.out _)
          have hH0 := H0.out.alloc (.cells #[.int .i64 (i : Int), .int .i64 (t : Int)] 129)
          have HH0 := Lib.hid hH0; clear hH0
          have hsz1 : w.heap.size + 1 + 1 < wr.heap.size := H0.out.lt
          obtain ⟨u, hu⟩ : ∃ u, decide (m1 ≤ k) = u := ⟨_, rfl⟩
          have hu2 : decide (k < m1) = !u := by rw [← hu, ← decide_not]; congr 1; simp
          have HU2 := Lib.hid hu2; clear hu2
          have hq1 : (u == u) = true := by cases u <;> rfl
          have hq2 : ((!u) == u) = false := by cases u <;> rfl
          by_cases hp : hasPin (mkD D X Y k) i t = u
          · have HP2 := Lib.hid (amB_no (D := D) (A := X) (B := Y) hlt (by rw [HI.out, HT.out, Int.toNat_natCast, Int.toNat_natCast, hp, HU2.out]; simp))
            have hcd2 := HCD.out
            rw [HP2.out, amC_4] at hcd2
            have HC := Lib.hid hcd2
            have HR0 := Lib.hid (HR2.out _ hcd2 (by simp))
            have HPP := Lib.hid hp
            clear hcd2 HR1 hp
            go_wp2_with (first | (go_at_call 113; refine (has_any (w.heap.size + 1) 45 (mkD D X Y k) i t _ HD2.out hi96 ht24 HD1.out).mono ?_; rw [HPP.out]; rintro e w5 ⟨rfl, rfl⟩) | (with_reducible refine build_drum rfl rfl ?_) | (with_reducible refine store_drum rfl _ _ rfl (w.heap.size + 1 + 1) (fun _ => 0) rfl rfl _ _ HH0.out ?_))
            refine bodyPost_ret (results_drum2 rfl _ _ (w.heap.size + 1 + 1) _ (fun _ => 0) (.int .i64 4) rfl (DrumAt.setRow HH0.out _) rfl) rfl ⟨by rw [HC.out, HR0.out], below_setRow HBA.out (by omega) _⟩
          · have hp2 : hasPin (mkD D X Y k) i t = !u := by cases u <;> simpa using hp
            have hnx := amB_yes (m1 := m1) (D := D) (A := X) (B := Y) HAM.out (by rw [HI.out, HT.out, Int.toNat_natCast, Int.toNat_natCast, hp2, HU2.out])
            have HNX := Lib.hid hnx; have HPP := Lib.hid hp2; clear hnx hp hp2
            go_wp2_with (go_at_call 113; refine (has_any (w.heap.size + 1) 45 (mkD D X Y k) i t _ HD2.out hi96 ht24 HD1.out).mono ?_; rw [HPP.out]; rintro e w5 ⟨rfl, rfl⟩)
            refine (put_any (w.heap.size + 1) _ (mkD D X Y k) i t u _ HD2.out hi96 ht24 HD1.out).mono ?_
            rintro e w5 ⟨⟨v, rfl⟩, hb2, hs2, hg2⟩
            rw [wpD_put HI.out HT.out HPP.out, ← mkD_succ] at hg2
            have hpr5 := PrO.other HPR1.out HD1.out (by decide) hs2
            have h05 : DrumAt w5 45 (w.heap.size + 1 + 1) (fun _ => 0) := (hs2 (w.heap.size + 1 + 1) (by omega)).trans HH0.out
            have hb5 := HBA.out.trans (hb2.mono (by omega))
            have HB5 := Lib.hid hb5; have HG5 := Lib.hid hg2; have HPR5 := Lib.hid hpr5; have H05 := Lib.hid h05
            clear hb2 hs2 hg2 hpr5 h05 hb5
            go_wp2
            go_roundw
            case rel => exact ⟨HB5.out, H05.out, k + 1, by omega, by go_num, HG5.out, HPR5.out, HNX.out⟩
            case measure => simp [intOf]; omega
        · have hkN : k = N := by omega
          subst hkN
          have hcd2 := HCD.out
          rw [HAM.out, amC_0] at hcd2
          have HC := Lib.hid hcd2
          have HR0 := Lib.hid (HR1.out hcd2)
          clear hcd2 HR1 HR2
          obtain ⟨r, hr⟩ : ∃ r, mkD D X Y k = r := ⟨_, rfl⟩
          rw [hr] at HDR HR0
          clear hr
          go_wp2_with (first | (with_reducible refine load_drum rfl _ rfl (w.heap.size + 1) rfl _ r HDR.out ?_) | (with_reducible refine store_drum rfl _ _ rfl (w.heap.size + 1 + 1) r rfl rfl _ _ H0.out ?_))
          refine bodyPost_ret (results_drum2 rfl _ _ (w.heap.size + 1 + 1) _ r (.int .i64 0) rfl (DrumAt.setRow H0.out _) rfl) rfl ⟨by rw [HC.out, HR0.out], below_setRow hb (by omega) _⟩
    · rw [hoff, amC_2] at hcd
      have HC := Lib.hid hcd
      have HR0 := Lib.hid (HR2.out _ hcd (by simp))
      clear hcd hoff HR1
      have h1 := K0.here
      go_wp2_with (first | (with_reducible refine build_drum rfl rfl ?_) | (with_reducible refine store_drum rfl _ _ rfl (w.heap.size + 1 + 1) (fun _ => 0) rfl rfl _ _ h1 ?_))
      refine bodyPost_ret (results_drum2 rfl _ _ (w.heap.size + 1 + 1) _ (fun _ => 0) (.int .i64 2) rfl (DrumAt.setRow h1 _) rfl) rfl ⟨by rw [HC.out, HR0.out], below_setRow KB.here (by omega) _⟩
set_option maxRecDepth 100000 in
set_option maxHeartbeats 1000000 in
theorem specApplyMoves_any (s : Int) (a : Option Addr) (n c : Nat) (P R : Nat → Int) (D : Nat → Nat) (b1 : Option Addr) (m1 d1 : Nat) (A B : Nat → Int) (b2 : Option Addr) (m2 d2 : Nat) (C E : Nat → Int) (w : World) (hs : -32768 ≤ s ∧ s ≤ 32767) (hn : n ≤ 1048576) (hP : I8 P) (hR : I8 R) (hh : HamAt w a n P R) (hD : D32 D) (hm1 : m1 ≤ 1048576) (hA : I64 A) (hB : I64 B) (hl1 : PrO w b1 m1 d1 A B) (hm2 : m2 ≤ 1048576) (hC : I64 C) (hE : I64 E) (hl2 : PrO w b2 m2 d2 C E) :
    Calls Try.prog 46 #[.agg #[.int .i16 s, .slice a n c], .agg (dc D), .slice b1 m1 d1, .slice b2 m2 d2] w fun e w' => e = .returned (.tuple #[.agg (dc (amR s n P R D m1 A B m2 C E)), .int .i64 (amCode s n P R D m1 A B m2 C E)]) ∧ Below w.heap.size w w' := by
  have HP := Lib.hid hP; have HR := Lib.hid hR; have HD := Lib.hid hD; clear hP hR hD hA hB hC hE
  have KB := Kp.base w
  have KH := kp_ham hh; have K1 := kp_prO hl1; have K2 := kp_prO hl2; clear hh hl1 hl2
  replace KB := KB.alloc (.cells #[.int .i16 s, .slice a n c] 43)
  replace KH := KH.alloc (.cells #[.int .i16 s, .slice a n c] 43)
  replace K1 := K1.alloc (.cells #[.int .i16 s, .slice a n c] 43)
  replace K2 := K2.alloc (.cells #[.int .i16 s, .slice a n c] 43)
  have KF := kp_new1 w #[.int .i16 s, .slice a n c] 43 (g := w.heap.size) (by simp)
  replace KB := KB.alloc (.cells (dc D) 45)
  replace KH := KH.alloc (.cells (dc D) 45)
  replace K1 := K1.alloc (.cells (dc D) 45)
  replace K2 := K2.alloc (.cells (dc D) 45)
  replace KF := KF.alloc (.cells (dc D) 45)
  have KD := kp_newd (w.alloc (.cells #[.int .i16 s, .slice a n c] 43)) (D) 45 (g := w.heap.size + 1) (by simp)
  replace KB := KB.alloc (.cells (dc fun _ => 0) 45)
  replace KH := KH.alloc (.cells (dc fun _ => 0) 45)
  replace K1 := K1.alloc (.cells (dc fun _ => 0) 45)
  replace K2 := K2.alloc (.cells (dc fun _ => 0) 45)
  replace KF := KF.alloc (.cells (dc fun _ => 0) 45)
  replace KD := KD.alloc (.cells (dc fun _ => 0) 45)
  have K0 := kp_newd ((w.alloc (.cells #[.int .i16 s, .slice a n c] 43)).alloc (.cells (dc D) 45)) (fun _ => 0) 45 (g := w.heap.size + 1 + 1) (by simp)
  have HZ := Lib.hid (show (((w.alloc (.cells #[.int .i16 s, .slice a n c] 43)).alloc (.cells (dc D) 45)).alloc (.cells (dc fun _ => 0) 45)).heap.size = w.heap.size + 1 + 1 + 1 by simp)
  go_enter Try.func46, Try.ntmps46
  go_wp2_with (first | (with_reducible refine alloc_drum ?_ ?_ ?_; with_reducible rfl; with_reducible rfl))
  generalize (((w.alloc (.cells #[.int .i16 s, .slice a n c] 43)).alloc (.cells (dc D) 45)).alloc (.cells (dc fun _ => 0) 45)) = W at KB KH K1 K2 KF KD K0 HZ ⊢
  clear HZ
  refine (l02Asked_any w.heap.size (w.heap.size + 1) _ s a n c P R D W hs hn HP.out HR.out KH.here KF.here KD.here).mono ?_
  rintro e w1 ⟨rfl, hb1⟩
  replace KB := KB.on hb1
  replace K1 := K1.on hb1
  replace K2 := K2.on hb1
  replace KF := KF.on hb1
  replace KD := KD.on hb1
  replace K0 := K0.on hb1
  clear hb1 KH
  cases hv : okAll s n P R 1 (fun _ => D)
  · have HC := Lib.hid (show amCode s n P R D m1 A B m2 C E = 1 by rw [amCode_def, hv, amC_1])
    clear hv
    have HR0 := Lib.hid (amR_no HC.out (by simp))
    rw [unl_false]
    have h1 := K0.here
    go_wp2_with (first | (with_reducible refine build_drum rfl rfl ?_) | (with_reducible refine store_drum rfl _ _ rfl (w.heap.size + 1 + 1) (fun _ => 0) rfl rfl _ _ h1 ?_))
    refine bodyPost_ret (results_drum2 rfl _ _ (w.heap.size + 1 + 1) _ (fun _ => 0) (.int .i64 1) rfl (DrumAt.setRow h1 _) rfl) rfl ⟨by rw [HC.out, HR0.out], below_setRow KB.here (by omega) _⟩
  · obtain ⟨hS, hN⟩ := okAll_frame hv
    have HV := Lib.hid hv; clear hv
    rw [unl_true]
    have hcd := amCode_def s n P R D m1 A B m2 C E
    have HR1 := Lib.hid (amR_yes (s := s) (n := n) (P := P) (R := R) (D := D) (m1 := m1) (A := A) (B := B) (m2 := m2) (C := C) (E := E))
    have HR2 := Lib.hid (fun x => amR_no (s := s) (n := n) (P := P) (R := R) (D := D) (m1 := m1) (A := A) (B := B) (m2 := m2) (C := C) (E := E) (x := x))
    rw [any_join, HV.out] at hcd
    have hpz := KB.here.size
    go_wp2_with fail
    refine (l03There_any w.heap.size _ s a n c b1 m1 d1 A B w1 hS hN.2 hm1 KF.here K1.here.read).mono ?_
    rintro e w2 ⟨rfl, hb2⟩
    replace KB := KB.on hb2
    replace K1 := K1.on hb2
    replace K2 := K2.on hb2
    replace KF := KF.on hb2
    replace KD := KD.on hb2
    replace K0 := K0.on hb2
    clear hb2
    cases hoff : anyB (offB s n A B) m1
    · have HOFF1 := Lib.hid hoff
      rw [hoff, Bool.false_or] at hcd
      clear hoff
      go_wp2_with fail
      refine (l03There_any w.heap.size _ s a n c b2 m2 d2 C E w2 hS hN.2 hm2 KF.here K2.here.read).mono ?_
      rintro e w3 ⟨rfl, hb3⟩
      replace KB := KB.on hb3
      replace K1 := K1.on hb3
      replace K2 := K2.on hb3
      replace KF := KF.on hb3
      replace KD := KD.on hb3
      replace K0 := K0.on hb3
      clear hb3
      cases hoff : anyB (offB s n C E) m2
      · have HOFF2 := Lib.hid hoff
        rw [hoff] at hcd
        have HCD := Lib.hid hcd
        clear hcd hoff
        have hw5 := KB.here
        obtain ⟨X, hX⟩ : ∃ X, jn m1 A C = X := ⟨_, rfl⟩
        obtain ⟨Y, hY⟩ : ∃ Y, jn m1 B E = Y := ⟨_, rfl⟩
        have hoffJ : anyB (offB s n X Y) (m1 + m2) = false := by rw [← hX, ← hY, any_join, HOFF1.out, HOFF2.out]; rfl
        have HXL := Lib.hid (show ∀ k, k < m1 → X k = A k ∧ Y k = B k from fun k hk => by rw [← hX, ← hY, jn_lt hk, jn_lt hk]; exact ⟨rfl, rfl⟩)
        have HXG := Lib.hid (show ∀ k, X (m1 + k) = C k ∧ Y (m1 + k) = E k from fun k => by rw [← hX, ← hY, jn_ge, jn_ge]; exact ⟨rfl, rfl⟩)
        rw [hX, hY] at HCD HR1
        clear hX hY HOFF1 HOFF2
        have HOK := Lib.hid (show ∀ q, q < m1 + m2 → (0 ≤ X q ∧ X q ≤ s - 1) ∧ (0 ≤ Y q ∧ Y q ≤ (n : Int) - 1) from fun q hq => offB_no (by
          cases h : offB s n X Y q
          · rfl
          · have := anyB_iff.2 ⟨q, hq, h⟩
            rw [hoffJ] at this; cases this))
        clear hoffJ
        have HM32 := Lib.hid (mkD_in32 (D := D) (A := X) (B := Y) (m := m1 + m2) HD.out (fun q hq => by have := (HOK.out q hq).2; omega))
        have HBAD := Lib.hid (fun (j : Nat) (hj : j < m1 + m2) => amB_no (m1 := m1) (D := D) (A := X) (B := Y) hj)
        have HST := Lib.hid (show amB m1 D X Y (m1 + m2) = false → amCode s n P R D m1 A B m2 C E = 4 ∧ amR s n P R D m1 A B m2 C E = fun _ => 0 from fun h => by
          have h2 := HCD.out
          rw [h, amC_4] at h2
          exact ⟨h2, HR2.out 4 h2 (by simp)⟩)
        have HFN := Lib.hid (show amB m1 D X Y (m1 + m2) = true → amCode s n P R D m1 A B m2 C E = 0 ∧ amR s n P R D m1 A B m2 C E = mkD D X Y (m1 + m2) from fun h => by
          have h2 := HCD.out
          rw [h, amC_0] at h2
          exact ⟨h2, HR1.out h2⟩)
        clear HCD HR1 HR2
        have hk1 := K1.here; have hk2 := K2.here
        go_wp2
        go_loopw [11] (fun i w' => Below w.heap.size w w' ∧ DrumAt w' 45 (w.heap.size + 1 + 1) (fun _ => 0) ∧ PrO w' b1 m1 d1 A B ∧ PrO w' b2 m2 d2 C E ∧ ∃ k : Nat, k ≤ m1 ∧ i = .int .i64 k ∧ DrumAt w' 45 (w.heap.size + 1) (mkD D X Y k) ∧ amB m1 D X Y k = true) (fun i _ => m1 - (intOf i).toNat)
        case atStart => exact ⟨hw5, K0.here, hk1, hk2, 0, by omega, rfl, by rw [mkD_zero]; exact KD.here, amB_zero⟩
        case round =>
          clear hw5 hk1 hk2 K0 KD KB KF K1 K2
          obtain ⟨hb, h0, hp1, hp2, k, hk, rfl, hd, ham⟩ := hrel
          have H0 := Lib.hid h0; have HDR := Lib.hid hd; have HP1 := Lib.hid hp1; have HP2 := Lib.hid hp2; have HAM := Lib.hid ham
          clear h0 hd hp1 hp2 ham
          have hszz := H0.out.lt
          by_cases hlt : k < m1
          · have hx := PairAt.get HP1.out.read (show 0 < m1 by omega)
            obtain ⟨hxa, hyb⟩ := HXL.out k hlt
            obtain ⟨hxk, hyk⟩ := HOK.out k (by omega)
            have hdec : decide (k < m1) = true := by simpa using hlt
            obtain ⟨gp, off, rfl, hgp, hc⟩ := hx
            have c0 := (hc k hlt).1
            have c1 := (hc k hlt).2
            clear hc hgp
            obtain ⟨i, hi⟩ : ∃ i : Nat, X k = i := ⟨(X k).toNat, by omega⟩
            obtain ⟨t, ht⟩ : ∃ t : Nat, Y k = t := ⟨(Y k).toNat, by omega⟩
            rw [← hxa, hi] at c0; rw [← hyb, ht] at c1
            have hi96 : i < 96 := by omega
            have ht24 : t < 24 := by omega
            have hk' : (k : Int) < m1 := by omega
            have hi' : (i : Int) < 96 := by omega
            have HI := Lib.hid hi; have HT := Lib.hid ht; clear hi ht hxa hyb hxk hyk
            have hd32 := HM32.out k (by omega)
            obtain ⟨V, hV⟩ : ∃ V, mkD D X Y k = V := ⟨_, rfl⟩
            rw [hV] at HDR hd32
            have HVV := Lib.hid hV; clear hV
            have e0 := HDR.out.cell i hi96
            have ef := HDR.out.frozen i
            have hpm := hasPin_mod V i t
            have hab := and_bit (x := V i) (t := t) (hd32 i) ht24
            rw [← hpm] at hab
            clear hpm
            have hbit := bits_andNot_u32 (b := 2 ^ t) (hd32 i) (by have := pow24 ht24; omega)
            have HS := Lib.hid (fun v => HDR.out.setCell i v hi96)
            have hlb := fun W => l03Bit_any t W ht24
            obtain ⟨y, hy⟩ : ∃ y, 2 ^ t = y := ⟨_, rfl⟩
            have HY := Lib.hid hy
            rw [hy] at hab hbit hlb
            have HLB := Lib.hid hlb
            clear hy hlb
            cases hp : hasPin V i t
            · have HC := Lib.hid (HST.out (HBAD.out k (by omega) (by rw [HVV.out, HI.out, HT.out, Int.toNat_natCast, Int.toNat_natCast, hp, hdec]; rfl)))
              rw [hp] at hab
              have hab2 : (bits .and .u32 ((V i : Nat) : Int) (y : Int) == 0) = true := by simpa using hab
              clear hab hbit hp HST HFN HBAD
              go_wp2_with (first | (go_at_call 107; refine (HLB.out _).mono ?_; rintro e w5 ⟨rfl, rfl⟩) | (with_reducible refine build_drum rfl rfl ?_) | (with_reducible refine store_drum rfl _ _ rfl (w.heap.size + 1 + 1) (fun _ => 0) rfl rfl _ _ H0.out ?_))
              refine bodyPost_ret (results_drum2 rfl _ _ (w.heap.size + 1 + 1) _ (fun _ => 0) (.int .i64 4) rfl (DrumAt.setRow H0.out _) rfl) rfl ⟨by rw [HC.out.1, HC.out.2], below_setRow hb (by omega) _⟩
            · have HNX := Lib.hid (amB_yes (m1 := m1) (D := D) (A := X) (B := Y) HAM.out (by rw [HVV.out, HI.out, HT.out, Int.toNat_natCast, Int.toNat_natCast, hp, hdec]))
              have HPT := Lib.hid hp
              rw [hp] at hab
              have hab2 : (bits .and .u32 ((V i : Nat) : Int) (y : Int) == 0) = false := by simpa using hab
              have HE := Lib.hid (show upd V i (andn (V i) y) = mkD D X Y (k + 1) by
                rw [mkD_succ, HVV.out, wpD_def, HI.out, HT.out, Int.toNat_natCast, Int.toNat_natCast, ← HY.out, show andn (V i) (2 ^ t) = V i ^^^ 2 ^ t from (putRow_f _ _).symm.trans (putRow_xor (on := false) HPT.out)])
              clear hab hp HST HFN HBAD
              go_wp2_with (go_at_call 107; refine (HLB.out _).mono ?_; rintro e w5 ⟨rfl, rfl⟩)
              go_roundw
              case rel => exact ⟨hb.setCell (by simp) _, H0.out.setOther _ _ (by simp), HP1.out.other HDR.out (by decide) (fun j hj => heap_setCell_other wr _ j _ hj), HP2.out.other HDR.out (by decide) (fun j hj => heap_setCell_other wr _ j _ hj), k + 1, by omega, by go_num, by have h := HS.out (andn (V i) y); rw [HE.out] at h; exact h, HNX.out⟩
              case measure => simp [intOf]; omega
          · have hkm : m1 = k := by omega
            subst hkm
            go_wp2
            clear hlt hk
            go_loopw [13] (fun i w' => Below w.heap.size w w' ∧ DrumAt w' 45 (w.heap.size + 1 + 1) (fun _ => 0) ∧ PrO w' b2 m2 d2 C E ∧ ∃ k : Nat, k ≤ m2 ∧ i = .int .i64 k ∧ DrumAt w' 45 (w.heap.size + 1) (mkD D X Y (m1 + k)) ∧ amB m1 D X Y (m1 + k) = true) (fun i _ => m2 - (intOf i).toNat)
            case atStart => exact ⟨hb, H0.out, HP2.out, 0, by omega, rfl, HDR.out, HAM.out⟩
            case round =>
              clear hb H0 HP2 HDR HAM hszz HP1 HXL
              obtain ⟨hb, h0, hp2, k, hk, rfl, hd, ham⟩ := hrel
              have H0 := Lib.hid h0; have HDR := Lib.hid hd; have HP2 := Lib.hid hp2; have HAM := Lib.hid ham
              clear h0 hd hp2 ham
              have hszz := H0.out.lt
              by_cases hlt : k < m2
              · have hx := PairAt.get HP2.out.read (show 0 < m2 by omega)
                obtain ⟨hxa, hyb⟩ := HXG.out k
                obtain ⟨hxk, hyk⟩ := HOK.out (m1 + k) (by omega)
                have hdec : decide (m1 + k < m1) = false := by simp
                obtain ⟨gp, off, rfl, hgp, hc⟩ := hx
                have c0 := (hc k hlt).1
                have c1 := (hc k hlt).2
                clear hc hgp
                obtain ⟨i, hi⟩ : ∃ i : Nat, X (m1 + k) = i := ⟨(X (m1 + k)).toNat, by omega⟩
                obtain ⟨t, ht⟩ : ∃ t : Nat, Y (m1 + k) = t := ⟨(Y (m1 + k)).toNat, by omega⟩
                rw [← hxa, hi] at c0; rw [← hyb, ht] at c1
                have hi96 : i < 96 := by omega
                have ht24 : t < 24 := by omega
                have hk' : (k : Int) < m2 := by omega
                have hi' : (i : Int) < 96 := by omega
                have HI := Lib.hid hi; have HT := Lib.hid ht; clear hi ht hxa hyb hxk hyk
                have hd32 := HM32.out (m1 + k) (by omega)
                obtain ⟨V, hV⟩ : ∃ V, mkD D X Y (m1 + k) = V := ⟨_, rfl⟩
                rw [hV] at HDR hd32
                have HVV := Lib.hid hV; clear hV
                have e0 := HDR.out.cell i hi96
                have ef := HDR.out.frozen i
                have hpm := hasPin_mod V i t
                have hab := and_bit (x := V i) (t := t) (hd32 i) ht24
                rw [← hpm] at hab
                clear hpm
                have hbit := bits_or_u32 (b := 2 ^ t) (hd32 i) (by have := pow24 ht24; omega)
                have HS := Lib.hid (fun v => HDR.out.setCell i v hi96)
                have hlb := fun W => l03Bit_any t W ht24
                obtain ⟨y, hy⟩ : ∃ y, 2 ^ t = y := ⟨_, rfl⟩
                have HY := Lib.hid hy
                rw [hy] at hab hbit hlb
                have HLB := Lib.hid hlb
                clear hy hlb
                cases hp : hasPin V i t
                · have HNX := Lib.hid (amB_yes (m1 := m1) (D := D) (A := X) (B := Y) HAM.out (by rw [HVV.out, HI.out, HT.out, Int.toNat_natCast, Int.toNat_natCast, hp, hdec]))
                  have HPT := Lib.hid hp
                  rw [hp] at hab
                  have hab2 : (bits .and .u32 ((V i : Nat) : Int) (y : Int) == 0) = true := by simpa using hab
                  have HE := Lib.hid (show upd V i (V i ||| y) = mkD D X Y (m1 + k + 1) by
                    rw [mkD_succ, HVV.out, wpD_def, HI.out, HT.out, Int.toNat_natCast, Int.toNat_natCast, ← HY.out, xor_or HPT.out])
                  clear hab hp HST HFN HBAD
                  go_wp2_with (go_at_call 107; refine (HLB.out _).mono ?_; rintro e w5 ⟨rfl, rfl⟩)
                  go_roundw
                  case rel => exact ⟨hb.setCell (by simp) _, H0.out.setOther _ _ (by simp), HP2.out.other HDR.out (by decide) (fun j hj => heap_setCell_other wr _ j _ hj), k + 1, by omega, by go_num, by have h := HS.out (V i ||| y); rw [HE.out] at h; exact h, HNX.out⟩
                  case measure => simp [intOf]; omega
                · have HC := Lib.hid (HST.out (HBAD.out (m1 + k) (by omega) (by rw [HVV.out, HI.out, HT.out, Int.toNat_natCast, Int.toNat_natCast, hp, hdec]; rfl)))
                  rw [hp] at hab
                  have hab2 : (bits .and .u32 ((V i : Nat) : Int) (y : Int) == 0) = false := by simpa using hab
                  clear hab hbit hp HST HFN HBAD
                  go_wp2_with (first | (go_at_call 107; refine (HLB.out _).mono ?_; rintro e w5 ⟨rfl, rfl⟩) | (with_reducible refine build_drum rfl rfl ?_) | (with_reducible refine store_drum rfl _ _ rfl (w.heap.size + 1 + 1) (fun _ => 0) rfl rfl _ _ H0.out ?_))
                  refine bodyPost_ret (results_drum2 rfl _ _ (w.heap.size + 1 + 1) _ (fun _ => 0) (.int .i64 4) rfl (DrumAt.setRow H0.out _) rfl) rfl ⟨by rw [HC.out.1, HC.out.2], below_setRow hb (by omega) _⟩
              · have hkm : m2 = k := by omega
                subst hkm
                have HC := Lib.hid (HFN.out HAM.out)
                clear HFN HST HBAD
                obtain ⟨r, hr⟩ : ∃ r, mkD D X Y (m1 + m2) = r := ⟨_, rfl⟩
                rw [hr] at HDR HC
                clear hr
                go_wp2_with (first | (with_reducible refine load_drum rfl _ rfl (w.heap.size + 1) rfl _ r HDR.out ?_) | (with_reducible refine store_drum rfl _ _ rfl (w.heap.size + 1 + 1) r rfl rfl _ _ H0.out ?_))
                refine bodyPost_ret (results_drum2 rfl _ _ (w.heap.size + 1 + 1) _ r (.int .i64 0) rfl (DrumAt.setRow H0.out _) rfl) rfl ⟨by rw [HC.out.1, HC.out.2], below_setRow hb (by omega) _⟩
      · rw [hoff, amC_2] at hcd
        clear hoff
        have HC := Lib.hid hcd
        have HR0 := Lib.hid (HR2.out _ hcd (by simp))
        clear hcd HR1
        have h1 := K0.here
        go_wp2_with (first | (with_reducible refine build_drum rfl rfl ?_) | (with_reducible refine store_drum rfl _ _ rfl (w.heap.size + 1 + 1) (fun _ => 0) rfl rfl _ _ h1 ?_))
        refine bodyPost_ret (results_drum2 rfl _ _ (w.heap.size + 1 + 1) _ (fun _ => 0) (.int .i64 2) rfl (DrumAt.setRow h1 _) rfl) rfl ⟨by rw [HC.out, HR0.out], below_setRow KB.here (by omega) _⟩
    · rw [hoff, Bool.true_or, amC_2] at hcd
      clear hoff
      have HC := Lib.hid hcd
      have HR0 := Lib.hid (HR2.out _ hcd (by simp))
      clear hcd HR1
      have h1 := K0.here
      go_wp2_with (first | (with_reducible refine build_drum rfl rfl ?_) | (with_reducible refine store_drum rfl _ _ rfl (w.heap.size + 1 + 1) (fun _ => 0) rfl rfl _ _ h1 ?_))
      refine bodyPost_ret (results_drum2 rfl _ _ (w.heap.size + 1 + 1) _ (fun _ => 0) (.int .i64 2) rfl (DrumAt.setRow h1 _) rfl) rfl ⟨by rw [HC.out, HR0.out], below_setRow KB.here (by omega) _⟩
end Go.Proofs.Ytmmneedmhmppoaa
