/- PinLike, by the program and by the reference. No conditions. -/
import Derived.Test.YtpfjmoodfodfhaaPv
import Derived.Outline
namespace Go.Proofs.Ytpfjmoodfodfhaa
open Go.RowKit
set_option linter.unusedVariables false
set_option linter.unusedSimpArgs false

theorem okAll_one (s : Int) (n : Nat) (P R : Nat → Int) (E : Nat → Nat) : okAll s n P R 1 (fun _ => E) = (vFrame s n P R && vDrum s n E) := by
  rw [Bool.eq_iff_iff, okAll_iff, Bool.and_eq_true]
  exact ⟨fun h => ⟨h.1, h.2 0 (by decide)⟩, fun h => ⟨h.1, fun _ _ => h.2⟩⟩
theorem drums_one {w : World} {T g : Nat} {E : Nat → Nat} (h : DrumAt w T g E) : DrumsAt w (some ⟨g, 0, none⟩) 1 (fun _ => E) := fun _ =>
  ⟨g, 0, rfl, h.lt, fun i hi => by
    have : i = 0 := by omega
    subst this
    exact h.cells⟩
/-- the code of a frame, a tune and a drum -/
def whC (ok v : Bool) (s len : Int) : Int := if (ok && v) = true then (if len ≤ s then 0 else 2) else 1
theorem whC_no {ok v : Bool} {s len : Int} (h : (ok && v) = false) : whC ok v s len = 1 := by unfold whC; rw [h]; rfl
theorem whC_long {s len : Int} (h : ¬ len ≤ s) : whC true true s len = 2 := by unfold whC; rw [if_pos (by rfl), if_neg h]
theorem whC_fit {s len : Int} (h : len ≤ s) : whC true true s len = 0 := by unfold whC; rw [if_pos (by rfl), if_pos h]
theorem whC_bad {ok v : Bool} {s len x y : Int} (h : whC ok v s len = y) (hy : ¬ y = 0) : toC ok v s len x = y := by
  subst h
  cases ok
  · rw [toC_no rfl, whC_no rfl]
  · cases v
    · rw [toC_no rfl, whC_no rfl]
    · by_cases hl : len ≤ s
      · rw [whC_fit hl] at hy; exact absurd rfl hy
      · rw [whC_long hl, toC_yes, decide_eq_false hl, Bool.false_and, unl_false]
theorem whC_ok {ok v : Bool} {s len : Int} (h : whC ok v s len = 0) : ok = true ∧ v = true := by
  cases ok
  · rw [whC_no rfl] at h; exact absurd h (by decide)
  · cases v
    · rw [whC_no rfl] at h; exact absurd h (by decide)
    · exact ⟨rfl, rfl⟩
attribute [irreducible] whC
set_option maxRecDepth 100000 in
set_option maxHeartbeats 1000000 in
theorem l03Whole_any (gf gd Td : Nat) (s : Int) (a : Option Addr) (n c : Nat) (P R : Nat → Int) (q : Option Addr) (l e0 : Nat) (A B : Nat → Int) (E : Nat → Nat) (w : World) (hs : -32768 ≤ s ∧ s ≤ 32767) (hn : n ≤ 1048576) (hP : I8 P) (hR : I8 R) (hh : HamAt w a n P R) (hl : l ≤ 1048576) (hA : I16 A) (hB : I8 B) (ht : NoteAt w q l A B) (hf : w.heap[gf]? = some (.cells #[.int .i16 s, .slice a n c] 27 (0, 0))) (hd : DrumAt w Td gd E) :
    Calls Try.prog 99 #[.pointer (some ⟨gf, 0, none⟩), .slice q l e0, .pointer (some ⟨gd, 0, none⟩)] w fun e w' => e = .returned (.int .i64 (whC (okAll s n P R 1 (fun _ => E)) (vTune l A B) s (tLen l A))) ∧ Below w.heap.size w w' := by
  have HP := Lib.hid hP; have HR := Lib.hid hR; have HA := Lib.hid hA; have HB := Lib.hid hB
  clear hP hR hA hB
  have KB := Kp.base w
  have KH := kp_ham hh; have KT := kp_note ht; have KF := kp_row hf; have KD := kp_drum hd; clear hh ht hf hd
  rw [okAll_one]
  obtain ⟨ok, hok⟩ : ∃ y, vFrame s n P R = y := ⟨_, rfl⟩
  obtain ⟨v, hv⟩ : ∃ y, vTune l A B = y := ⟨_, rfl⟩
  obtain ⟨d, hdd⟩ : ∃ y, vDrum s n E = y := ⟨_, rfl⟩
  obtain ⟨y, hy⟩ : ∃ y, tLen l A = y := ⟨_, rfl⟩
  rw [hok, hv, hy, hdd]
  have HOK := Lib.hid hok; have HV := Lib.hid hv; have HY := Lib.hid hy; have HD := Lib.hid hdd; clear hok hv hy hdd
  cases ok
  · have HT := Lib.hid (whC_no (ok := false && d) (v := v) (s := s) (len := y) (by simp))
    go_enter Try.func99, Try.ntmps99
    go_wp2_with (go_at_call 91; refine (l02Frame_any gf s a n c P R w (by omega) hs HP.out HR.out (row_lt KF.here) (row_cell 0 KF.here) (row_cell 1 KF.here) KH.here).mono ?_; rw [HOK.out]; rintro e w1 ⟨rfl, hb1⟩)
    go_ret
    exact ⟨ret_int HT.out.symm, KB.at hb1⟩
  · cases v
    · have HT := Lib.hid (whC_no (ok := true && d) (v := false) (s := s) (len := y) (by simp))
      go_enter Try.func99, Try.ntmps99
      go_wp2_with (first | (go_at_call 91; refine (l02Frame_any gf s a n c P R w (by omega) hs HP.out HR.out (row_lt KF.here) (row_cell 0 KF.here) (row_cell 1 KF.here) KH.here).mono ?_; rw [HOK.out]; rintro e w1 ⟨rfl, hb1⟩) | (go_at_call 51; refine (l01Ok_any q l e0 A B _ (by omega) HA.out HB.out (KT.at hb1)).mono ?_; rw [HV.out]; rintro e w2 ⟨rfl, hb2⟩))
      go_ret
      exact ⟨ret_int HT.out.symm, (KB.on hb1).at hb2⟩
    · obtain ⟨hs2, hn2, hr⟩ := vFrame_iff.1 HOK.out
      have HRX := Lib.hid hr; clear hr
      cases d
      · have HT := Lib.hid (whC_no (ok := true && false) (v := true) (s := s) (len := y) (by simp))
        go_enter Try.func99, Try.ntmps99
        go_wp2_with (first | (go_at_call 91; refine (l02Frame_any gf s a n c P R w (by omega) hs HP.out HR.out (row_lt KF.here) (row_cell 0 KF.here) (row_cell 1 KF.here) KH.here).mono ?_; rw [HOK.out]; rintro e w1 ⟨rfl, hb1⟩) | (go_at_call 51; refine (l01Ok_any q l e0 A B _ (by omega) HA.out HB.out (KT.at hb1)).mono ?_; rw [HV.out]; rintro e w2 ⟨rfl, hb2⟩) | (go_at_call 112; refine (l02Drum_any gf gd s a n c E w2 (by omega) (by omega) (by omega) (row_cell 0 ((KF.on hb1).at hb2)) (row_cell 1 ((KF.on hb1).at hb2)) (DrumAt.cells ((KD.on hb1).at hb2))).mono ?_; rw [HD.out]; rintro e w3 ⟨rfl, q3, rfl⟩))
        go_ret
        exact ⟨ret_int HT.out.symm, below_drewN ((KB.on hb1).at hb2) _⟩
      · go_enter Try.func99, Try.ntmps99
        go_wp2_with (first | (go_at_call 91; refine (l02Frame_any gf s a n c P R w (by omega) hs HP.out HR.out (row_lt KF.here) (row_cell 0 KF.here) (row_cell 1 KF.here) KH.here).mono ?_; rw [HOK.out]; rintro e w1 ⟨rfl, hb1⟩) | (go_at_call 51; refine (l01Ok_any q l e0 A B _ (by omega) HA.out HB.out (KT.at hb1)).mono ?_; rw [HV.out]; rintro e w2 ⟨rfl, hb2⟩) | (go_at_call 112; refine (l02Drum_any gf gd s a n c E w2 (by omega) (by omega) (by omega) (row_cell 0 ((KF.on hb1).at hb2)) (row_cell 1 ((KF.on hb1).at hb2)) (DrumAt.cells ((KD.on hb1).at hb2))).mono ?_; rw [HD.out]; rintro e w3 ⟨rfl, q3, rfl⟩))
        have hbq := below_drewN (Below.refl w2.heap.size w2) q3
        replace KB := ((KB.on hb1).on hb2).on hbq
        replace KT := ((KT.on hb1).on hb2).on hbq
        replace KF := ((KF.on hb1).on hb2).on hbq
        generalize w2.drewN q3 = w4 at KB KT KF ⊢
        have c0 := row_cell 0 KF.here
        have HLEN := Lib.hid (fun N : Nat => l01Length_any q l e0 A B (w4.drewN N) (by omega) HA.out (KT.at (below_drewN (Below.refl _ _) N)))
        rw [HY.out] at HLEN
        have q3 := i64_id (x := s) (by omega)
        by_cases h1 : y ≤ s
        · have h1' : ¬ s < y := by omega
          have HT := Lib.hid (whC_fit h1)
          go_quiet ((go_at_call 53; exact q_same (HLEN.out _)))
          go_wp2
          go_ret
          exact ⟨ret_int HT.out.symm, below_drewN KB.here _⟩
        · have h1' : s < y := by omega
          have HT := Lib.hid (whC_long h1)
          go_quiet ((go_at_call 53; exact q_same (HLEN.out _)))
          go_wp2
          go_ret
          exact ⟨ret_int HT.out.symm, below_drewN KB.here _⟩
set_option maxRecDepth 100000 in
set_option maxHeartbeats 4000000 in
theorem implPinLike_any (s : Int) (a : Option Addr) (n c : Nat) (P R : Nat → Int) (E : Nat → Nat) (q : Option Addr) (l e0 : Nat) (A B : Nat → Int) (x : Int) (w : World) (hs : -32768 ≤ s ∧ s ≤ 32767) (hn : n ≤ 1048576) (hP : I8 P) (hR : I8 R) (hh : HamAt w a n P R) (hE : D32 E) (hl : l ≤ 1048576) (hA : I16 A) (hB : I8 B) (ht : NoteAt w q l A B) (hx64 : -9223372036854775808 ≤ x ∧ x ≤ 9223372036854775807) :
    Calls Try.prog 50 #[.agg #[.int .i16 s, .slice a n c], .agg (dc E), .slice q l e0, .int .i64 x] w fun e w' => e = .returned (.tuple #[.agg (dc (pkD s n P R E l A B x)), .int .i64 (pkM s n P R E l A B x), .int .i64 (pkT s n P R E l A B x), .int .i64 (pkC s n P R E l A B x)]) ∧ Below w.heap.size w w' := by
  have HP := Lib.hid hP; have HR := Lib.hid hR; have HA := Lib.hid hA; have HB := Lib.hid hB; have HE := Lib.hid hE
  clear hP hR hA hB hE
  have KB := Kp.base w
  have KH := kp_ham hh; have KT := kp_note ht; clear hh ht
  obtain ⟨hD1, hM1, hT1, hC1⟩ := pk_def s n P R E l A B x
  have hA1 := plA_def s n P R E l A B x
  have hS1 := plS_def s n P R E l A B x
  rw [hD1, hM1, hT1, hC1]
  obtain ⟨st, hst⟩ : ∃ t, plS s n P R E l A B x = t := ⟨_, rfl⟩
  obtain ⟨c0, hc0⟩ : ∃ t, plA s n P R E l A B x = t := ⟨_, rfl⟩
  rw [hst] at hS1 ⊢
  rw [hc0] at hA1 ⊢
  have HS0 := Lib.hid hS1
  have HA1 := Lib.hid hA1
  clear hD1 hM1 hT1 hC1 hst hc0 hS1 hA1
  replace KB := KB.alloc (.cells #[.int .i16 s, .slice a n c] 27)
  replace KH := KH.alloc (.cells #[.int .i16 s, .slice a n c] 27)
  replace KT := KT.alloc (.cells #[.int .i16 s, .slice a n c] 27)
  have KF := kp_new1 w #[.int .i16 s, .slice a n c] 27 (g := w.heap.size) (by simp)
  replace KB := KB.alloc (.cells (dc E) 71)
  replace KH := KH.alloc (.cells (dc E) 71)
  replace KT := KT.alloc (.cells (dc E) 71)
  replace KF := KF.alloc (.cells (dc E) 71)
  have KE := kp_newd (w.alloc (.cells #[.int .i16 s, .slice a n c] 27)) (E) 71 (g := w.heap.size + 1) (by simp)
  replace KB := KB.alloc (.cells (dc fun _ => 0) 71)
  replace KH := KH.alloc (.cells (dc fun _ => 0) 71)
  replace KT := KT.alloc (.cells (dc fun _ => 0) 71)
  replace KF := KF.alloc (.cells (dc fun _ => 0) 71)
  replace KE := KE.alloc (.cells (dc fun _ => 0) 71)
  have K0 := kp_newd ((w.alloc (.cells #[.int .i16 s, .slice a n c] 27)).alloc (.cells (dc E) 71)) (fun _ => 0) 71 (g := w.heap.size + 1 + 1) (by simp)
  replace KB := KB.alloc (.cells (dc E) 71)
  replace KH := KH.alloc (.cells (dc E) 71)
  replace KT := KT.alloc (.cells (dc E) 71)
  replace KF := KF.alloc (.cells (dc E) 71)
  replace KE := KE.alloc (.cells (dc E) 71)
  replace K0 := K0.alloc (.cells (dc E) 71)
  have KL := kp_newd (((w.alloc (.cells #[.int .i16 s, .slice a n c] 27)).alloc (.cells (dc E) 71)).alloc (.cells (dc fun _ => 0) 71)) (E) 71 (g := w.heap.size + 1 + 1 + 1) (by simp)
  have HZ := Lib.hid (show ((((w.alloc (.cells #[.int .i16 s, .slice a n c] 27)).alloc (.cells (dc E) 71)).alloc (.cells (dc fun _ => 0) 71)).alloc (.cells (dc E) 71)).heap.size = w.heap.size + 1 + 1 + 1 + 1 by simp)
  have KE0 := kp_newd (w.alloc (.cells #[.int .i16 s, .slice a n c] 27)) E 71 (g := w.heap.size + 1) (by simp)
  have KF3 := ((kp_new1 w #[.int .i16 s, .slice a n c] 27 (g := w.heap.size) rfl).alloc (.cells (dc E) 71)).alloc (.cells (dc fun _ => 0) 71)
  have KE3 := KE0.alloc (.cells (dc fun _ => 0) 71)
  go_enter Try.func50, Try.ntmps50
  go_wp2_with (first | (with_reducible refine load_iframe rfl _ rfl w.heap.size rfl _ s a n c KF3.here ?_) | (with_reducible refine load_drum rfl _ rfl (w.heap.size + 1) rfl _ E KE3.here ?_) | (with_reducible refine build1 rfl _ rfl E rfl ?_) | (with_reducible refine alloc_drum ?_ ?_ ?_; with_reducible rfl; with_reducible rfl))
  clear KE0 KE3 KF3
  generalize ((((w.alloc (.cells #[.int .i16 s, .slice a n c] 27)).alloc (.cells (dc E) 71)).alloc (.cells (dc fun _ => 0) 71)).alloc (.cells (dc E) 71)) = W at KB KH KT KF KE K0 KL HZ ⊢
  clear HZ
  refine (tuneOnCode_any s a n c P R q l e0 A B x (some ⟨w.heap.size + 1 + 1 + 1, 0, none⟩) 1 1 (fun _ => E) W hs hn HP.out HR.out KH.here hl HA.out HB.out KT.here hx64 (by omega) (drums_one KL.here)).mono ?_
  rw [← HA1.out]
  rintro e w1 ⟨rfl, hb1⟩
  replace KB := KB.on hb1
  replace KH := KH.on hb1
  replace KT := KT.on hb1
  replace KF := KF.on hb1
  replace K0 := K0.on hb1
  replace KE := KE.on hb1
  clear hb1 KL
  by_cases h0 : c0 = 0
  ·
    subst h0
    obtain ⟨hs2, hn2, hr, hl2, hA2, hB2, hxb⟩ := to_facts HA1.out.symm (fun h => (okAll_iff.1 h).1)
    obtain ⟨m, rfl⟩ : ∃ m : Nat, s = m := ⟨s.toNat, by omega⟩
    have hs2' : 2 ≤ m ∧ m ≤ 96 := by omega
    have HRR := Lib.hid (show ∀ t, t < n → 1 ≤ R t ∧ R t ≤ m from fun t ht => ⟨(hr t ht).2.1, (hr t ht).2.2.1⟩)
    have HA2 := Lib.hid hA2
    have hS1 := HS0.out
    rw [Int.toNat_natCast] at hS1
    have HS1 := Lib.hid hS1
    have HCO := Lib.hid (ps_code (st := st) (rfl : (0 : Int) = 0))
    clear hr hA2 hB2 HA1 HS0 hS1
    have hgr : w.heap.size + 1 + 1 < w1.heap.size := K0.here.lt
    have hPN := pn_new w1 m a n c q l e0 E x true
    have hbN : Below w1.heap.size w1 (w1.alloc (.cells (cf 201 (pnC m a n c q l e0 E x true st0)) 141)) := (Below.refl _ _).alloc (Nat.le_refl _) _
    have HPIN := Lib.hid (pin_any w1 w1.heap.size m a n c P R q l e0 A B E x true (Nat.le_refl _) hs2' hn2.2 HRR.out HP.out KH hl2 HA2.out HB.out KT HE.out hxb.2 l (fun _ => 0) 0 0 st0 _ (by omega) (fun _ => by show 0 < _; decide) (by omega) (by omega) (st0_ok hxb.1) (st0_run true) hbN hPN)
    rw [← HS1.out] at HPIN
    clear hPN
    go_wp2_with (first | (with_reducible refine load_iframe rfl _ rfl w.heap.size rfl _ (m : Int) a n c KF.here ?_) | (with_reducible refine load_drum rfl _ rfl (w.heap.size + 1) rfl _ E KE.here ?_) | (with_reducible refine build_pnL rfl _ _ _ _ _ rfl (m : Int) a n c q l e0 E x rfl rfl rfl rfl rfl ?_) | (with_reducible refine build_drum rfl rfl ?_))
    refine HPIN.out.mono ?_
    rintro e w2 ⟨rfl, hP2, hk2⟩
    have hb2 := hk2.below (B := w1.heap.size) hbN (Nat.le_refl _) hbN.size
    replace KB := KB.on hb2
    replace K0 := K0.on hb2
    have HBK := Lib.hid hP2
    clear hP2 hk2 hbN HPIN hb2
    go_wp2_with fail
    refine (code_any w1.heap.size m a n c q l e0 E x true st w2 HBK.out).mono ?_
    rw [← HCO.out]
    rintro e w3 ⟨rfl, rfl⟩
    by_cases hz : psCode 0 st = 0
    · have HR := Lib.hid (ps_yes hz)
      have hbz : (psCode 0 st != 0) = false := by rw [hz]; rfl
      have HZ := Lib.hid hz
      clear hz
      go_wp2
      have hS0 : KeepO (w.heap.size + 1 + 1) w2 w2.drew := KeepO.of (below_drew w2)
      have hne : w1.heap.size ≠ w.heap.size + 1 + 1 := by omega
      have hS1 := hS0.setRow (dc st.best)
      refine wp_region_S (fun V => KeepO (w.heap.size + 1 + 1) w2 V) (by kernel_rfl) hS0 ?_
      refine take_val 0 (.pointer (some ⟨w1.heap.size, 0, none⟩)) rfl (by kernel_rfl) (by kernel_rfl) (by kernel_rfl) (fun _ _ _ h => h) rfl (fun V hV => by simp [go_sem]) hS0 ?_
      simp only [List.getElem_toArray, List.getElem_cons_zero, List.getElem_cons_succ, Act.put, List.setIfInBounds_toArray, List.set_cons_zero, List.set_cons_succ]
      refine take_val 1 (.pointer (some ⟨w1.heap.size, 0, none⟩)) rfl (by kernel_rfl) (by kernel_rfl) (by kernel_rfl) (fun _ _ _ h => h) rfl (fun V hV => by simp [go_sem]) hS0 ?_
      simp only [List.getElem_toArray, List.getElem_cons_zero, List.getElem_cons_succ, Act.put, List.setIfInBounds_toArray, List.set_cons_zero, List.set_cons_succ]
      refine take_val 2 (.pointer (some ⟨w1.heap.size, 104, none⟩)) rfl (by kernel_rfl) (by kernel_rfl) (by kernel_rfl) (fun _ _ _ h => h) rfl (fun V hV => by simp [go_sem]) hS0 ?_
      simp only [List.getElem_toArray, List.getElem_cons_zero, List.getElem_cons_succ, Act.put, List.setIfInBounds_toArray, List.set_cons_zero, List.set_cons_succ]
      refine take_val 3 (.agg (dc st.best)) rfl (by kernel_rfl) (by kernel_rfl) (by kernel_rfl) (fun _ _ _ h => h) rfl (fun V hV => ex_load_drum_mid _ rfl w1.heap.size 104 rfl _ ((HBK.out.keep hV hne).best)) hS0 ?_
      simp only [List.getElem_toArray, List.getElem_cons_zero, List.getElem_cons_succ, Act.put, List.setIfInBounds_toArray, List.set_cons_zero, List.set_cons_succ]
      refine take_val 4 (.pointer (some ⟨w1.heap.size, 0, none⟩)) rfl (by kernel_rfl) (by kernel_rfl) (by kernel_rfl) (fun _ _ _ h => h) rfl (fun V hV => by simp [go_sem]) hS0 ?_
      simp only [List.getElem_toArray, List.getElem_cons_zero, List.getElem_cons_succ, Act.put, List.setIfInBounds_toArray, List.set_cons_zero, List.set_cons_succ]
      refine take_val 5 (.pointer (some ⟨w1.heap.size, 0, none⟩)) rfl (by kernel_rfl) (by kernel_rfl) (by kernel_rfl) (fun _ _ _ h => h) rfl (fun V hV => by simp [go_sem]) hS0 ?_
      simp only [List.getElem_toArray, List.getElem_cons_zero, List.getElem_cons_succ, Act.put, List.setIfInBounds_toArray, List.set_cons_zero, List.set_cons_succ]
      refine take_val 6 (.pointer (some ⟨w1.heap.size, 103, none⟩)) rfl (by kernel_rfl) (by kernel_rfl) (by kernel_rfl) (fun _ _ _ h => h) rfl (fun V hV => by simp [go_sem]) hS0 ?_
      simp only [List.getElem_toArray, List.getElem_cons_zero, List.getElem_cons_succ, Act.put, List.setIfInBounds_toArray, List.set_cons_zero, List.set_cons_succ]
      refine take_val 7 (.int .i64 st.most) rfl (by kernel_rfl) (by kernel_rfl) (by kernel_rfl) (fun _ _ _ h => h) rfl (fun V hV => by have c := (HBK.out.keep hV hne).c103; simp [go_sem, c]) hS0 ?_
      simp only [List.getElem_toArray, List.getElem_cons_zero, List.getElem_cons_succ, Act.put, List.setIfInBounds_toArray, List.set_cons_zero, List.set_cons_succ]
      refine take_val 8 (.pointer (some ⟨w1.heap.size, 0, none⟩)) rfl (by kernel_rfl) (by kernel_rfl) (by kernel_rfl) (fun _ _ _ h => h) rfl (fun V hV => by simp [go_sem]) hS0 ?_
      simp only [List.getElem_toArray, List.getElem_cons_zero, List.getElem_cons_succ, Act.put, List.setIfInBounds_toArray, List.set_cons_zero, List.set_cons_succ]
      refine take_val 9 (.pointer (some ⟨w1.heap.size, 0, none⟩)) rfl (by kernel_rfl) (by kernel_rfl) (by kernel_rfl) (fun _ _ _ h => h) rfl (fun V hV => by simp [go_sem]) hS0 ?_
      simp only [List.getElem_toArray, List.getElem_cons_zero, List.getElem_cons_succ, Act.put, List.setIfInBounds_toArray, List.set_cons_zero, List.set_cons_succ]
      refine take_val 10 (.pointer (some ⟨w1.heap.size, 100, none⟩)) rfl (by kernel_rfl) (by kernel_rfl) (by kernel_rfl) (fun _ _ _ h => h) rfl (fun V hV => by simp [go_sem]) hS0 ?_
      simp only [List.getElem_toArray, List.getElem_cons_zero, List.getElem_cons_succ, Act.put, List.setIfInBounds_toArray, List.set_cons_zero, List.set_cons_succ]
      refine take_val 11 (.int .i64 st.tries) rfl (by kernel_rfl) (by kernel_rfl) (by kernel_rfl) (fun _ _ _ h => h) rfl (fun V hV => by have c := (HBK.out.keep hV hne).c100; simp [go_sem, c]) hS0 ?_
      simp only [List.getElem_toArray, List.getElem_cons_zero, List.getElem_cons_succ, Act.put, List.setIfInBounds_toArray, List.set_cons_zero, List.set_cons_succ]
      have h0 := K0.at (below_drew w2)
      refine step_skip 12 (w2.drew.setRow (w.heap.size + 1 + 1) (dc st.best)) (by kernel_rfl) rfl rfl (ex_store_drum _ _ rfl (w.heap.size + 1 + 1) st.best rfl rfl _ _ h0) hS1 ?_
      simp only [List.getElem_toArray, List.getElem_cons_zero, List.getElem_cons_succ, Act.put, List.setIfInBounds_toArray, List.set_cons_zero, List.set_cons_succ]
      refine take_val 13 (.int .i64 st.most) rfl (by kernel_rfl) (by kernel_rfl) (by kernel_rfl) (fun _ _ _ h => h) rfl (fun V hV => by simp [go_sem]) hS1 ?_
      simp only [List.getElem_toArray, List.getElem_cons_zero, List.getElem_cons_succ, Act.put, List.setIfInBounds_toArray, List.set_cons_zero, List.set_cons_succ]
      refine take_val 14 (.int .i64 st.tries) rfl (by kernel_rfl) (by kernel_rfl) (by kernel_rfl) (fun _ _ _ h => h) rfl (fun V hV => by simp [go_sem]) hS1 ?_
      simp only [List.getElem_toArray, List.getElem_cons_zero, List.getElem_cons_succ, Act.put, List.setIfInBounds_toArray, List.set_cons_zero, List.set_cons_succ]
      refine take_val 15 (.int .i64 0) rfl (by kernel_rfl) (by kernel_rfl) (by kernel_rfl) (fun _ _ _ h => h) rfl (fun V hV => by simp [go_sem]) hS1 ?_
      simp only [List.getElem_toArray, List.getElem_cons_zero, List.getElem_cons_succ, Act.put, List.setIfInBounds_toArray, List.set_cons_zero, List.set_cons_succ]
      refine wpAnyH_done (by kernel_rfl) ?_ _
      go_wp2
      refine bodyPost_ret (results_drum4 rfl _ _ (w.heap.size + 1 + 1) _ st.best (.int .i64 st.most) (.int .i64 st.tries) (.int .i64 0) rfl (h0.setRow _) rfl rfl rfl) rfl ⟨by rw [HR.out.1, HR.out.2.1, HR.out.2.2, HZ.out], below_setRow (KB.at (below_drew w2)) (by omega) _⟩
    · have HR := Lib.hid (ps_fail (st := st) rfl hz)
      have hbz : (psCode 0 st != 0) = true := by simp [hz]
      have h1 := K0.here
      go_wp2_with (first | (with_reducible refine build_drum rfl rfl ?_) | (with_reducible refine store_drum rfl _ _ rfl (w.heap.size + 1 + 1) (fun _ => 0) rfl rfl _ _ h1 ?_))
      refine bodyPost_ret (results_drum4 rfl _ _ (w.heap.size + 1 + 1) _ (fun _ => 0) (.int .i64 0) (.int .i64 0) (.int .i64 (psCode 0 st)) rfl (DrumAt.setRow h1 _) rfl rfl rfl) rfl ⟨by rw [HR.out.1, HR.out.2.1, HR.out.2.2], below_setRow KB.here (by omega) _⟩
  · have HR1 := Lib.hid (ps_bad (st := st) (rfl : c0 = c0) h0)
    clear HA1 HS0
    have h1 := K0.here
    go_wp2_with (first | (with_reducible refine build_drum rfl rfl ?_) | (with_reducible refine store_drum rfl _ _ rfl (w.heap.size + 1 + 1) (fun _ => 0) rfl rfl _ _ h1 ?_))
    refine bodyPost_ret (results_drum4 rfl _ _ (w.heap.size + 1 + 1) _ (fun _ => 0) (.int .i64 0) (.int .i64 0) (.int .i64 c0) rfl (DrumAt.setRow h1 _) rfl rfl rfl) rfl ⟨by rw [HR1.out.1, HR1.out.2.1, HR1.out.2.2.1, HR1.out.2.2.2], below_setRow KB.here (by omega) _⟩
set_option maxRecDepth 100000 in
set_option maxHeartbeats 4000000 in
theorem specPinLike_any (s : Int) (a : Option Addr) (n c : Nat) (P R : Nat → Int) (E : Nat → Nat) (q : Option Addr) (l e0 : Nat) (A B : Nat → Int) (x : Int) (w : World) (hs : -32768 ≤ s ∧ s ≤ 32767) (hn : n ≤ 1048576) (hP : I8 P) (hR : I8 R) (hh : HamAt w a n P R) (hE : D32 E) (hl : l ≤ 1048576) (hA : I16 A) (hB : I8 B) (ht : NoteAt w q l A B) (hx64 : -9223372036854775808 ≤ x ∧ x ≤ 9223372036854775807) :
    Calls Try.prog 48 #[.agg #[.int .i16 s, .slice a n c], .agg (dc E), .slice q l e0, .int .i64 x] w fun e w' => e = .returned (.tuple #[.agg (dc (pkD s n P R E l A B x)), .int .i64 (pkM s n P R E l A B x), .int .i64 (pkT s n P R E l A B x), .int .i64 (pkC s n P R E l A B x)]) ∧ Below w.heap.size w w' := by
  have HP := Lib.hid hP; have HR := Lib.hid hR; have HA := Lib.hid hA; have HB := Lib.hid hB; have HE := Lib.hid hE
  clear hP hR hA hB hE
  have KB := Kp.base w
  have KH := kp_ham hh; have KT := kp_note ht; clear hh ht
  obtain ⟨hD1, hM1, hT1, hC1⟩ := pk_def s n P R E l A B x
  have hA1 := plA_def s n P R E l A B x
  have hS1 := plS_def s n P R E l A B x
  rw [hD1, hM1, hT1, hC1]
  obtain ⟨st, hst⟩ : ∃ t, plS s n P R E l A B x = t := ⟨_, rfl⟩
  obtain ⟨c0, hc0⟩ : ∃ t, plA s n P R E l A B x = t := ⟨_, rfl⟩
  rw [hst] at hS1 ⊢
  rw [hc0] at hA1 ⊢
  have HS0 := Lib.hid hS1
  have HA1 := Lib.hid hA1
  clear hD1 hM1 hT1 hC1 hst hc0 hS1 hA1
  replace KB := KB.alloc (.cells #[.int .i16 s, .slice a n c] 27)
  replace KH := KH.alloc (.cells #[.int .i16 s, .slice a n c] 27)
  replace KT := KT.alloc (.cells #[.int .i16 s, .slice a n c] 27)
  have KF := kp_new1 w #[.int .i16 s, .slice a n c] 27 (g := w.heap.size) (by simp)
  replace KB := KB.alloc (.cells (dc E) 71)
  replace KH := KH.alloc (.cells (dc E) 71)
  replace KT := KT.alloc (.cells (dc E) 71)
  replace KF := KF.alloc (.cells (dc E) 71)
  have KE := kp_newd (w.alloc (.cells #[.int .i16 s, .slice a n c] 27)) (E) 71 (g := w.heap.size + 1) (by simp)
  replace KB := KB.alloc (.cells (dc fun _ => 0) 71)
  replace KH := KH.alloc (.cells (dc fun _ => 0) 71)
  replace KT := KT.alloc (.cells (dc fun _ => 0) 71)
  replace KF := KF.alloc (.cells (dc fun _ => 0) 71)
  replace KE := KE.alloc (.cells (dc fun _ => 0) 71)
  have K0 := kp_newd ((w.alloc (.cells #[.int .i16 s, .slice a n c] 27)).alloc (.cells (dc E) 71)) (fun _ => 0) 71 (g := w.heap.size + 1 + 1) (by simp)
  have HZ := Lib.hid (show (((w.alloc (.cells #[.int .i16 s, .slice a n c] 27)).alloc (.cells (dc E) 71)).alloc (.cells (dc fun _ => 0) 71)).heap.size = w.heap.size + 1 + 1 + 1 by simp)
  go_enter Try.func48, Try.ntmps48
  go_wp2_with (with_reducible refine alloc_drum ?_ ?_ ?_; with_reducible rfl; with_reducible rfl)
  generalize (((w.alloc (.cells #[.int .i16 s, .slice a n c] 27)).alloc (.cells (dc E) 71)).alloc (.cells (dc fun _ => 0) 71)) = W at KB KH KT KF KE K0 HZ ⊢
  clear HZ
  refine (l03Whole_any w.heap.size (w.heap.size + 1) 71 s a n c P R q l e0 A B E W hs hn HP.out HR.out KH.here hl HA.out HB.out KT.here KF.here KE.here).mono ?_
  rintro e wa ⟨rfl, hba⟩
  replace KB := KB.on hba
  replace KH := KH.on hba
  replace KT := KT.on hba
  replace KF := KF.on hba
  replace K0 := K0.on hba
  replace KE := KE.on hba
  clear hba
  obtain ⟨wc, hwc⟩ : ∃ y, whC (okAll s n P R 1 (fun _ => E)) (vTune l A B) s (tLen l A) = y := ⟨_, rfl⟩
  rw [hwc]
  by_cases hw0 : wc = 0
  · subst hw0
    have hok := whC_ok hwc
    have hvf : vFrame s n P R = true := (okAll_iff.1 hok.1).1
    have hA1 := HA1.out
    rw [hok.1, ← hvf] at hA1
    have HA3 := Lib.hid hA1
    clear hwc hok hA1 hvf
    go_wp2_with fail
    refine (l03Fits_any w.heap.size s a n c P R q l e0 A B x wa hs hn HP.out HR.out KH.here hl HA.out HB.out KT.here hx64 KF.here).mono ?_
    rw [← HA3.out]
    rintro e w1 ⟨rfl, hb1⟩
    replace KB := KB.on hb1
    replace KH := KH.on hb1
    replace KT := KT.on hb1
    replace KF := KF.on hb1
    replace K0 := K0.on hb1
    replace KE := KE.on hb1
    clear hb1 HA3
    by_cases h0 : c0 = 0
    ·
      subst h0
      obtain ⟨hs2, hn2, hr, hl2, hA2, hB2, hxb⟩ := to_facts HA1.out.symm (fun h => (okAll_iff.1 h).1)
      obtain ⟨m, rfl⟩ : ∃ m : Nat, s = m := ⟨s.toNat, by omega⟩
      have hs2' : 2 ≤ m ∧ m ≤ 96 := by omega
      have HRR := Lib.hid (show ∀ t, t < n → 1 ≤ R t ∧ R t ≤ m from fun t ht => ⟨(hr t ht).2.1, (hr t ht).2.2.1⟩)
      have HA2 := Lib.hid hA2
      have hS1 := HS0.out
      rw [Int.toNat_natCast] at hS1
      have HS1 := Lib.hid hS1
      have HCO := Lib.hid (ps_code (st := st) (rfl : (0 : Int) = 0))
      clear hr hA2 hB2 HA1 HS0 hS1
      have hgr : w.heap.size + 1 + 1 < w1.heap.size := K0.here.lt
      have hSN := sn_new w1 w.heap.size q l e0 E x true (fun _ => 0)
      have hbN : Below w1.heap.size w1 (w1.alloc (.cells (cf 296 (snC w.heap.size q l e0 E x true (fun _ => 0) st0)) 136)) := (Below.refl _ _).alloc (Nat.le_refl _) _
      have HFR := Lib.hid (from_any w1 w1.heap.size w.heap.size 27 m a n c P R q l e0 A B E x true (Nat.le_refl _) hs2' hn2.2 HRR.out HP.out KF KH hl2 HA2.out HB.out KT HE.out hxb.2 l (fun _ => 0) 0 0 st0 _ (by omega) (fun _ => by show 0 < _; decide) (by omega) (by omega) (st0_ok hxb.1) (st0_run true) hbN hSN)
      rw [← HS1.out] at HFR
      clear hSN
      go_wp2_with (first | (with_reducible refine load_drum rfl _ rfl (w.heap.size + 1) rfl _ E KE.here ?_) | (with_reducible refine build_snL rfl _ _ _ _ _ rfl w.heap.size q l e0 E x rfl rfl rfl rfl rfl ?_))
      refine HFR.out.mono ?_
      rintro e w2 ⟨rfl, ⟨D', _, hS2⟩, hk2⟩
      have hb2 := hk2.below (B := w1.heap.size) hbN (Nat.le_refl _) hbN.size
      replace KB := KB.on hb2
      replace K0 := K0.on hb2
      have HBK := Lib.hid hS2
      clear hS2 hk2 hbN HFR hb2
      have hco := HCO.out
      have c101 := HBK.out.c101
      have c198 := HBK.out.c198
      obtain ⟨ov, hov⟩ : ∃ b, st.over = b := ⟨_, rfl⟩
      obtain ⟨fo, hfo⟩ : ∃ b, st.found = b := ⟨_, rfl⟩
      rw [hov] at c101 hco
      rw [hfo] at c198 hco
      clear hov hfo HCO
      have h1 := K0.here
      cases ov
      · cases fo
        · have hz : psCode 0 st = 6 := hco
          have HR := Lib.hid (ps_fail hz (by decide))
          have HZ := Lib.hid hz; clear hz hco
          go_wp2_with (first | (with_reducible refine build_drum rfl rfl ?_) | (with_reducible refine store_drum rfl _ _ rfl (w.heap.size + 1 + 1) (fun _ => 0) rfl rfl _ _ h1 ?_))
          refine bodyPost_ret (results_drum4 rfl _ _ (w.heap.size + 1 + 1) _ (fun _ => 0) (.int .i64 0) (.int .i64 0) (.int .i64 6) rfl (DrumAt.setRow h1 _) rfl rfl rfl) rfl ⟨by rw [HR.out.1, HR.out.2.1, HR.out.2.2, HZ.out], below_setRow KB.here (by omega) _⟩
        · have hz : psCode 0 st = 0 := hco
          have HR := Lib.hid (ps_yes hz)
          have HZ := Lib.hid hz; clear hz hco h1
          go_wp2
          have hS0 : KeepO (w.heap.size + 1 + 1) w2 w2.drew := KeepO.of (below_drew w2)
          have hne : w1.heap.size ≠ w.heap.size + 1 + 1 := by omega
          have hS1 := hS0.setRow (dc st.best)
          refine wp_region_S (fun V => KeepO (w.heap.size + 1 + 1) w2 V) (by kernel_rfl) hS0 ?_
          refine take_val 0 (.pointer (some ⟨w1.heap.size, 0, none⟩)) rfl (by kernel_rfl) (by kernel_rfl) (by kernel_rfl) (fun _ _ _ h => h) rfl (fun V hV => by simp [go_sem]) hS0 ?_
          simp only [List.getElem_toArray, List.getElem_cons_zero, List.getElem_cons_succ, Act.put, List.setIfInBounds_toArray, List.set_cons_zero, List.set_cons_succ]
          refine take_val 1 (.pointer (some ⟨w1.heap.size, 0, none⟩)) rfl (by kernel_rfl) (by kernel_rfl) (by kernel_rfl) (fun _ _ _ h => h) rfl (fun V hV => by simp [go_sem]) hS0 ?_
          simp only [List.getElem_toArray, List.getElem_cons_zero, List.getElem_cons_succ, Act.put, List.setIfInBounds_toArray, List.set_cons_zero, List.set_cons_succ]
          refine take_val 2 (.pointer (some ⟨w1.heap.size, 199, none⟩)) rfl (by kernel_rfl) (by kernel_rfl) (by kernel_rfl) (fun _ _ _ h => h) rfl (fun V hV => by simp [go_sem]) hS0 ?_
          simp only [List.getElem_toArray, List.getElem_cons_zero, List.getElem_cons_succ, Act.put, List.setIfInBounds_toArray, List.set_cons_zero, List.set_cons_succ]
          refine take_val 3 (.agg (dc st.best)) rfl (by kernel_rfl) (by kernel_rfl) (by kernel_rfl) (fun _ _ _ h => h) rfl (fun V hV => ex_load_drum_mid _ rfl w1.heap.size 199 rfl _ ((HBK.out.keep hV hne).best)) hS0 ?_
          simp only [List.getElem_toArray, List.getElem_cons_zero, List.getElem_cons_succ, Act.put, List.setIfInBounds_toArray, List.set_cons_zero, List.set_cons_succ]
          refine take_val 4 (.pointer (some ⟨w1.heap.size, 0, none⟩)) rfl (by kernel_rfl) (by kernel_rfl) (by kernel_rfl) (fun _ _ _ h => h) rfl (fun V hV => by simp [go_sem]) hS0 ?_
          simp only [List.getElem_toArray, List.getElem_cons_zero, List.getElem_cons_succ, Act.put, List.setIfInBounds_toArray, List.set_cons_zero, List.set_cons_succ]
          refine take_val 5 (.pointer (some ⟨w1.heap.size, 0, none⟩)) rfl (by kernel_rfl) (by kernel_rfl) (by kernel_rfl) (fun _ _ _ h => h) rfl (fun V hV => by simp [go_sem]) hS0 ?_
          simp only [List.getElem_toArray, List.getElem_cons_zero, List.getElem_cons_succ, Act.put, List.setIfInBounds_toArray, List.set_cons_zero, List.set_cons_succ]
          refine take_val 6 (.pointer (some ⟨w1.heap.size, 295, none⟩)) rfl (by kernel_rfl) (by kernel_rfl) (by kernel_rfl) (fun _ _ _ h => h) rfl (fun V hV => by simp [go_sem]) hS0 ?_
          simp only [List.getElem_toArray, List.getElem_cons_zero, List.getElem_cons_succ, Act.put, List.setIfInBounds_toArray, List.set_cons_zero, List.set_cons_succ]
          refine take_val 7 (.int .i64 st.most) rfl (by kernel_rfl) (by kernel_rfl) (by kernel_rfl) (fun _ _ _ h => h) rfl (fun V hV => by have c := (HBK.out.keep hV hne).c295; simp [go_sem, c]) hS0 ?_
          simp only [List.getElem_toArray, List.getElem_cons_zero, List.getElem_cons_succ, Act.put, List.setIfInBounds_toArray, List.set_cons_zero, List.set_cons_succ]
          refine take_val 8 (.pointer (some ⟨w1.heap.size, 0, none⟩)) rfl (by kernel_rfl) (by kernel_rfl) (by kernel_rfl) (fun _ _ _ h => h) rfl (fun V hV => by simp [go_sem]) hS0 ?_
          simp only [List.getElem_toArray, List.getElem_cons_zero, List.getElem_cons_succ, Act.put, List.setIfInBounds_toArray, List.set_cons_zero, List.set_cons_succ]
          refine take_val 9 (.pointer (some ⟨w1.heap.size, 0, none⟩)) rfl (by kernel_rfl) (by kernel_rfl) (by kernel_rfl) (fun _ _ _ h => h) rfl (fun V hV => by simp [go_sem]) hS0 ?_
          simp only [List.getElem_toArray, List.getElem_cons_zero, List.getElem_cons_succ, Act.put, List.setIfInBounds_toArray, List.set_cons_zero, List.set_cons_succ]
          refine take_val 10 (.pointer (some ⟨w1.heap.size, 100, none⟩)) rfl (by kernel_rfl) (by kernel_rfl) (by kernel_rfl) (fun _ _ _ h => h) rfl (fun V hV => by simp [go_sem]) hS0 ?_
          simp only [List.getElem_toArray, List.getElem_cons_zero, List.getElem_cons_succ, Act.put, List.setIfInBounds_toArray, List.set_cons_zero, List.set_cons_succ]
          refine take_val 11 (.int .i64 st.tries) rfl (by kernel_rfl) (by kernel_rfl) (by kernel_rfl) (fun _ _ _ h => h) rfl (fun V hV => by have c := (HBK.out.keep hV hne).c100; simp [go_sem, c]) hS0 ?_
          simp only [List.getElem_toArray, List.getElem_cons_zero, List.getElem_cons_succ, Act.put, List.setIfInBounds_toArray, List.set_cons_zero, List.set_cons_succ]
          have h0 := K0.at (below_drew w2)
          refine step_skip 12 (w2.drew.setRow (w.heap.size + 1 + 1) (dc st.best)) (by kernel_rfl) rfl rfl (ex_store_drum _ _ rfl (w.heap.size + 1 + 1) st.best rfl rfl _ _ h0) hS1 ?_
          simp only [List.getElem_toArray, List.getElem_cons_zero, List.getElem_cons_succ, Act.put, List.setIfInBounds_toArray, List.set_cons_zero, List.set_cons_succ]
          refine take_val 13 (.int .i64 st.most) rfl (by kernel_rfl) (by kernel_rfl) (by kernel_rfl) (fun _ _ _ h => h) rfl (fun V hV => by simp [go_sem]) hS1 ?_
          simp only [List.getElem_toArray, List.getElem_cons_zero, List.getElem_cons_succ, Act.put, List.setIfInBounds_toArray, List.set_cons_zero, List.set_cons_succ]
          refine take_val 14 (.int .i64 st.tries) rfl (by kernel_rfl) (by kernel_rfl) (by kernel_rfl) (fun _ _ _ h => h) rfl (fun V hV => by simp [go_sem]) hS1 ?_
          simp only [List.getElem_toArray, List.getElem_cons_zero, List.getElem_cons_succ, Act.put, List.setIfInBounds_toArray, List.set_cons_zero, List.set_cons_succ]
          refine take_val 15 (.int .i64 0) rfl (by kernel_rfl) (by kernel_rfl) (by kernel_rfl) (fun _ _ _ h => h) rfl (fun V hV => by simp [go_sem]) hS1 ?_
          simp only [List.getElem_toArray, List.getElem_cons_zero, List.getElem_cons_succ, Act.put, List.setIfInBounds_toArray, List.set_cons_zero, List.set_cons_succ]
          refine wpAnyH_done (by kernel_rfl) ?_ _
          go_wp2
          refine bodyPost_ret (results_drum4 rfl _ _ (w.heap.size + 1 + 1) _ st.best (.int .i64 st.most) (.int .i64 st.tries) (.int .i64 0) rfl (h0.setRow _) rfl rfl rfl) rfl ⟨by rw [HR.out.1, HR.out.2.1, HR.out.2.2, HZ.out], below_setRow (KB.at (below_drew w2)) (by omega) _⟩
      · have hz : psCode 0 st = 7 := hco
        have HR := Lib.hid (ps_fail hz (by decide))
        have HZ := Lib.hid hz; clear hz hco
        go_wp2_with (first | (with_reducible refine build_drum rfl rfl ?_) | (with_reducible refine store_drum rfl _ _ rfl (w.heap.size + 1 + 1) (fun _ => 0) rfl rfl _ _ h1 ?_))
        refine bodyPost_ret (results_drum4 rfl _ _ (w.heap.size + 1 + 1) _ (fun _ => 0) (.int .i64 0) (.int .i64 0) (.int .i64 7) rfl (DrumAt.setRow h1 _) rfl rfl rfl) rfl ⟨by rw [HR.out.1, HR.out.2.1, HR.out.2.2, HZ.out], below_setRow KB.here (by omega) _⟩
    · have HR1 := Lib.hid (ps_bad (st := st) (rfl : c0 = c0) h0)
      clear HA1 HS0
      have h1 := K0.here
      go_wp2_with (first | (with_reducible refine build_drum rfl rfl ?_) | (with_reducible refine store_drum rfl _ _ rfl (w.heap.size + 1 + 1) (fun _ => 0) rfl rfl _ _ h1 ?_))
      refine bodyPost_ret (results_drum4 rfl _ _ (w.heap.size + 1 + 1) _ (fun _ => 0) (.int .i64 0) (.int .i64 0) (.int .i64 c0) rfl (DrumAt.setRow h1 _) rfl rfl rfl) rfl ⟨by rw [HR1.out.1, HR1.out.2.1, HR1.out.2.2.1, HR1.out.2.2.2], below_setRow KB.here (by omega) _⟩
  · have hcw := HA1.out.trans (whC_bad hwc hw0)
    subst hcw
    have HR1 := Lib.hid (ps_bad (st := st) (rfl : c0 = c0) hw0)
    clear HA1 HS0 hwc
    have h1 := K0.here
    go_wp2_with (first | (with_reducible refine build_drum rfl rfl ?_) | (with_reducible refine store_drum rfl _ _ rfl (w.heap.size + 1 + 1) (fun _ => 0) rfl rfl _ _ h1 ?_))
    refine bodyPost_ret (results_drum4 rfl _ _ (w.heap.size + 1 + 1) _ (fun _ => 0) (.int .i64 0) (.int .i64 0) (.int .i64 c0) rfl (DrumAt.setRow h1 _) rfl rfl rfl) rfl ⟨by rw [HR1.out.1, HR1.out.2.1, HR1.out.2.2.1, HR1.out.2.2.2], below_setRow KB.here (by omega) _⟩
end Go.Proofs.Ytpfjmoodfodfhaa
