/- PinTune, by the program and by the reference. No conditions. -/
import Derived.Test.YtpfjmoodfodfhaaPu
import Derived.Test.YtpfjmoodfodfhaaNew
import Derived.Outline
namespace Go.Proofs.Ytpfjmoodfodfhaa
open Go.RowKit
set_option linter.unusedVariables false
set_option linter.unusedSimpArgs false

theorem code_any (gp : Nat) (s : Int) (a : Option Addr) (n c : Nat) (q : Option Addr) (l e0 : Nat) (E : Nat → Nat) (x : Int) (like : Bool) (st : PnSt) (w : World) (h : PnAt w gp s a n c q l e0 E x like st) :
    Calls Try.prog 90 #[.pointer (some ⟨gp, 0, none⟩)] w fun e w' => e = .returned (.int .i64 (if st.over = true then 7 else if st.found = true then 0 else 6)) ∧ w = w' := by
  have c101 := h.c101
  have c102 := h.c102
  obtain ⟨ov, hov⟩ : ∃ b, st.over = b := ⟨_, rfl⟩
  obtain ⟨fo, hfo⟩ : ∃ b, st.found = b := ⟨_, rfl⟩
  rw [hov] at c101 ⊢
  rw [hfo] at c102 ⊢
  clear h hov hfo
  cases ov
  · cases fo
    · go_enter Try.func90, Try.ntmps90
      go_wp2
      go_ret
      exact ⟨rfl, rfl⟩
    · go_enter Try.func90, Try.ntmps90
      go_wp2
      go_ret
      exact ⟨rfl, rfl⟩
  · go_enter Try.func90, Try.ntmps90
    go_wp2
    go_ret
    exact ⟨rfl, rfl⟩
set_option maxRecDepth 100000 in
set_option maxHeartbeats 4000000 in
theorem implPinTune_any (s : Int) (a : Option Addr) (n c : Nat) (P R : Nat → Int) (q : Option Addr) (l e0 : Nat) (A B : Nat → Int) (x : Int) (w : World) (hs : -32768 ≤ s ∧ s ≤ 32767) (hn : n ≤ 1048576) (hP : I8 P) (hR : I8 R) (hh : HamAt w a n P R) (hl : l ≤ 1048576) (hA : I16 A) (hB : I8 B) (ht : NoteAt w q l A B) (hx64 : -9223372036854775808 ≤ x ∧ x ≤ 9223372036854775807) :
    Calls Try.prog 36 #[.agg #[.int .i16 s, .slice a n c], .slice q l e0, .int .i64 x] w fun e w' => e = .returned (.tuple #[.agg (dc (ptD s n P R l A B x)), .int .i64 (ptT s n P R l A B x), .int .i64 (ptC s n P R l A B x)]) ∧ Below w.heap.size w w' := by
  have HP := Lib.hid hP; have HR := Lib.hid hR; have HA := Lib.hid hA; have HB := Lib.hid hB
  clear hP hR hA hB
  have KB := Kp.base w
  have KH := kp_ham hh; have KT := kp_note ht; clear hh ht
  obtain ⟨hD1, hT1, hC1⟩ := pt_def s n P R l A B x
  have hA1 := ptA_def s n P R l A B x
  have hS1 := ptS_def s n P R l A B x
  rw [hD1, hT1, hC1]
  obtain ⟨st, hst⟩ : ∃ t, ptS s n P R l A B x = t := ⟨_, rfl⟩
  obtain ⟨c0, hc0⟩ : ∃ t, ptA s n P R l A B x = t := ⟨_, rfl⟩
  rw [hst] at hS1 ⊢
  rw [hc0] at hA1 ⊢
  have HS0 := Lib.hid hS1
  have HA1 := Lib.hid hA1
  clear hD1 hT1 hC1 hst hc0 hS1 hA1
  replace KB := KB.alloc (.cells #[.int .i16 s, .slice a n c] 27)
  replace KH := KH.alloc (.cells #[.int .i16 s, .slice a n c] 27)
  replace KT := KT.alloc (.cells #[.int .i16 s, .slice a n c] 27)
  have KF := kp_new1 w #[.int .i16 s, .slice a n c] 27 (g := w.heap.size) (by simp)
  replace KB := KB.alloc (.cells (dc fun _ => 0) 71)
  replace KH := KH.alloc (.cells (dc fun _ => 0) 71)
  replace KT := KT.alloc (.cells (dc fun _ => 0) 71)
  replace KF := KF.alloc (.cells (dc fun _ => 0) 71)
  have K0 := kp_newd (w.alloc (.cells #[.int .i16 s, .slice a n c] 27)) (fun _ => 0) 71 (g := w.heap.size + 1) (by simp)
  have HZ := Lib.hid (show ((w.alloc (.cells #[.int .i16 s, .slice a n c] 27)).alloc (.cells (dc fun _ => 0) 71)).heap.size = w.heap.size + 1 + 1 by simp)
  go_enter Try.func36, Try.ntmps36
  go_wp2_with (first | (with_reducible refine load_iframe rfl _ rfl w.heap.size rfl _ s a n c KF.here ?_) | (with_reducible refine alloc_drum ?_ ?_ ?_; with_reducible rfl; with_reducible rfl))
  generalize ((w.alloc (.cells #[.int .i16 s, .slice a n c] 27)).alloc (.cells (dc fun _ => 0) 71)) = W at KB KH KT KF K0 HZ ⊢
  clear HZ
  refine (tuneOnCode_any s a n c P R q l e0 A B x none 0 0 (fun _ _ => 0) W hs hn HP.out HR.out KH.here hl HA.out HB.out KT.here hx64 (by omega) (drumsNone W _)).mono ?_
  rw [okAll_none, ← HA1.out]
  rintro e w1 ⟨rfl, hb1⟩
  replace KB := KB.on hb1
  replace KH := KH.on hb1
  replace KT := KT.on hb1
  replace KF := KF.on hb1
  replace K0 := K0.on hb1
  clear hb1
  by_cases h0 : c0 = 0
  ·
    subst h0
    obtain ⟨hs2, hn2, hr, hl2, hA2, hB2, hxb⟩ := to_facts HA1.out.symm (fun h => h)
    obtain ⟨m, rfl⟩ : ∃ m : Nat, s = m := ⟨s.toNat, by omega⟩
    have hs2' : 2 ≤ m ∧ m ≤ 96 := by omega
    have HRR := Lib.hid (show ∀ t, t < n → 1 ≤ R t ∧ R t ≤ m from fun t ht => ⟨(hr t ht).2.1, (hr t ht).2.2.1⟩)
    have HA2 := Lib.hid hA2
    have hS1 := HS0.out
    rw [Int.toNat_natCast] at hS1
    have hokst := Lib.hid (pnB_ok (like := false) (budget := x) (E := fun _ => 0) (m := m) (P := P) (R := R) (A := A) (B := B) (l := l) hn2.2 l (fun _ => 0) 0 st0 (fun _ => by show 0 < _; decide) (by omega) (by omega) (st0_ok hxb.1))
    rw [← hS1] at hokst
    have HS1 := Lib.hid hS1
    have HCO := Lib.hid (ps_code (st := st) (rfl : (0 : Int) = 0))
    clear hr hA2 hB2 HA1 HS0 hS1
    have hgr : w.heap.size + 1 < w1.heap.size := K0.here.lt
    have hPN := pn_new w1 m a n c q l e0 (fun _ => 0) x false
    have hbN : Below w1.heap.size w1 (w1.alloc (.cells (cf 201 (pnC m a n c q l e0 (fun _ => 0) x false st0)) 141)) := (Below.refl _ _).alloc (Nat.le_refl _) _
    have HPIN := Lib.hid (pin_any w1 w1.heap.size m a n c P R q l e0 A B (fun _ => 0) x false (Nat.le_refl _) hs2' hn2.2 HRR.out HP.out KH hl2 HA2.out HB.out KT (fun _ => by show 0 < _; decide) hxb.2 l (fun _ => 0) 0 0 st0 _ (by omega) (fun _ => by show 0 < _; decide) (by omega) (by omega) (st0_ok hxb.1) (st0_run false) hbN hPN)
    rw [← HS1.out] at HPIN
    clear hPN
    go_wp2_with (first | (with_reducible refine load_iframe rfl _ rfl w.heap.size rfl _ (m : Int) a n c KF.here ?_) | (with_reducible refine build_pn rfl _ _ _ rfl (m : Int) a n c q l e0 x rfl rfl rfl ?_) | (with_reducible refine build_drum rfl rfl ?_))
    refine HPIN.out.mono ?_
    rintro e w2 ⟨rfl, hP2, hk2⟩
    have hb2 := hk2.below (B := w1.heap.size) hbN (Nat.le_refl _) hbN.size
    replace KB := KB.on hb2
    replace K0 := K0.on hb2
    have HP2 := Lib.hid hP2
    clear hP2 hk2 hbN HPIN hb2
    go_wp2_with fail
    refine (code_any w1.heap.size m a n c q l e0 (fun _ => 0) x false st w2 HP2.out).mono ?_
    rw [← HCO.out]
    rintro e w3 ⟨rfl, rfl⟩
    by_cases hz : psCode 0 st = 0
    · have HR := Lib.hid (ps_yes hz)
      have hbz : (psCode 0 st != 0) = false := by rw [hz]; rfl
      have HZ := Lib.hid hz
      clear hz
      go_wp2
      have hS0 : KeepO (w.heap.size + 1) w2 w2.drew := KeepO.of (below_drew w2)
      have hne : w1.heap.size ≠ w.heap.size + 1 := by omega
      have hS1 := hS0.setRow (dc st.best)
      refine wp_region_S (fun V => KeepO (w.heap.size + 1) w2 V) (by kernel_rfl) hS0 ?_
      refine take_val 0 (.pointer (some ⟨w1.heap.size, 0, none⟩)) rfl (by kernel_rfl) (by kernel_rfl) (by kernel_rfl) (fun _ _ _ h => h) rfl (fun V hV => by simp [go_sem]) hS0 ?_
      simp only [List.getElem_toArray, List.getElem_cons_zero, List.getElem_cons_succ, Act.put, List.setIfInBounds_toArray, List.set_cons_zero, List.set_cons_succ]
      refine take_val 1 (.pointer (some ⟨w1.heap.size, 0, none⟩)) rfl (by kernel_rfl) (by kernel_rfl) (by kernel_rfl) (fun _ _ _ h => h) rfl (fun V hV => by simp [go_sem]) hS0 ?_
      simp only [List.getElem_toArray, List.getElem_cons_zero, List.getElem_cons_succ, Act.put, List.setIfInBounds_toArray, List.set_cons_zero, List.set_cons_succ]
      refine take_val 2 (.pointer (some ⟨w1.heap.size, 104, none⟩)) rfl (by kernel_rfl) (by kernel_rfl) (by kernel_rfl) (fun _ _ _ h => h) rfl (fun V hV => by simp [go_sem]) hS0 ?_
      simp only [List.getElem_toArray, List.getElem_cons_zero, List.getElem_cons_succ, Act.put, List.setIfInBounds_toArray, List.set_cons_zero, List.set_cons_succ]
      refine take_val 3 (.agg (dc st.best)) rfl (by kernel_rfl) (by kernel_rfl) (by kernel_rfl) (fun _ _ _ h => h) rfl (fun V hV => ex_load_drum_mid _ rfl w1.heap.size 104 rfl _ ((HP2.out.keep hV hne).best)) hS0 ?_
      simp only [List.getElem_toArray, List.getElem_cons_zero, List.getElem_cons_succ, Act.put, List.setIfInBounds_toArray, List.set_cons_zero, List.set_cons_succ]
      refine take_val 4 (.pointer (some ⟨w1.heap.size, 0, none⟩)) rfl (by kernel_rfl) (by kernel_rfl) (by kernel_rfl) (fun _ _ _ h => h) rfl (fun V hV => by simp [go_sem]) hS0 ?_
      simp only [List.getElem_toArray, List.getElem_cons_zero, List.getElem_cons_succ, Act.put, List.setIfInBounds_toArray, List.set_cons_zero, List.set_cons_succ]
      refine take_val 5 (.pointer (some ⟨w1.heap.size, 0, none⟩)) rfl (by kernel_rfl) (by kernel_rfl) (by kernel_rfl) (fun _ _ _ h => h) rfl (fun V hV => by simp [go_sem]) hS0 ?_
      simp only [List.getElem_toArray, List.getElem_cons_zero, List.getElem_cons_succ, Act.put, List.setIfInBounds_toArray, List.set_cons_zero, List.set_cons_succ]
      refine take_val 6 (.pointer (some ⟨w1.heap.size, 100, none⟩)) rfl (by kernel_rfl) (by kernel_rfl) (by kernel_rfl) (fun _ _ _ h => h) rfl (fun V hV => by simp [go_sem]) hS0 ?_
      simp only [List.getElem_toArray, List.getElem_cons_zero, List.getElem_cons_succ, Act.put, List.setIfInBounds_toArray, List.set_cons_zero, List.set_cons_succ]
      refine take_val 7 (.int .i64 st.tries) rfl (by kernel_rfl) (by kernel_rfl) (by kernel_rfl) (fun _ _ _ h => h) rfl (fun V hV => by have c := (HP2.out.keep hV hne).c100; simp [go_sem, c]) hS0 ?_
      simp only [List.getElem_toArray, List.getElem_cons_zero, List.getElem_cons_succ, Act.put, List.setIfInBounds_toArray, List.set_cons_zero, List.set_cons_succ]
      have h0 := K0.at (below_drew w2)
      refine step_skip 8 (w2.drew.setRow (w.heap.size + 1) (dc st.best)) (by kernel_rfl) rfl rfl (ex_store_drum _ _ rfl (w.heap.size + 1) st.best rfl rfl _ _ h0) hS1 ?_
      simp only [List.getElem_toArray, List.getElem_cons_zero, List.getElem_cons_succ, Act.put, List.setIfInBounds_toArray, List.set_cons_zero, List.set_cons_succ]
      refine take_val 9 (.int .i64 st.tries) rfl (by kernel_rfl) (by kernel_rfl) (by kernel_rfl) (fun _ _ _ h => h) rfl (fun V hV => by simp [go_sem]) hS1 ?_
      simp only [List.getElem_toArray, List.getElem_cons_zero, List.getElem_cons_succ, Act.put, List.setIfInBounds_toArray, List.set_cons_zero, List.set_cons_succ]
      refine take_val 10 (.int .i64 0) rfl (by kernel_rfl) (by kernel_rfl) (by kernel_rfl) (fun _ _ _ h => h) rfl (fun V hV => by simp [go_sem]) hS1 ?_
      simp only [List.getElem_toArray, List.getElem_cons_zero, List.getElem_cons_succ, Act.put, List.setIfInBounds_toArray, List.set_cons_zero, List.set_cons_succ]
      refine wpAnyH_done (by kernel_rfl) ?_ _
      go_wp2
      refine bodyPost_ret (results_drum3 rfl _ _ (w.heap.size + 1) _ st.best (.int .i64 st.tries) (.int .i64 0) rfl (h0.setRow _) rfl rfl) rfl ⟨by rw [HR.out.1, HR.out.2.1, HZ.out], below_setRow (KB.at (below_drew w2)) (by omega) _⟩
    · have HR := Lib.hid (ps_fail (st := st) rfl hz)
      have hbz : (psCode 0 st != 0) = true := by simp [hz]
      have h1 := K0.here
      go_wp2_with (first | (with_reducible refine build_drum rfl rfl ?_) | (with_reducible refine store_drum rfl _ _ rfl (w.heap.size + 1) (fun _ => 0) rfl rfl _ _ h1 ?_))
      refine bodyPost_ret (results_drum3 rfl _ _ (w.heap.size + 1) _ (fun _ => 0) (.int .i64 0) (.int .i64 (psCode 0 st)) rfl (DrumAt.setRow h1 _) rfl rfl) rfl ⟨by rw [HR.out.1, HR.out.2.1], below_setRow KB.here (by omega) _⟩
  · have HR1 := Lib.hid (ps_bad (st := st) (rfl : c0 = c0) h0)
    clear HA1 HS0
    have h1 := K0.here
    go_wp2_with (first | (with_reducible refine build_drum rfl rfl ?_) | (with_reducible refine store_drum rfl _ _ rfl (w.heap.size + 1) (fun _ => 0) rfl rfl _ _ h1 ?_))
    refine bodyPost_ret (results_drum3 rfl _ _ (w.heap.size + 1) _ (fun _ => 0) (.int .i64 0) (.int .i64 c0) rfl (DrumAt.setRow h1 _) rfl rfl) rfl ⟨by rw [HR1.out.1, HR1.out.2.1, HR1.out.2.2.1], below_setRow KB.here (by omega) _⟩
set_option maxRecDepth 100000 in
set_option maxHeartbeats 4000000 in
theorem specPinTune_any (s : Int) (a : Option Addr) (n c : Nat) (P R : Nat → Int) (q : Option Addr) (l e0 : Nat) (A B : Nat → Int) (x : Int) (w : World) (hs : -32768 ≤ s ∧ s ≤ 32767) (hn : n ≤ 1048576) (hP : I8 P) (hR : I8 R) (hh : HamAt w a n P R) (hl : l ≤ 1048576) (hA : I16 A) (hB : I8 B) (ht : NoteAt w q l A B) (hx64 : -9223372036854775808 ≤ x ∧ x ≤ 9223372036854775807) :
    Calls Try.prog 35 #[.agg #[.int .i16 s, .slice a n c], .slice q l e0, .int .i64 x] w fun e w' => e = .returned (.tuple #[.agg (dc (ptD s n P R l A B x)), .int .i64 (ptT s n P R l A B x), .int .i64 (ptC s n P R l A B x)]) ∧ Below w.heap.size w w' := by
  have HP := Lib.hid hP; have HR := Lib.hid hR; have HA := Lib.hid hA; have HB := Lib.hid hB
  clear hP hR hA hB
  have KB := Kp.base w
  have KH := kp_ham hh; have KT := kp_note ht; clear hh ht
  obtain ⟨hD1, hT1, hC1⟩ := pt_def s n P R l A B x
  have hA1 := ptA_def s n P R l A B x
  have hS1 := ptS_def s n P R l A B x
  rw [hD1, hT1, hC1]
  obtain ⟨st, hst⟩ : ∃ t, ptS s n P R l A B x = t := ⟨_, rfl⟩
  obtain ⟨c0, hc0⟩ : ∃ t, ptA s n P R l A B x = t := ⟨_, rfl⟩
  rw [hst] at hS1 ⊢
  rw [hc0] at hA1 ⊢
  have HS0 := Lib.hid hS1
  have HA1 := Lib.hid hA1
  clear hD1 hT1 hC1 hst hc0 hS1 hA1
  replace KB := KB.alloc (.cells #[.int .i16 s, .slice a n c] 27)
  replace KH := KH.alloc (.cells #[.int .i16 s, .slice a n c] 27)
  replace KT := KT.alloc (.cells #[.int .i16 s, .slice a n c] 27)
  have KF := kp_new1 w #[.int .i16 s, .slice a n c] 27 (g := w.heap.size) (by simp)
  replace KB := KB.alloc (.cells (dc fun _ => 0) 71)
  replace KH := KH.alloc (.cells (dc fun _ => 0) 71)
  replace KT := KT.alloc (.cells (dc fun _ => 0) 71)
  replace KF := KF.alloc (.cells (dc fun _ => 0) 71)
  have K0 := kp_newd (w.alloc (.cells #[.int .i16 s, .slice a n c] 27)) (fun _ => 0) 71 (g := w.heap.size + 1) (by simp)
  have HZ := Lib.hid (show ((w.alloc (.cells #[.int .i16 s, .slice a n c] 27)).alloc (.cells (dc fun _ => 0) 71)).heap.size = w.heap.size + 1 + 1 by simp)
  go_enter Try.func35, Try.ntmps35
  go_wp2_with (with_reducible refine alloc_drum ?_ ?_ ?_; with_reducible rfl; with_reducible rfl)
  generalize ((w.alloc (.cells #[.int .i16 s, .slice a n c] 27)).alloc (.cells (dc fun _ => 0) 71)) = W at KB KH KT KF K0 HZ ⊢
  clear HZ
  refine (l03Fits_any w.heap.size s a n c P R q l e0 A B x W hs hn HP.out HR.out KH.here hl HA.out HB.out KT.here hx64 KF.here).mono ?_
  rw [← HA1.out]
  rintro e w1 ⟨rfl, hb1⟩
  replace KB := KB.on hb1
  replace KH := KH.on hb1
  replace KT := KT.on hb1
  replace KF := KF.on hb1
  replace K0 := K0.on hb1
  clear hb1
  by_cases h0 : c0 = 0
  ·
    subst h0
    obtain ⟨hs2, hn2, hr, hl2, hA2, hB2, hxb⟩ := to_facts HA1.out.symm (fun h => h)
    obtain ⟨m, rfl⟩ : ∃ m : Nat, s = m := ⟨s.toNat, by omega⟩
    have hs2' : 2 ≤ m ∧ m ≤ 96 := by omega
    have HRR := Lib.hid (show ∀ t, t < n → 1 ≤ R t ∧ R t ≤ m from fun t ht => ⟨(hr t ht).2.1, (hr t ht).2.2.1⟩)
    have HA2 := Lib.hid hA2
    have hS1 := HS0.out
    rw [Int.toNat_natCast] at hS1
    have hokst := Lib.hid (pnB_ok (like := false) (budget := x) (E := fun _ => 0) (m := m) (P := P) (R := R) (A := A) (B := B) (l := l) hn2.2 l (fun _ => 0) 0 st0 (fun _ => by show 0 < _; decide) (by omega) (by omega) (st0_ok hxb.1))
    rw [← hS1] at hokst
    have HS1 := Lib.hid hS1
    have HCO := Lib.hid (ps_code (st := st) (rfl : (0 : Int) = 0))
    clear hr hA2 hB2 HA1 HS0 hS1
    have hgr : w.heap.size + 1 < w1.heap.size := K0.here.lt
    have hSN := sn_new w1 w.heap.size q l e0 (fun _ => 0) x false (fun _ => 0)
    have hbN : Below w1.heap.size w1 (w1.alloc (.cells (cf 296 (snC w.heap.size q l e0 (fun _ => 0) x false (fun _ => 0) st0)) 136)) := (Below.refl _ _).alloc (Nat.le_refl _) _
    have HFR := Lib.hid (from_any w1 w1.heap.size w.heap.size 27 m a n c P R q l e0 A B (fun _ => 0) x false (Nat.le_refl _) hs2' hn2.2 HRR.out HP.out KF KH hl2 HA2.out HB.out KT (fun _ => by show 0 < _; decide) hxb.2 l (fun _ => 0) 0 0 st0 _ (by omega) (fun _ => by show 0 < _; decide) (by omega) (by omega) (st0_ok hxb.1) (st0_run false) hbN hSN)
    rw [← HS1.out] at HFR
    clear hSN
    go_wp2_with (with_reducible refine build_sn rfl _ _ _ rfl w.heap.size q l e0 x rfl rfl rfl ?_)
    refine HFR.out.mono ?_
    rintro e w2 ⟨rfl, ⟨D', _, hS2⟩, hk2⟩
    have hb2 := hk2.below (B := w1.heap.size) hbN (Nat.le_refl _) hbN.size
    replace KB := KB.on hb2
    replace K0 := K0.on hb2
    have HS2 := Lib.hid hS2
    clear hS2 hk2 hbN HFR hb2
    have hco := HCO.out
    have c101 := HS2.out.c101
    have c198 := HS2.out.c198
    obtain ⟨ov, hov⟩ : ∃ b, st.over = b := ⟨_, rfl⟩
    obtain ⟨fo, hfo⟩ : ∃ b, st.found = b := ⟨_, rfl⟩
    rw [hov] at c101 hco
    rw [hfo] at c198 hco
    clear hov hfo HCO
    have h1 := K0.here
    cases ov
    · cases fo
      · have hz : psCode 0 st = 6 := hco
        have HR := Lib.hid (ps_fail hz (by decide))
        have HZ := Lib.hid hz; clear hz hco
        go_wp2_with (first | (with_reducible refine build_drum rfl rfl ?_) | (with_reducible refine store_drum rfl _ _ rfl (w.heap.size + 1) (fun _ => 0) rfl rfl _ _ h1 ?_))
        refine bodyPost_ret (results_drum3 rfl _ _ (w.heap.size + 1) _ (fun _ => 0) (.int .i64 0) (.int .i64 6) rfl (DrumAt.setRow h1 _) rfl rfl) rfl ⟨by rw [HR.out.1, HR.out.2.1, HZ.out], below_setRow KB.here (by omega) _⟩
      · have hz : psCode 0 st = 0 := hco
        have HR := Lib.hid (ps_yes hz)
        have HZ := Lib.hid hz; clear hz hco
        go_wp2
        have hS0 : KeepO (w.heap.size + 1) w2 w2.drew := KeepO.of (below_drew w2)
        have hne : w1.heap.size ≠ w.heap.size + 1 := by omega
        have hS1 := hS0.setRow (dc st.best)
        refine wp_region_S (fun V => KeepO (w.heap.size + 1) w2 V) (by kernel_rfl) hS0 ?_
        refine take_val 0 (.pointer (some ⟨w1.heap.size, 0, none⟩)) rfl (by kernel_rfl) (by kernel_rfl) (by kernel_rfl) (fun _ _ _ h => h) rfl (fun V hV => by simp [go_sem]) hS0 ?_
        simp only [List.getElem_toArray, List.getElem_cons_zero, List.getElem_cons_succ, Act.put, List.setIfInBounds_toArray, List.set_cons_zero, List.set_cons_succ]
        refine take_val 1 (.pointer (some ⟨w1.heap.size, 0, none⟩)) rfl (by kernel_rfl) (by kernel_rfl) (by kernel_rfl) (fun _ _ _ h => h) rfl (fun V hV => by simp [go_sem]) hS0 ?_
        simp only [List.getElem_toArray, List.getElem_cons_zero, List.getElem_cons_succ, Act.put, List.setIfInBounds_toArray, List.set_cons_zero, List.set_cons_succ]
        refine take_val 2 (.pointer (some ⟨w1.heap.size, 199, none⟩)) rfl (by kernel_rfl) (by kernel_rfl) (by kernel_rfl) (fun _ _ _ h => h) rfl (fun V hV => by simp [go_sem]) hS0 ?_
        simp only [List.getElem_toArray, List.getElem_cons_zero, List.getElem_cons_succ, Act.put, List.setIfInBounds_toArray, List.set_cons_zero, List.set_cons_succ]
        refine take_val 3 (.agg (dc st.best)) rfl (by kernel_rfl) (by kernel_rfl) (by kernel_rfl) (fun _ _ _ h => h) rfl (fun V hV => ex_load_drum_mid _ rfl w1.heap.size 199 rfl _ ((HS2.out.keep hV hne).best)) hS0 ?_
        simp only [List.getElem_toArray, List.getElem_cons_zero, List.getElem_cons_succ, Act.put, List.setIfInBounds_toArray, List.set_cons_zero, List.set_cons_succ]
        refine take_val 4 (.pointer (some ⟨w1.heap.size, 0, none⟩)) rfl (by kernel_rfl) (by kernel_rfl) (by kernel_rfl) (fun _ _ _ h => h) rfl (fun V hV => by simp [go_sem]) hS0 ?_
        simp only [List.getElem_toArray, List.getElem_cons_zero, List.getElem_cons_succ, Act.put, List.setIfInBounds_toArray, List.set_cons_zero, List.set_cons_succ]
        refine take_val 5 (.pointer (some ⟨w1.heap.size, 0, none⟩)) rfl (by kernel_rfl) (by kernel_rfl) (by kernel_rfl) (fun _ _ _ h => h) rfl (fun V hV => by simp [go_sem]) hS0 ?_
        simp only [List.getElem_toArray, List.getElem_cons_zero, List.getElem_cons_succ, Act.put, List.setIfInBounds_toArray, List.set_cons_zero, List.set_cons_succ]
        refine take_val 6 (.pointer (some ⟨w1.heap.size, 100, none⟩)) rfl (by kernel_rfl) (by kernel_rfl) (by kernel_rfl) (fun _ _ _ h => h) rfl (fun V hV => by simp [go_sem]) hS0 ?_
        simp only [List.getElem_toArray, List.getElem_cons_zero, List.getElem_cons_succ, Act.put, List.setIfInBounds_toArray, List.set_cons_zero, List.set_cons_succ]
        refine take_val 7 (.int .i64 st.tries) rfl (by kernel_rfl) (by kernel_rfl) (by kernel_rfl) (fun _ _ _ h => h) rfl (fun V hV => by have c := (HS2.out.keep hV hne).c100; simp [go_sem, c]) hS0 ?_
        simp only [List.getElem_toArray, List.getElem_cons_zero, List.getElem_cons_succ, Act.put, List.setIfInBounds_toArray, List.set_cons_zero, List.set_cons_succ]
        have h0 := K0.at (below_drew w2)
        refine step_skip 8 (w2.drew.setRow (w.heap.size + 1) (dc st.best)) (by kernel_rfl) rfl rfl (ex_store_drum _ _ rfl (w.heap.size + 1) st.best rfl rfl _ _ h0) hS1 ?_
        simp only [List.getElem_toArray, List.getElem_cons_zero, List.getElem_cons_succ, Act.put, List.setIfInBounds_toArray, List.set_cons_zero, List.set_cons_succ]
        refine take_val 9 (.int .i64 st.tries) rfl (by kernel_rfl) (by kernel_rfl) (by kernel_rfl) (fun _ _ _ h => h) rfl (fun V hV => by simp [go_sem]) hS1 ?_
        simp only [List.getElem_toArray, List.getElem_cons_zero, List.getElem_cons_succ, Act.put, List.setIfInBounds_toArray, List.set_cons_zero, List.set_cons_succ]
        refine take_val 10 (.int .i64 0) rfl (by kernel_rfl) (by kernel_rfl) (by kernel_rfl) (fun _ _ _ h => h) rfl (fun V hV => by simp [go_sem]) hS1 ?_
        simp only [List.getElem_toArray, List.getElem_cons_zero, List.getElem_cons_succ, Act.put, List.setIfInBounds_toArray, List.set_cons_zero, List.set_cons_succ]
        refine wpAnyH_done (by kernel_rfl) ?_ _
        go_wp2
        refine bodyPost_ret (results_drum3 rfl _ _ (w.heap.size + 1) _ st.best (.int .i64 st.tries) (.int .i64 0) rfl (h0.setRow _) rfl rfl) rfl ⟨by rw [HR.out.1, HR.out.2.1, HZ.out], below_setRow (KB.at (below_drew w2)) (by omega) _⟩
    · have hz : psCode 0 st = 7 := hco
      have HR := Lib.hid (ps_fail hz (by decide))
      have HZ := Lib.hid hz; clear hz hco
      go_wp2_with (first | (with_reducible refine build_drum rfl rfl ?_) | (with_reducible refine store_drum rfl _ _ rfl (w.heap.size + 1) (fun _ => 0) rfl rfl _ _ h1 ?_))
      refine bodyPost_ret (results_drum3 rfl _ _ (w.heap.size + 1) _ (fun _ => 0) (.int .i64 0) (.int .i64 7) rfl (DrumAt.setRow h1 _) rfl rfl) rfl ⟨by rw [HR.out.1, HR.out.2.1, HZ.out], below_setRow KB.here (by omega) _⟩
  · have HR1 := Lib.hid (ps_bad (st := st) (rfl : c0 = c0) h0)
    clear HA1 HS0
    have h1 := K0.here
    go_wp2_with (first | (with_reducible refine build_drum rfl rfl ?_) | (with_reducible refine store_drum rfl _ _ rfl (w.heap.size + 1) (fun _ => 0) rfl rfl _ _ h1 ?_))
    refine bodyPost_ret (results_drum3 rfl _ _ (w.heap.size + 1) _ (fun _ => 0) (.int .i64 0) (.int .i64 c0) rfl (DrumAt.setRow h1 _) rfl rfl) rfl ⟨by rw [HR1.out.1, HR1.out.2.1, HR1.out.2.2.1], below_setRow KB.here (by omega) _⟩
end Go.Proofs.Ytpfjmoodfodfhaa
