/- MovesBetween, by the reference and by the program. No conditions. -/
import Derived.Test.YtmmneedmhmppoaaLs
import Derived.Test.YtmmneedmhmppoaaHeld2
import Derived.Outline
namespace Go.Proofs.Ytmmneedmhmppoaa
open Go.RowKit
set_option linter.unusedVariables false
set_option linter.unusedSimpArgs false

/-- two slices of one's own have no block in common -/
def Apart (v u : Value) : Prop := ∀ k k', v.ownBlock = some k → u.ownBlock = some k' → k ≠ k'
theorem Apart.symm {v u : Value} (h : Apart v u) : Apart u v := fun k k' h1 h2 e => h k' k h2 h1 e.symm
theorem Apart.nil (u : Value) : Apart (.slice none 0 0) u := fun k k' h => by simp [Value.ownBlock] at h
theorem own_kept {w w' : World} {base size n : Nat} {e : TypeId} {v u : Value} {xs : List Value} (h : w.ownsRow base e size v n xs) (hg : w.grownBy w' u.ownBlock) (hne : Apart v u) : w'.ownsRow base e size v n xs := by
  refine h.kept hg ?_
  cases hv : v.ownBlock with
  | none => exact .inl rfl
  | some k => exact .inr fun e2 => hne k k hv e2.symm rfl
/-- what stood before is apart from what is laid from a block on -/
theorem Apart.of {w w' : World} {base base' sz sz' n n' : Nat} {T T' : TypeId} {v u : Value} {xs ys : List Value} (h : w.ownsRow base T sz v n xs) (hb : w.heap.size ≤ base') (h2 : w'.ownsRow base' T' sz' u n' ys) : Apart v u := fun k k' hk hk' e => by
  have h1 := (h.lt k hk).2
  have h3 := (h2.lt k' hk').1
  omega
set_option maxRecDepth 100000 in
set_option maxHeartbeats 1000000 in
theorem implMovesBetween_any (s : Int) (a : Option Addr) (n c : Nat) (P R : Nat → Int) (D E : Nat → Nat) (w : World) (hs : -32768 ≤ s ∧ s ≤ 32767) (hn : n ≤ 1048576) (hP : I8 P) (hR : I8 R) (hh : HamAt w a n P R) (hD : D32 D) (hE : D32 E) :
    Calls Try.prog 35 #[.agg #[.int .i16 s, .slice a n c], .agg (dc D), .agg (dc E)] w fun e w' => ∃ v u, e = .returned (.tuple #[v, u, .int .i64 (unl (ok2 s n P R D E) 1)]) ∧ Below w.heap.size w w' ∧ OwnP w' w.heap.size v (mbV s n P R D E (lessD D E)) ∧ OwnP w' w.heap.size u (mbV s n P R D E (lessD E D)) ∧ Apart v u := by
  have HP := Lib.hid hP; have HR := Lib.hid hR; have HD := Lib.hid hD; have HE := Lib.hid hE; clear hP hR hD hE
  have KB := Kp.base w; have KH := kp_ham hh; clear hh
  replace KB := KB.alloc (.cells #[.int .i16 s, .slice a n c] 43)
  replace KH := KH.alloc (.cells #[.int .i16 s, .slice a n c] 43)
  have KF := kp_new1 w #[.int .i16 s, .slice a n c] 43 (g := w.heap.size) (by simp)
  replace KB := KB.alloc (.cells (dc D) 45)
  replace KH := KH.alloc (.cells (dc D) 45)
  replace KF := KF.alloc (.cells (dc D) 45)
  have KD := kp_newd (w.alloc (.cells #[.int .i16 s, .slice a n c] 43)) (D) 45 (g := w.heap.size + 1) (by simp)
  replace KB := KB.alloc (.cells (dc E) 45)
  replace KH := KH.alloc (.cells (dc E) 45)
  replace KF := KF.alloc (.cells (dc E) 45)
  replace KD := KD.alloc (.cells (dc E) 45)
  have KE := kp_newd ((w.alloc (.cells #[.int .i16 s, .slice a n c] 43)).alloc (.cells (dc D) 45)) (E) 45 (g := w.heap.size + 1 + 1) (by simp)
  have HZ := Lib.hid (show (((w.alloc (.cells #[.int .i16 s, .slice a n c] 43)).alloc (.cells (dc D) 45)).alloc (.cells (dc E) 45)).heap.size = w.heap.size + 1 + 1 + 1 by simp)
  go_enter Try.func35, Try.ntmps35
  go_wp2_with (first | (with_reducible refine load_iframe rfl _ rfl w.heap.size rfl _ s a n c KF.here ?_) | (with_reducible refine load_drum rfl _ rfl (w.heap.size + 1) rfl _ D KD.here ?_) | (with_reducible refine load_drum rfl _ rfl (w.heap.size + 1 + 1) rfl _ E KE.here ?_) | (with_reducible refine build2 rfl _ _ rfl D E rfl rfl ?_))
  generalize (((w.alloc (.cells #[.int .i16 s, .slice a n c] 43)).alloc (.cells (dc D) 45)).alloc (.cells (dc E) 45)) = W at KB KH KF KD KE HZ ⊢
  have hz := HZ.out
  have hl := DrumsAt.two W D E (twoL D E) rfl rfl
  rw [hz] at hl
  refine (drumCode_any s a n c P R _ 2 2 (twoL D E) _ (by omega) (by omega) hs HP.out HR.out (KH.alloc _).here hl).mono ?_
  rw [← ok2_def]
  rintro e w1 ⟨rfl, hb1⟩
  replace KB := (KB.alloc (.cells (dc D ++ dc E) 45)).on hb1
  replace KF := (KF.alloc (.cells (dc D ++ dc E) 45)).on hb1
  replace KD := (KD.alloc (.cells (dc D ++ dc E) 45)).on hb1
  replace KE := (KE.alloc (.cells (dc D ++ dc E) 45)).on hb1
  clear hb1 hz hl
  cases hv : ok2 s n P R D E
  · have hr1 := mbV_no (C := lessD D E) hv
    have hr2 := mbV_no (C := lessD E D) hv
    have HR1 := Lib.hid hr1; have HR2 := Lib.hid hr2; have HV := Lib.hid hv; clear hr1 hr2 hv
    rw [unl_false]
    go_wp2
    refine bodyPost_ret (v := .tuple #[.slice none 0 0, .slice none 0 0, .int .i64 1]) (by simp [results, Try.results35, go_sem]) rfl ⟨_, _, by rw [HV.out, unl_false], KB.here, by rw [HR1.out]; exact OwnL.none0 _ _, by rw [HR2.out]; exact OwnL.none0 _ _, Apart.nil _⟩
  · have hr1 := mbV_yes (C := lessD D E) hv
    have hr2 := mbV_yes (C := lessD E D) hv
    obtain ⟨hS, hN, _⟩ := vFrame_iff.1 (ok2_iff.1 hv).1
    have HR1 := Lib.hid hr1; have HR2 := Lib.hid hr2; have HV := Lib.hid hv; clear hr1 hr2 hv
    rw [unl_true]
    go_wp2
    have hS0 := below_drew w1
    refine wp_region_S (fun V => Below w1.heap.size w1 V) (by kernel_rfl) hS0 ?_
    refine take_val 0 (.agg #[.int .i16 s, .slice a n c]) rfl (by kernel_rfl) (by kernel_rfl) (by kernel_rfl) (fun _ _ _ h => h) rfl (fun V hV => ex_load_iframe _ rfl w.heap.size rfl _ s a n c (KF.at hV)) hS0 ?_
    simp only [List.getElem_toArray, List.getElem_cons_zero, List.getElem_cons_succ, Act.put, List.setIfInBounds_toArray, List.set_cons_zero, List.set_cons_succ]
    refine take_val 1 (.agg (dc D)) rfl (by kernel_rfl) (by kernel_rfl) (by kernel_rfl) (fun _ _ _ h => h) rfl (fun V hV => ex_load_drum _ rfl (w.heap.size + 1) rfl _ D (KD.at hV)) hS0 ?_
    simp only [List.getElem_toArray, List.getElem_cons_zero, List.getElem_cons_succ, Act.put, List.setIfInBounds_toArray, List.set_cons_zero, List.set_cons_succ]
    refine take_val 2 (.agg (dc E)) rfl (by kernel_rfl) (by kernel_rfl) (by kernel_rfl) (fun _ _ _ h => h) rfl (fun V hV => ex_load_drum _ rfl (w.heap.size + 1 + 1) rfl _ E (KE.at hV)) hS0 ?_
    simp only [List.getElem_toArray, List.getElem_cons_zero, List.getElem_cons_succ, Act.put, List.setIfInBounds_toArray, List.set_cons_zero, List.set_cons_succ]
    refine take_val 5 (.agg #[.int .i16 s, .slice a n c]) rfl (by kernel_rfl) (by kernel_rfl) (by kernel_rfl) (fun _ _ _ h => h) rfl (fun V hV => ex_load_iframe _ rfl w.heap.size rfl _ s a n c (KF.at hV)) hS0 ?_
    simp only [List.getElem_toArray, List.getElem_cons_zero, List.getElem_cons_succ, Act.put, List.setIfInBounds_toArray, List.set_cons_zero, List.set_cons_succ]
    refine take_val 6 (.agg (dc E)) rfl (by kernel_rfl) (by kernel_rfl) (by kernel_rfl) (fun _ _ _ h => h) rfl (fun V hV => ex_load_drum _ rfl (w.heap.size + 1 + 1) rfl _ E (KE.at hV)) hS0 ?_
    simp only [List.getElem_toArray, List.getElem_cons_zero, List.getElem_cons_succ, Act.put, List.setIfInBounds_toArray, List.set_cons_zero, List.set_cons_succ]
    refine take_val 7 (.agg (dc D)) rfl (by kernel_rfl) (by kernel_rfl) (by kernel_rfl) (fun _ _ _ h => h) rfl (fun V hV => ex_load_drum _ rfl (w.heap.size + 1) rfl _ D (KD.at hV)) hS0 ?_
    simp only [List.getElem_toArray, List.getElem_cons_zero, List.getElem_cons_succ, Act.put, List.setIfInBounds_toArray, List.set_cons_zero, List.set_cons_succ]
    refine step_call 3 93 #[.agg (dc D), .agg (dc E)] (by kernel_rfl) rfl rfl (by simp [go_sem]) ?_
    refine (less_any D E HD.out HE.out _).mono ?_
    rintro e w2 ⟨rfl, hb2⟩
    have hS2 := hS0.trans hb2
    refine ⟨_, rfl, hS2, ?_⟩
    simp only [List.getElem_toArray, List.getElem_cons_zero, List.getElem_cons_succ, Act.put, List.setIfInBounds_toArray, List.set_cons_zero, List.set_cons_succ]
    refine step_call 4 92 #[.agg #[.int .i16 s, .slice a n c], .agg (dc (lessD D E))] (by kernel_rfl) rfl rfl (by simp [go_sem]) ?_
    refine (listed_any s a n c (lessD D E) w2 hS hN (lessD_32 HD.out)).mono ?_
    rintro e w3 ⟨v, rfl, hb3, hv1⟩
    have hS3 := hS2.trans (hb3.mono hS2.size)
    refine ⟨_, rfl, hS3, ?_⟩
    simp only [List.getElem_toArray, List.getElem_cons_zero, List.getElem_cons_succ, Act.put, List.setIfInBounds_toArray, List.set_cons_zero, List.set_cons_succ]
    refine step_call 8 93 #[.agg (dc E), .agg (dc D)] (by kernel_rfl) rfl rfl (by simp [go_sem]) ?_
    refine (less_any E D HE.out HD.out _).mono ?_
    rintro e w4 ⟨rfl, hb4⟩
    have hS4 := hS3.trans (hb4.mono hS3.size)
    refine ⟨_, rfl, hS4, ?_⟩
    simp only [List.getElem_toArray, List.getElem_cons_zero, List.getElem_cons_succ, Act.put, List.setIfInBounds_toArray, List.set_cons_zero, List.set_cons_succ]
    refine step_call 9 92 #[.agg #[.int .i16 s, .slice a n c], .agg (dc (lessD E D))] (by kernel_rfl) rfl rfl (by simp [go_sem]) ?_
    refine (listed_any s a n c (lessD E D) w4 hS hN (lessD_32 HE.out)).mono ?_
    rintro e w5 ⟨u, rfl, hb5, hv2⟩
    have hS5 := hS4.trans (hb5.mono hS4.size)
    have hap := Apart.of hv1 hb4.size hv2
    have HV1 := Lib.hid (OwnP.below (OwnP.below hv1 hb4) hb5)
    have HV2 := Lib.hid hv2
    have HAP := Lib.hid hap
    have hbs := KB.here.size
    have h1 := hS0.size
    have h2 := hb2.size
    have h3 := hb3.size
    have h4 := hb4.size
    refine ⟨_, rfl, hS5, ?_⟩
    simp only [List.getElem_toArray, List.getElem_cons_zero, List.getElem_cons_succ, Act.put, List.setIfInBounds_toArray, List.set_cons_zero, List.set_cons_succ]
    refine take_val 10 (v) rfl (by kernel_rfl) (by kernel_rfl) (by kernel_rfl) (fun _ _ _ h => h) rfl (fun V hV => by simp [go_sem]) hS5 ?_
    simp only [List.getElem_toArray, List.getElem_cons_zero, List.getElem_cons_succ, Act.put, List.setIfInBounds_toArray, List.set_cons_zero, List.set_cons_succ]
    refine take_val 11 (u) rfl (by kernel_rfl) (by kernel_rfl) (by kernel_rfl) (fun _ _ _ h => h) rfl (fun V hV => by simp [go_sem]) hS5 ?_
    simp only [List.getElem_toArray, List.getElem_cons_zero, List.getElem_cons_succ, Act.put, List.setIfInBounds_toArray, List.set_cons_zero, List.set_cons_succ]
    refine take_val 12 (.int .i64 0) rfl (by kernel_rfl) (by kernel_rfl) (by kernel_rfl) (fun _ _ _ h => h) rfl (fun V hV => by simp [go_sem]) hS5 ?_
    simp only [List.getElem_toArray, List.getElem_cons_zero, List.getElem_cons_succ, Act.put, List.setIfInBounds_toArray, List.set_cons_zero, List.set_cons_succ]
    refine wpAnyH_done (by kernel_rfl) ?_ _
    obtain ⟨b1, c1, rfl⟩ := OwnL.form HV1.out
    obtain ⟨b2, c2, rfl⟩ := OwnL.form HV2.out
    clear hv1 hv2 hap
    obtain ⟨n1, hn1⟩ : ∃ m, (plL (hasPin (lessD D E)) n (s.toNat * n)).length = m := ⟨_, rfl⟩
    obtain ⟨n2, hn2⟩ : ∃ m, (plL (hasPin (lessD E D)) n (s.toNat * n)).length = m := ⟨_, rfl⟩
    rw [hn1] at HV1 HAP
    rw [hn2] at HV2 HAP
    rw [hn1, hn2]
    clear hn1 hn2
    go_wp2
    refine bodyPost_ret (v := .tuple #[.slice b1 n1 c1, .slice b2 n2 c2, .int .i64 0]) (by simp [results, Try.results35, go_sem]) rfl ⟨_, _, by rw [HV.out, unl_true], (KB.at hS5), by rw [HR1.out]; exact OwnP.mono HV1.out (by omega), by rw [HR2.out]; exact OwnP.mono HV2.out (by omega), HAP.out⟩
set_option maxRecDepth 100000 in
set_option maxHeartbeats 1000000 in
theorem specMovesBetween_any (s : Int) (a : Option Addr) (n c : Nat) (P R : Nat → Int) (D E : Nat → Nat) (w : World) (hs : -32768 ≤ s ∧ s ≤ 32767) (hn : n ≤ 1048576) (hP : I8 P) (hR : I8 R) (hh : HamAt w a n P R) (hD : D32 D) (hE : D32 E) :
    Calls Try.prog 34 #[.agg #[.int .i16 s, .slice a n c], .agg (dc D), .agg (dc E)] w fun e w' => ∃ v u, e = .returned (.tuple #[v, u, .int .i64 (unl (ok2 s n P R D E) 1)]) ∧ Below w.heap.size w w' ∧ OwnP w' w.heap.size v (mbV s n P R D E (lessD D E)) ∧ OwnP w' w.heap.size u (mbV s n P R D E (lessD E D)) ∧ Apart v u := by
  have HP := Lib.hid hP; have HR := Lib.hid hR; have HD := Lib.hid hD; have HE := Lib.hid hE; clear hP hR hD hE
  have KB := Kp.base w; have KH := kp_ham hh; clear hh
  replace KB := KB.alloc (.cells #[.int .i16 s, .slice a n c] 43)
  replace KH := KH.alloc (.cells #[.int .i16 s, .slice a n c] 43)
  have KF := kp_new1 w #[.int .i16 s, .slice a n c] 43 (g := w.heap.size) (by simp)
  replace KB := KB.alloc (.cells (dc D) 45)
  replace KH := KH.alloc (.cells (dc D) 45)
  replace KF := KF.alloc (.cells (dc D) 45)
  have KD := kp_newd (w.alloc (.cells #[.int .i16 s, .slice a n c] 43)) (D) 45 (g := w.heap.size + 1) (by simp)
  replace KB := KB.alloc (.cells (dc E) 45)
  replace KH := KH.alloc (.cells (dc E) 45)
  replace KF := KF.alloc (.cells (dc E) 45)
  replace KD := KD.alloc (.cells (dc E) 45)
  have KE := kp_newd ((w.alloc (.cells #[.int .i16 s, .slice a n c] 43)).alloc (.cells (dc D) 45)) (E) 45 (g := w.heap.size + 1 + 1) (by simp)
  have HZ := Lib.hid (show (((w.alloc (.cells #[.int .i16 s, .slice a n c] 43)).alloc (.cells (dc D) 45)).alloc (.cells (dc E) 45)).heap.size = w.heap.size + 1 + 1 + 1 by simp)
  go_enter Try.func34, Try.ntmps34
  go_wp2_with fail
  generalize (((w.alloc (.cells #[.int .i16 s, .slice a n c] 43)).alloc (.cells (dc D) 45)).alloc (.cells (dc E) 45)) = W at KB KH KF KD KE HZ ⊢
  clear HZ
  refine (l02Frame_any w.heap.size s a n c P R W (by omega) hs HP.out HR.out (row_lt KF.here) (row_cell 0 KF.here) (row_cell 1 KF.here) KH.here).mono ?_
  rintro e w1 ⟨rfl, hb1⟩
  replace KB := KB.on hb1
  replace KF := KF.on hb1
  replace KD := KD.on hb1
  replace KE := KE.on hb1
  clear hb1
  cases hv : vFrame s n P R
  · have hno := ok2_no (s := s) (n := n) (P := P) (R := R) (A := D) (B := E) (fun h => by rw [h.1] at hv; cases hv)
    have HV := Lib.hid hno; have HR1 := Lib.hid (mbV_no (C := lessD D E) hno); have HR2 := Lib.hid (mbV_no (C := lessD E D) hno); clear hno hv
    have HBA := Lib.hid ((KB.alloc (.cells #[] 129)).alloc (.cells #[] 129)).here
    have hn1 := Lib.hid (OwnP.alloc (show OwnP (w1.alloc (.cells #[] 129)) w.heap.size (.slice (some ⟨w1.heap.size, 0, none⟩) 0 0) [] from OwnL.nil w1 w.heap.size KB.here.size) (.cells #[] 129))
    have hn2 := Lib.hid (show OwnP ((w1.alloc (.cells #[] 129)).alloc (.cells #[] 129)) w.heap.size (.slice (some ⟨(w1.alloc (.cells #[] 129)).heap.size, 0, none⟩) 0 0) [] from OwnL.nil _ w.heap.size (by have := KB.here.size; simp; omega))
    go_wp2
    refine bodyPost_ret (v := .tuple #[.slice (some ⟨w1.heap.size, 0, none⟩) 0 0, .slice (some ⟨w1.heap.size + 1, 0, none⟩) 0 0, .int .i64 1]) (by simp [results, Try.results34, go_sem]) rfl ⟨_, _, by rw [HV.out, unl_false], HBA.out, by rw [HR1.out]; exact hn1.out, by rw [HR2.out]; simpa using hn2.out, ?_⟩
    intro k k' h1 h2
    simp [Value.ownBlock] at h1 h2
    omega
  · obtain ⟨hS, hN, _⟩ := vFrame_iff.1 hv
    have HVF := Lib.hid hv; clear hv
    go_wp2_with fail
    refine (l02Drum_any w.heap.size (w.heap.size + 1) s a n c D _ hN.2 hS.1 hS.2 (row_cell 0 KF.here) (row_cell 1 KF.here) KD.here.cells).mono ?_
    rintro e w2 ⟨rfl, q, rfl⟩
    have hbq : Below w1.heap.size w1 (w1.drewN q) := below_drewN (Below.refl _ _) q
    replace KB := KB.on hbq
    replace KF := KF.on hbq
    replace KD := KD.on hbq
    replace KE := KE.on hbq
    clear hbq
    generalize w1.drewN q = w2 at KB KF KD KE ⊢
    cases hd : vDrum s n D
    · have hv : True := trivial
      have hno := ok2_no (s := s) (n := n) (P := P) (R := R) (A := D) (B := E) (fun h => by rw [h.2.1] at hd; cases hd)
      clear hd
      have HV := Lib.hid hno; have HR1 := Lib.hid (mbV_no (C := lessD D E) hno); have HR2 := Lib.hid (mbV_no (C := lessD E D) hno); clear hno hv
      have HBA := Lib.hid ((KB.alloc (.cells #[] 129)).alloc (.cells #[] 129)).here
      have hn1 := Lib.hid (OwnP.alloc (show OwnP (w2.alloc (.cells #[] 129)) w.heap.size (.slice (some ⟨w2.heap.size, 0, none⟩) 0 0) [] from OwnL.nil w2 w.heap.size KB.here.size) (.cells #[] 129))
      have hn2 := Lib.hid (show OwnP ((w2.alloc (.cells #[] 129)).alloc (.cells #[] 129)) w.heap.size (.slice (some ⟨(w2.alloc (.cells #[] 129)).heap.size, 0, none⟩) 0 0) [] from OwnL.nil _ w.heap.size (by have := KB.here.size; simp; omega))
      go_wp2
      refine bodyPost_ret (v := .tuple #[.slice (some ⟨w2.heap.size, 0, none⟩) 0 0, .slice (some ⟨w2.heap.size + 1, 0, none⟩) 0 0, .int .i64 1]) (by simp [results, Try.results34, go_sem]) rfl ⟨_, _, by rw [HV.out, unl_false], HBA.out, by rw [HR1.out]; exact hn1.out, by rw [HR2.out]; simpa using hn2.out, ?_⟩
      intro k k' h1 h2
      simp [Value.ownBlock] at h1 h2
      omega
    · have HVD := Lib.hid hd; clear hd
      go_wp2_with fail
      refine (l02Drum_any w.heap.size (w.heap.size + 1 + 1) s a n c E _ hN.2 hS.1 hS.2 (row_cell 0 KF.here) (row_cell 1 KF.here) KE.here.cells).mono ?_
      rintro e w3 ⟨rfl, q2, rfl⟩
      have hbq : Below w2.heap.size w2 (w2.drewN q2) := below_drewN (Below.refl _ _) q2
      replace KB := KB.on hbq
      replace KF := KF.on hbq
      replace KD := KD.on hbq
      replace KE := KE.on hbq
      clear hbq
      generalize w2.drewN q2 = w3 at KB KF KD KE ⊢
      cases he : vDrum s n E
      · have hv : True := trivial
        have hno := ok2_no (s := s) (n := n) (P := P) (R := R) (A := D) (B := E) (fun h => by rw [h.2.2] at he; cases he)
        clear he
        have HV := Lib.hid hno; have HR1 := Lib.hid (mbV_no (C := lessD D E) hno); have HR2 := Lib.hid (mbV_no (C := lessD E D) hno); clear hno hv
        have HBA := Lib.hid ((KB.alloc (.cells #[] 129)).alloc (.cells #[] 129)).here
        have hn1 := Lib.hid (OwnP.alloc (show OwnP (w3.alloc (.cells #[] 129)) w.heap.size (.slice (some ⟨w3.heap.size, 0, none⟩) 0 0) [] from OwnL.nil w3 w.heap.size KB.here.size) (.cells #[] 129))
        have hn2 := Lib.hid (show OwnP ((w3.alloc (.cells #[] 129)).alloc (.cells #[] 129)) w.heap.size (.slice (some ⟨(w3.alloc (.cells #[] 129)).heap.size, 0, none⟩) 0 0) [] from OwnL.nil _ w.heap.size (by have := KB.here.size; simp; omega))
        go_wp2
        refine bodyPost_ret (v := .tuple #[.slice (some ⟨w3.heap.size, 0, none⟩) 0 0, .slice (some ⟨w3.heap.size + 1, 0, none⟩) 0 0, .int .i64 1]) (by simp [results, Try.results34, go_sem]) rfl ⟨_, _, by rw [HV.out, unl_false], HBA.out, by rw [HR1.out]; exact hn1.out, by rw [HR2.out]; simpa using hn2.out, ?_⟩
        intro k k' h1 h2
        simp [Value.ownBlock] at h1 h2
        omega
      · have hyes := ok2_iff.2 ⟨HVF.out, HVD.out, he⟩
        have HV := Lib.hid hyes; have HR1 := Lib.hid (mbV_yes (C := lessD D E) hyes); have HR2 := Lib.hid (mbV_yes (C := lessD E D) hyes); clear hyes he
        go_wp2_with fail
        refine (l03Only_any w.heap.size (w.heap.size + 1) (w.heap.size + 1 + 1) _ _ _ s a n c D E w3 hS hN HD.out HE.out KF.here KD.here KE.here).mono ?_
        rintro e w4 ⟨v, rfl, hb4, hv1⟩
        have hbs := KB.here.size
        replace KB := KB.on hb4
        replace KF := KF.on hb4
        replace KD := KD.on hb4
        replace KE := KE.on hb4
        go_wp2_with fail
        refine (l03Only_any w.heap.size (w.heap.size + 1 + 1) (w.heap.size + 1) _ _ _ s a n c E D w4 hS hN HE.out HD.out KF.here KE.here KD.here).mono ?_
        rintro e w5 ⟨u, rfl, hb5, hv2⟩
        have hap := Apart.of hv1 (Nat.le_refl _) hv2
        have HV1 := Lib.hid (OwnP.below hv1 hb5)
        have HV2 := Lib.hid hv2
        have HAP := Lib.hid hap
        have hs4 := hb4.size
        replace KB := KB.on hb5
        obtain ⟨b1, c1, rfl⟩ := OwnL.form HV1.out
        obtain ⟨b2, c2, rfl⟩ := OwnL.form HV2.out
        clear hv1 hv2 hap
        obtain ⟨n1, hn1⟩ : ∃ m, (plL (hasPin (lessD D E)) n (s.toNat * n)).length = m := ⟨_, rfl⟩
        obtain ⟨n2, hn2⟩ : ∃ m, (plL (hasPin (lessD E D)) n (s.toNat * n)).length = m := ⟨_, rfl⟩
        rw [hn1] at HV1 HAP
        rw [hn2] at HV2 HAP
        rw [hn1, hn2]
        clear hn1 hn2
        go_wp2
        refine bodyPost_ret (v := .tuple #[.slice b1 n1 c1, .slice b2 n2 c2, .int .i64 0]) (by simp [results, Try.results34, go_sem]) rfl ⟨_, _, by rw [HV.out, unl_true], KB.here, by rw [HR1.out]; exact OwnP.mono HV1.out (by omega), by rw [HR2.out]; exact OwnP.mono HV2.out (by omega), HAP.out⟩
end Go.Proofs.Ytmmneedmhmppoaa
