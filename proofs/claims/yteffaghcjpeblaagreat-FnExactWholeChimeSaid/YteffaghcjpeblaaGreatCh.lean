/- The chime of a quarter, by the reference and by the program. No conditions. -/
import Derived.Test.YteffaghcjpeblaaGreatSm
import Derived.Outline
namespace Go.Proofs.YteffaghcjpeblaaGreat
open Go.RowKit
set_option linter.unusedVariables false
set_option linter.unusedSimpArgs false

/-- how many steps the section of a quarter has -/
def sxS (S : Nat → Int) (o : Int) : Int := if o < 0 then 0 else S o.toNat
theorem sxS_no {S : Nat → Int} {o : Int} (h : o < 0) : sxS S o = 0 := if_pos h
theorem sxS_yes (S : Nat → Int) (k : Nat) : sxS S (k : Int) = S k := by unfold sxS; rw [if_neg (by omega), Int.toNat_natCast]
attribute [irreducible] sxS
set_option maxRecDepth 100000 in
set_option maxHeartbeats 1000000 in
theorem l04Chime_any (gf gd gp : Nat) (s : Int) (a : Option Addr) (n c : Nat) (P R : Nat → Int) (D : Nat → Nat) (b : Option Addr) (m d : Nat) (F S O : Nat → Int) (q : Nat) (w : World) (hs2 : 2 ≤ s ∧ s ≤ 96) (hn2 : 1 ≤ n ∧ n ≤ 24) (hm2 : m ≤ 12)
    (hsec : ∀ k, k < m → 0 ≤ F k ∧ F k < s ∧ 1 ≤ S k ∧ F k + S k ≤ s) (hq : q < 48) (hoq : -1 ≤ O q ∧ O q ≤ (m : Int) - 1) (hP : I8 P) (hh : HamAt w a n P R) (hD : D32 D) (hl : SecAt w b m F S)
    (hf : w.heap[gf]? = some (.cells #[.int .i16 s, .slice a n c] 36 (0, 0))) (hd : DrumAt w 41 gd D) (hp : w.heap[gp]? = some (.cells (pc b m d O) 60 (0, 0))) :
    Calls Tryz.prog 57 #[.pointer (some ⟨gf, 0, none⟩), .pointer (some ⟨gd, 0, none⟩), .pointer (some ⟨gp, 0, none⟩), .int .i64 (q : Int)] w fun e w' => ∃ v, e = .returned (.tuple #[v, .int .i64 (sxS S (O q))]) ∧ Below w.heap.size w w' ∧ OwnN w' w.heap.size v (sxL s n P F S D (O q)) := by
  have HP := Lib.hid hP; have HD := Lib.hid hD
  clear hP hD
  have hq' : (q : Int) < 48 := by omega
  have p1 : w.cell? ⟨gp, 1 + q, none⟩ = some (.int .i8 (O q)) := by rw [row_cell (1 + q) hp, pc_get _ _ _ _ q hq]
  have p0 := row_cell 0 hp
  rw [pc_get0] at p0
  have KB := Kp.base w
  have KH := kp_ham hh; have KL := kp_sec hl; have KF := kp_row hf; have KD := kp_drum hd; clear hh hl hf hd hp
  obtain ⟨o, ho⟩ : ∃ o, O q = o := ⟨_, rfl⟩
  rw [ho] at hoq p1 ⊢
  clear ho
  go_enter Tryz.func57, Tryz.ntmps57
  by_cases h0 : o < 0
  · have HX := Lib.hid (sxL_no (s := s) (n := n) (P := P) (F := F) (S := S) (D := D) h0)
    have HS := Lib.hid (sxS_no (S := S) h0)
    have hon := Lib.hid (OwnL.nil (T := 75) (sz := 2) (enc := encN) w w.heap.size (Nat.le_refl _))
    have HBE := Lib.hid (KB.alloc (.cells #[] 75)).here
    go_wp2
    refine bodyPost_ret (v := .tuple #[.slice (some ⟨w.heap.size, 0, none⟩) 0 0, .int .i64 0]) (by simp [results, Tryz.results57, go_sem]) rfl ⟨_, by rw [HS.out], HBE.out, by rw [HX.out]; exact hon.out⟩
  · obtain ⟨k, rfl⟩ : ∃ k : Nat, o = k := ⟨o.toNat, by omega⟩
    have hk : k < m := by omega
    have hk' : (k : Int) < m := by omega
    have hfk := hsec k hk
    have HXL := Lib.hid (show sxL s n P F S D (k : Int) = srtN (ntL P 0 (plL (fun i t => hasPin D ((F k).toNat + i) t) n ((S k).toNat * n))) by rw [sxL_yes, sec_same (by omega) hfk.1 (by omega) hfk.2.2.2])
    have HXS := Lib.hid (sxS_yes S k)
    obtain ⟨g, off, rfl, hg, hc⟩ := SecAt.get KL.here (show 0 < m by omega)
    have c0 := (hc k hk).1
    have c1 := (hc k hk).2
    clear hc
    obtain ⟨sn, rfl⟩ : ∃ f : Nat, s = f := ⟨s.toNat, by omega⟩
    have q2 := i64_id (x := S k) (by omega)
    go_wp2
    replace KB := KB.alloc (.cells #[.int .i16 (F k), .int .i16 (S k)] 90); replace KF := KF.alloc (.cells #[.int .i16 (F k), .int .i16 (S k)] 90); replace KD := KD.alloc (.cells #[.int .i16 (F k), .int .i16 (S k)] 90); replace KH := KH.alloc (.cells #[.int .i16 (F k), .int .i16 (S k)] 90)
    have KX := kp_new1 w #[.int .i16 (F k), .int .i16 (S k)] 90 (g := w.heap.size) rfl
    generalize w.alloc (.cells #[.int .i16 (F k), .int .i16 (S k)] 90) = W at KB KF KD KH KX ⊢
    have hsz := KB.here.size
    have hS0 := below_drew W
    have hst := l04Section_any gf gd 36 41 sn a n c P R D (F k) (S k) W.drew (by omega) hn2 HD.out HP.out hfk.1 (by omega) hfk.2.2.2 (KF.at hS0) (KD.at hS0) (KH.at hS0)
    refine wp_region_S (fun V => Below W.heap.size W V) (by kernel_rfl) hS0 ?_
    refine take_val 0 (.pointer (some ⟨gf, 0, none⟩)) rfl (by kernel_rfl) (by kernel_rfl) (by kernel_rfl) (fun _ _ _ h => h) rfl (fun V hV => by simp [go_sem]) hS0 ?_
    simp only [List.getElem_toArray, List.getElem_cons_zero, List.getElem_cons_succ, Act.put, List.setIfInBounds_toArray, List.set_cons_zero, List.set_cons_succ]
    refine take_val 1 (.pointer (some ⟨gd, 0, none⟩)) rfl (by kernel_rfl) (by kernel_rfl) (by kernel_rfl) (fun _ _ _ h => h) rfl (fun V hV => by simp [go_sem]) hS0 ?_
    simp only [List.getElem_toArray, List.getElem_cons_zero, List.getElem_cons_succ, Act.put, List.setIfInBounds_toArray, List.set_cons_zero, List.set_cons_succ]
    refine take_val 2 (.agg #[.int .i16 (F k), .int .i16 (S k)]) rfl (by kernel_rfl) (by kernel_rfl) (by kernel_rfl) (fun _ _ _ h => h) rfl (fun V hV => by have x0 := row_cell 0 (KX.at hV); have x1 := row_cell 1 (KX.at hV); simp [go_sem, x0, x1]) hS0 ?_
    simp only [List.getElem_toArray, List.getElem_cons_zero, List.getElem_cons_succ, Act.put, List.setIfInBounds_toArray, List.set_cons_zero, List.set_cons_succ]
    refine take_val 4 (.pointer (some ⟨w.heap.size, 1, none⟩)) rfl (by kernel_rfl) (by kernel_rfl) (by kernel_rfl) (fun _ _ _ h => h) rfl (fun V hV => by simp [go_sem]) hS0 ?_
    simp only [List.getElem_toArray, List.getElem_cons_zero, List.getElem_cons_succ, Act.put, List.setIfInBounds_toArray, List.set_cons_zero, List.set_cons_succ]
    refine take_val 5 (.int .i16 (S k)) rfl (by kernel_rfl) (by kernel_rfl) (by kernel_rfl) (fun _ _ _ h => h) rfl (fun V hV => by have x1 := row_cell 1 (KX.at hV); simp [go_sem, x1]) hS0 ?_
    simp only [List.getElem_toArray, List.getElem_cons_zero, List.getElem_cons_succ, Act.put, List.setIfInBounds_toArray, List.set_cons_zero, List.set_cons_succ]
    refine take_val 6 (.int .i64 (S k)) rfl (by kernel_rfl) (by kernel_rfl) (by kernel_rfl) (fun _ _ _ h => h) rfl (fun V hV => by simp [go_sem, q2]) hS0 ?_
    simp only [List.getElem_toArray, List.getElem_cons_zero, List.getElem_cons_succ, Act.put, List.setIfInBounds_toArray, List.set_cons_zero, List.set_cons_succ]
    refine step_call 3 46 #[.pointer (some ⟨gf, 0, none⟩), .pointer (some ⟨gd, 0, none⟩), .agg #[.int .i16 (F k), .int .i16 (S k)]] (by kernel_rfl) rfl rfl (by simp [go_sem]) ?_
    refine hst.mono ?_
    rintro e V1 ⟨v1, rfl, hb1, ho1⟩
    have hS1 := hS0.trans (hb1.mono hS0.size)
    refine ⟨_, rfl, hS1, ?_⟩
    simp only [List.getElem_toArray, List.getElem_cons_zero, List.getElem_cons_succ, Act.put, List.setIfInBounds_toArray, List.set_cons_zero, List.set_cons_succ]
    refine take_val 7 (v1) rfl (by kernel_rfl) (by kernel_rfl) (by kernel_rfl) (fun _ _ _ h => h) rfl (fun V hV => by simp [go_sem]) hS1 ?_
    simp only [List.getElem_toArray, List.getElem_cons_zero, List.getElem_cons_succ, Act.put, List.setIfInBounds_toArray, List.set_cons_zero, List.set_cons_succ]
    refine take_val 8 (.int .i64 (S k)) rfl (by kernel_rfl) (by kernel_rfl) (by kernel_rfl) (fun _ _ _ h => h) rfl (fun V hV => by simp [go_sem]) hS1 ?_
    simp only [List.getElem_toArray, List.getElem_cons_zero, List.getElem_cons_succ, Act.put, List.setIfInBounds_toArray, List.set_cons_zero, List.set_cons_succ]
    refine wpAnyH_done (by kernel_rfl) ?_ _
    have HB1 := Lib.hid (KB.at hS1); have HO1 := Lib.hid (OwnN.mono ho1 (show w.heap.size ≤ W.drew.heap.size from hsz))
    clear hst hS0 hS1 hb1 ho1
    go_wp2
    refine bodyPost_ret (v := .tuple #[v1, .int .i64 (S k)]) (by simp [results, Tryz.results57, go_sem]) rfl ⟨v1, by rw [HXS.out], HB1.out, by rw [HXL.out]; exact HO1.out⟩
theorem sxL_len {s : Int} {n : Nat} {P F S : Nat → Int} {D : Nat → Nat} {o : Int} (hs : s ≤ 96) (hn : n ≤ 24) : (sxL s n P F S D o).length ≤ 100000 := by
  by_cases h : o < 0
  · rw [sxL_no h]; simp
  · obtain ⟨k, rfl⟩ : ∃ k : Nat, o = k := ⟨o.toNat, by omega⟩
    rw [sxL_yes]
    have := sec_len (s := s) (n := n) (P := P) (D := D) (F := F k) (S := S k) hs hn
    omega
set_option maxRecDepth 100000 in
theorem specChimeAt_any (s : Int) (a : Option Addr) (n c : Nat) (P R : Nat → Int) (D : Nat → Nat) (b : Option Addr) (m d : Nat) (F S O : Nat → Int) (x : Int) (w : World) (hs : -32768 ≤ s ∧ s ≤ 32767) (hn : n ≤ 1048576) (hP : I8 P) (hR : I8 R) (hh : HamAt w a n P R) (hD : D32 D) (hm : m ≤ 1048576) (hF : I16 F) (hS : I16 S) (hO : I8 O) (hl : SecAt w b m F S) (hx : -9223372036854775808 ≤ x ∧ x ≤ 9223372036854775807) :
    Calls Tryz.prog 28 #[.agg #[.int .i16 s, .slice a n c], .agg (dc D), .agg (pc b m d O), .int .i64 x] w fun e w' => ∃ v, e = .returned (.tuple #[v, .int .i64 (caC s n P R D m F S O x)]) ∧ Below w.heap.size w w' ∧ OwnN w' w.heap.size v (caV s n P R D m F S O x) := by
  have HP := Lib.hid hP; have HR := Lib.hid hR; have HD := Lib.hid hD; have HF := Lib.hid hF; have HS := Lib.hid hS; have HO := Lib.hid hO
  clear hP hR hD hF hS hO
  have KB := Kp.base w
  have KH := kp_ham hh; have KL := kp_sec hl; clear hh hl
  replace KB := KB.alloc (.cells #[.int .i16 s, .slice a n c] 36)
  replace KH := KH.alloc (.cells #[.int .i16 s, .slice a n c] 36)
  replace KL := KL.alloc (.cells #[.int .i16 s, .slice a n c] 36)
  have KF := kp_new1 w #[.int .i16 s, .slice a n c] 36 (g := w.heap.size) (by simp)
  replace KB := KB.alloc (.cells (dc D) 41)
  replace KH := KH.alloc (.cells (dc D) 41)
  replace KL := KL.alloc (.cells (dc D) 41)
  replace KF := KF.alloc (.cells (dc D) 41)
  have KD := kp_newd (w.alloc (.cells #[.int .i16 s, .slice a n c] 36)) (D) 41 (g := w.heap.size + 1) (by simp)
  replace KB := KB.alloc (.cells (pc b m d O) 60)
  replace KH := KH.alloc (.cells (pc b m d O) 60)
  replace KL := KL.alloc (.cells (pc b m d O) 60)
  replace KF := KF.alloc (.cells (pc b m d O) 60)
  replace KD := KD.alloc (.cells (pc b m d O) 60)
  have KP := kp_new1 ((w.alloc (.cells #[.int .i16 s, .slice a n c] 36)).alloc (.cells (dc D) 41)) (pc b m d O) 60 (g := w.heap.size + 1 + 1) (by simp)
  have HZ := Lib.hid (show (((w.alloc (.cells #[.int .i16 s, .slice a n c] 36)).alloc (.cells (dc D) 41)).alloc (.cells (pc b m d O) 60)).heap.size = w.heap.size + 1 + 1 + 1 by simp)
  go_enter Tryz.func28, Tryz.ntmps28
  go_wp2_with fail
  generalize (((w.alloc (.cells #[.int .i16 s, .slice a n c] 36)).alloc (.cells (dc D) 41)).alloc (.cells (pc b m d O) 60)) = W at KB KH KL KF KD KP HZ ⊢
  clear HZ
  refine (l04Whole_any w.heap.size (w.heap.size + 1) (w.heap.size + 1 + 1) s a n c P R D b m d F S O W hs hn HP.out HR.out KH.here HD.out hm HF.out HS.out HO.out KL.here KF.here KD.here KP.here).mono ?_
  rintro e w1 ⟨rfl, hb1⟩
  replace KB := KB.on hb1
  replace KH := KH.on hb1
  replace KL := KL.on hb1
  replace KF := KF.on hb1
  replace KD := KD.on hb1
  replace KP := KP.on hb1
  clear hb1
  have hsz := KB.here.size
  cases hv : whB s n P R D m F S O
  · have hcd : wcode (whB s n P R D m F S O) (inB x 0 47) = 1 := by rw [hv, wcode_f]
    have hno := Lib.hid (ca_no hcd (by decide))
    have hon := Lib.hid (OwnL.nil (T := 75) (sz := 2) (enc := encN) w1 w.heap.size hsz)
    clear hcd hv
    rw [unl_false]
    have hbe := (KB.alloc (.cells #[] 75)).here
    go_wp2
    refine bodyPost_ret (v := .tuple #[.slice (some ⟨w1.heap.size, 0, none⟩) 0 0, .int .i64 1]) (by simp [results, Tryz.results28, go_sem]) rfl ⟨_, by rw [hno.out.2], hbe, by rw [hno.out.1]; exact hon.out⟩
  · rw [unl_true]
    by_cases h2 : 0 ≤ x ∧ x ≤ 47
    · have h2' := inB_true h2
      have hcd : wcode (whB s n P R D m F S O) (inB x 0 47) = 0 := by rw [hv, h2', wcode_tt]
      have hyes := ca_yes hcd
      obtain ⟨hs2, hn2, hp47, hm2, hsec, hor⟩ := wh_facts hv
      clear hcd hv
      obtain ⟨q, rfl⟩ : ∃ k : Nat, x = k := ⟨x.toNat, by omega⟩
      have hq : q < 48 := by omega
      rw [Int.toNat_natCast] at hyes
      have hlen := sxL_len (s := s) (n := n) (P := P) (F := F) (S := S) (D := D) (o := O q) hs2.2 hn2.2
      have hst := l04Chime_any w.heap.size (w.heap.size + 1) (w.heap.size + 1 + 1) s a n c P R D b m d F S O q w1 hs2 hn2 hm2 hsec hq (hor q hq) HP.out KH.here HD.out KL.here KF.here KD.here KP.here
      obtain ⟨L, hL⟩ : ∃ L, sxL s n P F S D (O q) = L := ⟨_, rfl⟩
      obtain ⟨T, hT⟩ : ∃ L, sxS S (O q) = L := ⟨_, rfl⟩
      rw [hL] at hyes hlen
      rw [hL, hT] at hst
      have HST := Lib.hid hst; have HY := Lib.hid hyes; have HLEN := Lib.hid hlen
      clear hst hL hT hyes hlen hsec hor hp47
      go_wp2_with (first | (go_at_call 56; refine (l04Quarter_any _ _).mono ?_; rw [h2']; rintro e w2 ⟨rfl, rfl⟩) | (go_at_call 57; refine HST.out.mono ?_; rintro e w2 ⟨v2, rfl, hb2, ho2⟩; have HB2 := Lib.hid (KB.at hb2); have HO2 := Lib.hid (OwnN.mono ho2 hsz); clear hb2 ho2) | (go_at_call 45; refine (l04Made_any w.heap.size _ L _ HLEN.out HB2.out.size HO2.out).mono ?_; rintro e w3 ⟨v3, rfl, hb3, ho3⟩; have HB3 := Lib.hid (HB2.out.trans (hb3.mono HB2.out.size)); have HO3 := Lib.hid ho3; clear hb3 ho3))
      refine bodyPost_ret (v := .tuple #[v3, .int .i64 (sxC L)]) (by simp [results, Tryz.results28, go_sem]) rfl ⟨v3, by rw [HY.out.2], HB3.out, by rw [HY.out.1]; exact HO3.out⟩
    · have h2' := inB_false h2
      have hcd : wcode (whB s n P R D m F S O) (inB x 0 47) = 2 := by rw [hv, h2', wcode_tf]
      have hno := Lib.hid (ca_no hcd (by decide))
      have hon := Lib.hid (OwnL.nil (T := 75) (sz := 2) (enc := encN) w1 w.heap.size hsz)
      clear hcd hv
      have hbe := (KB.alloc (.cells #[] 75)).here
      go_wp2_with (go_at_call 56; refine (l04Quarter_any _ _).mono ?_; rw [h2']; rintro e w2 ⟨rfl, rfl⟩)
      refine bodyPost_ret (v := .tuple #[.slice (some ⟨w1.heap.size, 0, none⟩) 0 0, .int .i64 2]) (by simp [results, Tryz.results28, go_sem]) rfl ⟨_, by rw [hno.out.2], hbe, by rw [hno.out.1]; exact hon.out⟩
set_option maxRecDepth 100000 in
set_option maxHeartbeats 2000000 in
theorem implChimeAt_any (s : Int) (a : Option Addr) (n c : Nat) (P R : Nat → Int) (D : Nat → Nat) (b : Option Addr) (m d : Nat) (F S O : Nat → Int) (x : Int) (w : World) (hs : -32768 ≤ s ∧ s ≤ 32767) (hn : n ≤ 1048576) (hP : I8 P) (hR : I8 R) (hh : HamAt w a n P R) (hD : D32 D) (hm : m ≤ 1048576) (hF : I16 F) (hS : I16 S) (hO : I8 O) (hl : SecAt w b m F S) (hx : -9223372036854775808 ≤ x ∧ x ≤ 9223372036854775807) :
    Calls Tryz.prog 29 #[.agg #[.int .i16 s, .slice a n c], .agg (dc D), .agg (pc b m d O), .int .i64 x] w fun e w' => ∃ v, e = .returned (.tuple #[v, .int .i64 (caC s n P R D m F S O x)]) ∧ Below w.heap.size w w' ∧ OwnN w' w.heap.size v (caV s n P R D m F S O x) := by
  have HP := Lib.hid hP; have HR := Lib.hid hR; have HD := Lib.hid hD; have HF := Lib.hid hF; have HS := Lib.hid hS; have HO := Lib.hid hO
  clear hP hR hD hF hS hO
  have KB := Kp.base w
  have KH := kp_ham hh; have KL := kp_sec hl; clear hh hl
  replace KB := KB.alloc (.cells #[.int .i16 s, .slice a n c] 36)
  replace KH := KH.alloc (.cells #[.int .i16 s, .slice a n c] 36)
  replace KL := KL.alloc (.cells #[.int .i16 s, .slice a n c] 36)
  have KF := kp_new1 w #[.int .i16 s, .slice a n c] 36 (g := w.heap.size) (by simp)
  replace KB := KB.alloc (.cells (dc D) 41)
  replace KH := KH.alloc (.cells (dc D) 41)
  replace KL := KL.alloc (.cells (dc D) 41)
  replace KF := KF.alloc (.cells (dc D) 41)
  have KD := kp_newd (w.alloc (.cells #[.int .i16 s, .slice a n c] 36)) (D) 41 (g := w.heap.size + 1) (by simp)
  replace KB := KB.alloc (.cells (pc b m d O) 60)
  replace KH := KH.alloc (.cells (pc b m d O) 60)
  replace KL := KL.alloc (.cells (pc b m d O) 60)
  replace KF := KF.alloc (.cells (pc b m d O) 60)
  replace KD := KD.alloc (.cells (pc b m d O) 60)
  have KP := kp_new1 ((w.alloc (.cells #[.int .i16 s, .slice a n c] 36)).alloc (.cells (dc D) 41)) (pc b m d O) 60 (g := w.heap.size + 1 + 1) (by simp)
  have HZ := Lib.hid (show (((w.alloc (.cells #[.int .i16 s, .slice a n c] 36)).alloc (.cells (dc D) 41)).alloc (.cells (pc b m d O) 60)).heap.size = w.heap.size + 1 + 1 + 1 by simp)
  go_enter Tryz.func29, Tryz.ntmps29
  go_wp2
  generalize (((w.alloc (.cells #[.int .i16 s, .slice a n c] 36)).alloc (.cells (dc D) 41)).alloc (.cells (pc b m d O) 60)) = W at KB KH KL KF KD KP HZ ⊢
  have hS0 := below_drew W
  have HSZ := Lib.hid KB.here.size
  obtain ⟨z0, hz0⟩ : ∃ y, unl (okAll s n P R 1 (fun _ => D)) 1 = y := ⟨_, rfl⟩
  refine wp_region_S (fun V => Below W.heap.size W V) (by kernel_rfl) hS0 ?_
  refine take_val 0 (.agg #[.int .i16 s, .slice a n c]) rfl (by kernel_rfl) (by kernel_rfl) (by kernel_rfl) (fun _ _ _ h => h) rfl (fun V hV => ex_load_iframe _ rfl w.heap.size rfl _ s a n c (KF.at hV)) hS0 ?_
  simp only [List.getElem_toArray, List.getElem_cons_zero, List.getElem_cons_succ, Act.put, List.setIfInBounds_toArray, List.set_cons_zero, List.set_cons_succ]
  refine take_val 1 (.agg (dc D)) rfl (by kernel_rfl) (by kernel_rfl) (by kernel_rfl) (fun _ _ _ h => h) rfl (fun V hV => ex_load_drum _ rfl (w.heap.size + 1) rfl _ D (KD.at hV)) hS0 ?_
  simp only [List.getElem_toArray, List.getElem_cons_zero, List.getElem_cons_succ, Act.put, List.setIfInBounds_toArray, List.set_cons_zero, List.set_cons_succ]
  refine take_val 4 (.agg #[.int .i16 s, .slice a n c]) rfl (by kernel_rfl) (by kernel_rfl) (by kernel_rfl) (fun _ _ _ h => h) rfl (fun V hV => ex_load_iframe _ rfl w.heap.size rfl _ s a n c (KF.at hV)) hS0 ?_
  simp only [List.getElem_toArray, List.getElem_cons_zero, List.getElem_cons_succ, Act.put, List.setIfInBounds_toArray, List.set_cons_zero, List.set_cons_succ]
  refine take_val 5 (.agg (pc b m d O)) rfl (by kernel_rfl) (by kernel_rfl) (by kernel_rfl) (fun _ _ _ h => h) rfl (fun V hV => ex_load_iprog _ rfl (w.heap.size + 1 + 1) rfl _ b m d O (KP.at hV)) hS0 ?_
  simp only [List.getElem_toArray, List.getElem_cons_zero, List.getElem_cons_succ, Act.put, List.setIfInBounds_toArray, List.set_cons_zero, List.set_cons_succ]
  refine take_val 6 (.int .i64 x) rfl (by kernel_rfl) (by kernel_rfl) (by kernel_rfl) (fun _ _ _ h => h) rfl (fun V hV => by simp [go_sem]) hS0 ?_
  simp only [List.getElem_toArray, List.getElem_cons_zero, List.getElem_cons_succ, Act.put, List.setIfInBounds_toArray, List.set_cons_zero, List.set_cons_succ]
  have hSa := hS0.alloc hS0.size (.cells (dc D) 41)
  have hSb := hS0.alloc hS0.size (.cells #[.int .i64 x] 2)
  have hdc := fun (V : World) (g : Nat) (hb : Below W.heap.size W V) (hg : DrumAt V 41 g D) => (drumCode_any s a n c P R (some ⟨g, 0, none⟩) 1 1 (fun _ => D) V (by omega) (by omega) hs HP.out HR.out (KH.at hb) (drumsOne hg))
  rw [hz0] at hdc
  have HDC := Lib.hid hdc; have HZ0 := Lib.hid hz0; clear hdc hz0
  refine' cut_with (A := ∀ (V : World) (dg ig : Nat), Below W.heap.size W V → IntAt V (some ⟨ig, 0, none⟩) 1 (fun _ => x) → (_ : World → Nat → Nat → Prop) V dg ig) (fun hcont => ?_) ?_
  rotate_left
  · obtain ⟨dg0, hdg0⟩ : ∃ y, W.drew.heap.size = y := ⟨_, rfl⟩
    refine step_two2 2 7 (.slice (some ⟨dg0, 0, none⟩) 1 1) (.slice (some ⟨W.heap.size, 0, none⟩) 1 1) (W.drew.alloc (.cells (dc D) 41)) (W.drew.alloc (.cells #[.int .i64 x] 2)) (by kernel_rfl) rfl rfl rfl rfl (by rw [← hdg0]; exact ex_build1 _ rfl D rfl) (by simp [go_sem]) hSa hSb ?_ ?_
    · --
      simp only [List.getElem_toArray, List.getElem_cons_zero, List.getElem_cons_succ, Act.put, List.setIfInBounds_toArray, List.set_cons_zero, List.set_cons_succ]
      refine step_call_or 3 7 50 #[.agg #[.int .i16 s, .slice a n c], .slice (some ⟨dg0, 0, none⟩) 1 1] (.slice (some ⟨(W.drew.alloc (.cells (dc D) 41)).heap.size, 0, none⟩) 1 1) ((W.drew.alloc (.cells (dc D) 41)).alloc (.cells #[.int .i64 x] 2)) (by kernel_rfl) rfl rfl rfl rfl (by simp [go_sem]) (by simp [go_sem]) (hSa.alloc hSa.size _) ?_ ?_
      · refine (HDC.out _ dg0 hSa (by have h := heap_alloc_new W.drew (.cells (dc D) 41); rw [hdg0] at h; exact h)).mono ?_
        rintro e V1 ⟨rfl, hb1⟩
        have hS1 := hSa.trans (hb1.mono hSa.size)
        refine ⟨_, rfl, hS1, ?_⟩
        simp only [List.getElem_toArray, List.getElem_cons_zero, List.getElem_cons_succ, Act.put, List.setIfInBounds_toArray, List.set_cons_zero, List.set_cons_succ]
        refine step_val 7 (.slice (some ⟨V1.heap.size, 0, none⟩) 1 1) (V1.alloc (.cells #[.int .i64 x] 2)) (by kernel_rfl) rfl rfl (by simp [go_sem]) (hS1.alloc hS1.size _) ?_
        simp only [List.getElem_toArray, List.getElem_cons_zero, List.getElem_cons_succ, Act.put, List.setIfInBounds_toArray, List.set_cons_zero, List.set_cons_succ]
        have hS2 := hS1.alloc hS1.size (.cells #[.int .i64 x] 2)
        have hi := IntAt.one V1 x 2 (fun _ => x) rfl
        generalize V1.alloc (.cells #[.int .i64 x] 2) = V at hS2 hi ⊢
        generalize V1.heap.size = ig at hi ⊢
        exact hcont V dg0 ig hS2 hi
      · --
        simp only [List.getElem_toArray, List.getElem_cons_zero, List.getElem_cons_succ, Act.put, List.setIfInBounds_toArray, List.set_cons_zero, List.set_cons_succ]
        have hi0 := IntAt.one (W.drew.alloc (.cells (dc D) 41)) x 2 (fun _ => x) rfl
        have hSc := hSa.alloc hSa.size (.cells #[.int .i64 x] 2)
        refine step_call 3 50 #[.agg #[.int .i16 s, .slice a n c], .slice (some ⟨dg0, 0, none⟩) 1 1] (by kernel_rfl) rfl rfl (by simp [go_sem]) ?_
        refine (HDC.out _ dg0 hSc (by have h := heap_alloc_new W.drew (.cells (dc D) 41); rw [hdg0] at h; exact (heap_alloc_old _ _ (by rw [← hdg0]; simp)).trans h)).mono ?_
        rintro e V1 ⟨rfl, hb1⟩
        have hS1 := hSc.trans (hb1.mono hSc.size)
        refine ⟨_, rfl, hS1, ?_⟩
        simp only [List.getElem_toArray, List.getElem_cons_zero, List.getElem_cons_succ, Act.put, List.setIfInBounds_toArray, List.set_cons_zero, List.set_cons_succ]
        exact hcont V1 dg0 _ hS1 (by have := (kp_int hi0).at hb1; simpa using this)
    · --
      simp only [List.getElem_toArray, List.getElem_cons_zero, List.getElem_cons_succ, Act.put, List.setIfInBounds_toArray, List.set_cons_zero, List.set_cons_succ]
      have hi0 := IntAt.one W.drew x 2 (fun _ => x) rfl
      refine step_val 2 (.slice (some ⟨W.heap.size + 1, 0, none⟩) 1 1) ((W.drew.alloc (.cells #[.int .i64 x] 2)).alloc (.cells (dc D) 41)) (by kernel_rfl) rfl rfl (by rw [show W.heap.size + 1 = (W.drew.alloc (.cells #[.int .i64 x] 2)).heap.size by simp]; exact ex_build1 _ rfl D rfl) (hSb.alloc hSb.size _) ?_
      simp only [List.getElem_toArray, List.getElem_cons_zero, List.getElem_cons_succ, Act.put, List.setIfInBounds_toArray, List.set_cons_zero, List.set_cons_succ]
      have hSc := hSb.alloc hSb.size (.cells (dc D) 41)
      refine step_call 3 50 #[.agg #[.int .i16 s, .slice a n c], .slice (some ⟨W.heap.size + 1, 0, none⟩) 1 1] (by kernel_rfl) rfl rfl (by simp [go_sem]) ?_
      refine (HDC.out _ (W.heap.size + 1) hSc (by have h := heap_alloc_new (W.drew.alloc (.cells #[.int .i64 x] 2)) (.cells (dc D) 41); rw [show (W.drew.alloc (.cells #[.int .i64 x] 2)).heap.size = W.heap.size + 1 by simp] at h; exact h)).mono ?_
      rintro e V1 ⟨rfl, hb1⟩
      have hS1 := hSc.trans (hb1.mono hSc.size)
      refine ⟨_, rfl, hS1, ?_⟩
      simp only [List.getElem_toArray, List.getElem_cons_zero, List.getElem_cons_succ, Act.put, List.setIfInBounds_toArray, List.set_cons_zero, List.set_cons_succ]
      exact hcont V1 (W.heap.size + 1) W.heap.size hS1 ((kp_int hi0).at ((((Below.refl _ _).alloc (Nat.le_refl _) _).trans (hb1.mono (by simp)))))
  intro V dg ig hSV hiv
  clear HDC hSa hSb hS0
  refine step_call 8 51 #[.agg #[.int .i16 s, .slice a n c], .agg (pc b m d O), .slice (some ⟨ig, 0, none⟩) 1 1, .slice none 0 0] (by kernel_rfl) rfl rfl (by simp [go_sem]) ?_
  refine (programmeCode_any s a n c P R b m d F S O (some ⟨ig, 0, none⟩) 1 1 (fun _ => x) none 0 0 (fun _ => 0) V hs hn HP.out HR.out (KH.at hSV) hm HF.out HS.out HO.out (KL.at hSV) (by omega) hiv (by omega) (IntAt.nil _ _)).mono ?_
  rw [allIn_zero, allIn_one, Bool.and_true]
  rintro e V2 ⟨rfl, hb2⟩
  have hS2 := hSV.trans (hb2.mono hSV.size)
  refine ⟨_, rfl, hS2, ?_⟩
  simp only [List.getElem_toArray, List.getElem_cons_zero, List.getElem_cons_succ, Act.put, List.setIfInBounds_toArray, List.set_cons_zero, List.set_cons_succ]
  have hfl := firstL_wh s n P R D m F S O (inB x 0 47)
  rw [HZ0.out] at hfl
  obtain ⟨z1, hz1⟩ : ∃ y, pcode (vProg s n P R m F S O) (inB x 0 47) = y := ⟨_, rfl⟩
  rw [hz1] at hfl ⊢
  obtain ⟨z, hz⟩ : ∃ y, wcode (whB s n P R D m F S O) (inB x 0 47) = y := ⟨_, rfl⟩
  rw [hz] at hfl
  have HFL := Lib.hid hfl; have HW := Lib.hid hz; clear hfl hz hz1 HZ0 hiv hb2
  refine step_val 9 (.slice (some ⟨V2.heap.size, 0, none⟩) 2 2) (V2.alloc (.cells #[.int .i64 z0, .int .i64 z1] 2)) (by kernel_rfl) rfl rfl (by simp [go_sem]) (hS2.alloc hS2.size _) ?_
  simp only [List.getElem_toArray, List.getElem_cons_zero, List.getElem_cons_succ, Act.put, List.setIfInBounds_toArray, List.set_cons_zero, List.set_cons_succ]
  have hS3 := hS2.alloc hS2.size (.cells #[.int .i64 z0, .int .i64 z1] 2)
  have hfo := firstOf_any [z0, z1] V2.heap.size 2 (V2.alloc (.cells #[.int .i64 z0, .int .i64 z1] 2)) (by simp) (heap_alloc_new V2 _)
  rw [HFL.out] at hfo
  refine step_call 10 49 #[.slice (some ⟨V2.heap.size, 0, none⟩) 2 2] (by kernel_rfl) rfl rfl (by simp [go_sem]) ?_
  refine hfo.mono ?_
  rintro e V3 ⟨rfl, rfl⟩
  refine ⟨_, rfl, hS3, ?_⟩
  simp only [List.getElem_toArray, List.getElem_cons_zero, List.getElem_cons_succ, Act.put, List.setIfInBounds_toArray, List.set_cons_zero, List.set_cons_succ]
  refine take_val 11 (.int .i64 z) rfl (by kernel_rfl) (by kernel_rfl) (by kernel_rfl) (fun _ _ _ h => h) rfl (fun V hV => by simp [go_sem]) hS3 ?_
  simp only [List.getElem_toArray, List.getElem_cons_zero, List.getElem_cons_succ, Act.put, List.setIfInBounds_toArray, List.set_cons_zero, List.set_cons_succ]
  refine wpAnyH_done (by kernel_rfl) ?_ _
  replace KB := KB.on hS3
  replace KH := KH.on hS3
  replace KL := KL.on hS3
  replace KF := KF.on hS3
  replace KD := KD.on hS3
  replace KP := KP.on hS3
  clear hS3 hS2 hSV hfo
  generalize V2.alloc (.cells #[.int .i64 z0, .int .i64 z1] 2) = Y at KB KH KL KF KD KP ⊢
  have HSY := Lib.hid KB.here.size
  by_cases h0 : z = 0
  · subst h0
    have hyes := ca_yes HW.out
    obtain ⟨hwh, hin⟩ := wcode_zero HW.out
    obtain ⟨hs2, hn2, hp47, hm2, hsec, hor⟩ := wh_facts hwh
    have hin' := inB_iff.1 hin
    obtain ⟨q, rfl⟩ : ∃ k : Nat, x = k := ⟨x.toNat, by omega⟩
    have hq : q < 48 := by omega
    have hq' : (q : Int) < 48 := by omega
    rw [Int.toNat_natCast] at hyes
    have hST := fun V (hb : Below Y.heap.size Y V) => sectionTune_any s a n c P R D b m d F S O (O q) V hs2 hn2 hp47 hm2 hsec (hor q hq) HP.out (KH.at hb) HD.out HO.out (KL.at hb)
    have hoq := hor q hq
    obtain ⟨o, ho⟩ : ∃ o, O q = o := ⟨_, rfl⟩
    have HOQ := Lib.hid (fun V (hb : Below Y.heap.size Y V) => (show V.cell? ⟨w.heap.size + 1 + 1, 1 + q, none⟩ = some (.int .i8 o) by rw [row_cell (1 + q) (KP.at hb), pc_get _ _ _ _ q hq, ho]))
    rw [ho] at hST hyes hoq
    have HST := Lib.hid hST; have HY := Lib.hid hyes
    have q1 := i64_id (x := o) (by omega)
    clear hST hyes hwh hin hsec hor hp47 ho
    go_wp2
    have hS0 := below_drew Y
    refine wp_region_S (fun V => Below Y.heap.size Y V) (by kernel_rfl) hS0 ?_
    refine take_val 0 (.agg #[.int .i16 s, .slice a n c]) rfl (by kernel_rfl) (by kernel_rfl) (by kernel_rfl) (fun _ _ _ h => h) rfl (fun V hV => ex_load_iframe _ rfl w.heap.size rfl _ s a n c (KF.at hV)) hS0 ?_
    simp only [List.getElem_toArray, List.getElem_cons_zero, List.getElem_cons_succ, Act.put, List.setIfInBounds_toArray, List.set_cons_zero, List.set_cons_succ]
    refine take_val 1 (.agg (dc D)) rfl (by kernel_rfl) (by kernel_rfl) (by kernel_rfl) (fun _ _ _ h => h) rfl (fun V hV => ex_load_drum _ rfl (w.heap.size + 1) rfl _ D (KD.at hV)) hS0 ?_
    simp only [List.getElem_toArray, List.getElem_cons_zero, List.getElem_cons_succ, Act.put, List.setIfInBounds_toArray, List.set_cons_zero, List.set_cons_succ]
    refine take_val 2 (.agg (pc b m d O)) rfl (by kernel_rfl) (by kernel_rfl) (by kernel_rfl) (fun _ _ _ h => h) rfl (fun V hV => ex_load_iprog _ rfl (w.heap.size + 1 + 1) rfl _ b m d O (KP.at hV)) hS0 ?_
    simp only [List.getElem_toArray, List.getElem_cons_zero, List.getElem_cons_succ, Act.put, List.setIfInBounds_toArray, List.set_cons_zero, List.set_cons_succ]
    refine take_val 3 (.int .i64 q) rfl (by kernel_rfl) (by kernel_rfl) (by kernel_rfl) (fun _ _ _ h => h) rfl (fun V hV => by simp [go_sem]) hS0 ?_
    simp only [List.getElem_toArray, List.getElem_cons_zero, List.getElem_cons_succ, Act.put, List.setIfInBounds_toArray, List.set_cons_zero, List.set_cons_succ]
    refine take_val 4 (.pointer (some ⟨w.heap.size + 1 + 1, 1, none⟩)) rfl (by kernel_rfl) (by kernel_rfl) (by kernel_rfl) (fun _ _ _ h => h) rfl (fun V hV => by simp [go_sem]) hS0 ?_
    simp only [List.getElem_toArray, List.getElem_cons_zero, List.getElem_cons_succ, Act.put, List.setIfInBounds_toArray, List.set_cons_zero, List.set_cons_succ]
    refine take_val 5 (.pointer (some ⟨w.heap.size + 1 + 1, 1 + q, none⟩)) rfl (by kernel_rfl) (by kernel_rfl) (by kernel_rfl) (fun _ _ _ h => h) rfl (fun V hV => by simp [go_sem, hq, hq']) hS0 ?_
    simp only [List.getElem_toArray, List.getElem_cons_zero, List.getElem_cons_succ, Act.put, List.setIfInBounds_toArray, List.set_cons_zero, List.set_cons_succ]
    refine take_val 6 (.int .i8 o) rfl (by kernel_rfl) (by kernel_rfl) (by kernel_rfl) (fun _ _ _ h => h) rfl (fun V hV => by have h := HOQ.out V hV; simp [go_sem, h]) hS0 ?_
    simp only [List.getElem_toArray, List.getElem_cons_zero, List.getElem_cons_succ, Act.put, List.setIfInBounds_toArray, List.set_cons_zero, List.set_cons_succ]
    refine take_val 7 (.int .i64 o) rfl (by kernel_rfl) (by kernel_rfl) (by kernel_rfl) (fun _ _ _ h => h) rfl (fun V hV => by simp [go_sem, q1]) hS0 ?_
    simp only [List.getElem_toArray, List.getElem_cons_zero, List.getElem_cons_succ, Act.put, List.setIfInBounds_toArray, List.set_cons_zero, List.set_cons_succ]
    refine step_call 8 52 #[.agg #[.int .i16 s, .slice a n c], .agg (dc D), .agg (pc b m d O), .int .i64 o] (by kernel_rfl) rfl rfl (by simp [go_sem]) ?_
    refine (HST.out _ hS0).mono ?_
    rintro e V1 ⟨v1, rfl, hb1, ho1⟩
    have hS1 := hS0.trans (hb1.mono hS0.size)
    refine ⟨_, rfl, hS1, ?_⟩
    simp only [List.getElem_toArray, List.getElem_cons_zero, List.getElem_cons_succ, Act.put, List.setIfInBounds_toArray, List.set_cons_zero, List.set_cons_succ]
    refine take_val 9 (v1) rfl (by kernel_rfl) (by kernel_rfl) (by kernel_rfl) (fun _ _ _ h => h) rfl (fun V hV => by simp [go_sem]) hS1 ?_
    simp only [List.getElem_toArray, List.getElem_cons_zero, List.getElem_cons_succ, Act.put, List.setIfInBounds_toArray, List.set_cons_zero, List.set_cons_succ]
    refine take_val 10 (.int .i64 (sxC (sxL s n P F S D o))) rfl (by kernel_rfl) (by kernel_rfl) (by kernel_rfl) (fun _ _ _ h => h) rfl (fun V hV => by simp [go_sem]) hS1 ?_
    simp only [List.getElem_toArray, List.getElem_cons_zero, List.getElem_cons_succ, Act.put, List.setIfInBounds_toArray, List.set_cons_zero, List.set_cons_succ]
    refine take_val 11 (v1) rfl (by kernel_rfl) (by kernel_rfl) (by kernel_rfl) (fun _ _ _ h => h) rfl (fun V hV => by simp [go_sem]) hS1 ?_
    simp only [List.getElem_toArray, List.getElem_cons_zero, List.getElem_cons_succ, Act.put, List.setIfInBounds_toArray, List.set_cons_zero, List.set_cons_succ]
    refine take_val 12 (.int .i64 (sxC (sxL s n P F S D o))) rfl (by kernel_rfl) (by kernel_rfl) (by kernel_rfl) (fun _ _ _ h => h) rfl (fun V hV => by simp [go_sem]) hS1 ?_
    simp only [List.getElem_toArray, List.getElem_cons_zero, List.getElem_cons_succ, Act.put, List.setIfInBounds_toArray, List.set_cons_zero, List.set_cons_succ]
    refine wpAnyH_done (by kernel_rfl) ?_ _
    have HB3 := Lib.hid (KB.at hS1); have HO3 := Lib.hid (OwnN.mono ho1 (show w.heap.size ≤ Y.drew.heap.size from HSY.out))
    clear hS0 hS1 hb1 ho1
    go_wp2
    refine bodyPost_ret (v := .tuple #[v1, .int .i64 (sxC (sxL s n P F S D o))]) (by simp [results, Tryz.results29, go_sem]) rfl ⟨v1, by rw [HY.out.2], HB3.out, by rw [HY.out.1]; exact HO3.out⟩
  · have hno := Lib.hid (ca_no HW.out h0)
    have hbe := KB.here
    go_wp2
    refine bodyPost_ret (v := .tuple #[.slice none 0 0, .int .i64 z]) (by simp [results, Tryz.results29, go_sem]) rfl ⟨.slice none 0 0, by rw [hno.out.2], hbe, by rw [hno.out.1]; exact OwnL.none0 _ _⟩
end Go.Proofs.YteffaghcjpeblaaGreat
