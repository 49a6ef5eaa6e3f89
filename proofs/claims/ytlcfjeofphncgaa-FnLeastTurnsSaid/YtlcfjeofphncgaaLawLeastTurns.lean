/- The law FnLeastTurns: the walk. No conditions. -/
import Derived.Test.YtlcfjeofphncgaaVh
import Derived.Test.YtlcfjeofphncgaaKp
import Derived.Test.YtlcfjeofphncgaaHeld2
import Derived.Test.YtlcfjeofphncgaaPg
import Derived.Outline
namespace Go.Proofs.Ytlcfjeofphncgaa
open Go.RowKit
set_option linter.unusedVariables false
set_option linter.unusedSimpArgs false

set_option maxRecDepth 100000 in
set_option maxHeartbeats 4000000 in
theorem lawLeastTurns (a0 : Option Addr) (n0 c0 : Nat) (B0 : Nat → Int) (a1 : Option Addr) (n1 c1 : Nat) (B1 : Nat → Int) (w : World) (hn0 : n0 ≤ 9223372036854775807) (hu0 : U8 B0) (hb0 : BytIn w w.heap.size a0 n0 B0) (hn1 : n1 ≤ 9223372036854775807) (hu1 : U8 B1) (hb1 : BytIn w w.heap.size a1 n1 B1) :
    Calls Try.prog 4 #[.slice a0 n0 c0, .slice a1 n1 c1] w fun e w' => e = .returned (.bool true) ∧ Below w.heap.size w w' := by
  by_cases h0 : (4096 : Int) < n0
  · go_enter Try.func4, Try.ntmps4
    go_wp2
    go_ret
    exact ⟨rfl, Below.refl _ _⟩
  by_cases h1 : (4096 : Int) < n1
  · go_enter Try.func4, Try.ntmps4
    go_wp2
    go_ret
    exact ⟨rfl, Below.refl _ _⟩
  have HU0 := Lib.hid hu0; have HU1 := Lib.hid hu1; have HB0 := Lib.hid hb0
  have KB := Kp.base w
  have KY := kp_byt hb1 rfl
  clear hu0 hu1 hb0 hb1
  go_enter Try.func4, Try.ntmps4
  go_wp2_with fail
  refine (f6big_any a0 n0 c0 _ (by omega)).mono ?_
  rintro e w' ⟨rfl, rfl⟩
  go_wp2_with fail
  refine (f6big_any a1 n1 c1 _ (by omega)).mono ?_
  rintro e w' ⟨rfl, rfl⟩
  go_wp2_with fail
  refine (dataFrame_22_any a0 n0 c0 B0 w (by omega) HU0.out HB0.out).mono ?_
  rintro e w1 ⟨s, b, n, d, P, R, rfl, hs, hn, hP, hR, hv, hh, hb⟩
  have HV := Lib.hid hv; have HP := Lib.hid hP; have HR := Lib.hid hR; have KH := kp_ham hh
  replace KB := KB.on hb
  replace KY := KY.on hb
  clear hv hP hR hh hb
  have KF := kp_new w1 #[.int .i16 s, .slice b n d] 27
  replace KB := KB.alloc (.cells #[.int .i16 s, .slice b n d] 27)
  replace KY := KY.alloc (.cells #[.int .i16 s, .slice b n d] 27)
  replace KH := KH.alloc (.cells #[.int .i16 s, .slice b n d] 27)
  obtain ⟨gf, hgf⟩ : ∃ gf, w1.heap.size = gf := ⟨_, rfl⟩
  rw [hgf] at KF
  go_wp2_with (first | (with_reducible refine load_iframe rfl _ rfl gf rfl _ s b n d KF.here ?_) | fail)
  clear hgf
  generalize w1.alloc (.cells #[.int .i16 s, .slice b n d] 27) = w2 at KB KY KH KF ⊢
  refine (dataProgramme_any a1 n1 c1 B1 s b n d w2 (by omega) HU1.out (KY.here.mono KB.here.size) hs).mono ?_
  rintro e w3 ⟨q, m, qc, F, T, O, rfl, hm, hF, hT, hO, hvs, hvo, hl, hb3⟩
  have HF := Lib.hid hF; have HT := Lib.hid hT; have HO := Lib.hid hO; have KL := kp_sec hl
  have HVP := Lib.hid (vProg_iff.2 ⟨HV.out, hvs, hvo⟩)
  replace KB := KB.on hb3
  replace KH := KH.on hb3
  replace KF := KF.on hb3
  clear hF hT hO hvs hvo hl hb3 KY HV
  have hc1 := Lib.hid (lo_facts HVP.out (by omega))
  have hc2 := Lib.hid (sd_dyT HVP.out)
  obtain ⟨gp, hgp⟩ : ∃ gp, w3.heap.size = gp := ⟨_, rfl⟩
  go_wp2_with (first | (refine copy_prog rfl rfl rfl _ _ rfl q m qc O rfl rfl ?_; intro w4 hbn hsn hrn; rw [hgp] at hrn ⊢; have KP := kp_row hrn; have hpc := row_cell 0 hrn; rw [pc_get0] at hpc; replace KB := KB.on hbn; replace KH := KH.on hbn; replace KF := KF.on hbn; replace KL := KL.on hbn; clear hbn hsn hrn hgp) | (with_reducible refine load_iframe rfl _ rfl gf rfl _ s b n d KF.here ?_) | (with_reducible refine load_iprog rfl _ rfl gp rfl _ q m qc O KP.here ?_) | fail)
  obtain ⟨e1, e2, e3, e4, e5⟩ := hc1.out
  obtain ⟨e6, e7⟩ := hc2.out
  obtain ⟨r0, hr0⟩ : ∃ r, loV s n P R m F T O = r := ⟨_, rfl⟩
  obtain ⟨r1, hr1⟩ : ∃ r, loX s n P R m F T O = r := ⟨_, rfl⟩
  refine (implLeastStepsOrder_any s b n d P R q m qc F T O w4 (by omega) (by omega) HP.out HR.out KH.here (by omega) HF.out HT.out HO.out KL.here).mono ?_
  rw [hr0] at e2 e3 e4 e5 ⊢
  rw [hr1] at e4 e5 ⊢
  rw [e1]
  rintro e w5 ⟨v, rfl, hb5, ho5⟩
  obtain ⟨z1, zc1, rfl, hz1⟩ := OwnI.at ho5
  rw [e2] at hz1 ⊢
  have KZ1 := kp_int hz1
  replace KB := KB.on hb5
  replace KH := KH.on hb5
  replace KF := KF.on hb5
  replace KL := KL.on hb5
  replace KP := KP.on hb5
  have HR0 := Lib.hid hr0; have HR1 := Lib.hid hr1; have E1 := Lib.hid e1; have E2 := Lib.hid e2; have E3 := Lib.hid e3; have E4 := Lib.hid e4; have E5 := Lib.hid e5; have E6 := Lib.hid e6; have E7 := Lib.hid e7
  clear hr0 hr1 e1 e2 e3 e4 e5 e6 e7 ho5 hz1 hb5 hc1 hc2
  go_wp2_with (first | (with_reducible refine load_iframe rfl _ rfl gf rfl _ s b n d KF.here ?_) | (with_reducible refine load_iprog rfl _ rfl gp rfl _ q m qc O KP.here ?_) | fail)
  refine (specLeastStepsOrder_any s b n d P R q m qc F T O w5 (by omega) (by omega) HP.out HR.out KH.here (by omega) HF.out HT.out HO.out KL.here).mono ?_
  rw [HR0.out, HR1.out, E1.out]
  rintro e w6 ⟨v, rfl, hb6, ho6⟩
  obtain ⟨z2, zc2, rfl, hz2⟩ := OwnI.at ho6
  rw [E2.out] at hz2 ⊢
  have KZ2 := kp_int hz2
  replace KB := KB.on hb6
  replace KH := KH.on hb6
  replace KF := KF.on hb6
  replace KL := KL.on hb6
  replace KP := KP.on hb6
  replace KZ1 := KZ1.on hb6
  clear ho6 hz2 hb6
  go_wp2_with (first | (with_reducible refine load_iframe rfl _ rfl gf rfl _ s b n d KF.here ?_) | (with_reducible refine load_iprog rfl _ rfl gp rfl _ q m qc O KP.here ?_) | fail)
  refine (implStepsInDay_any s b n d P R q m qc F T O w6 (by omega) (by omega) HP.out HR.out KH.here (by omega) HF.out HT.out HO.out KL.here).mono ?_
  rw [E6.out, E7.out]
  rintro e w7 ⟨rfl, hb7⟩
  replace KB := KB.on hb7
  replace KH := KH.on hb7
  replace KF := KF.on hb7
  replace KL := KL.on hb7
  replace KP := KP.on hb7
  replace KZ1 := KZ1.on hb7
  replace KZ2 := KZ2.on hb7
  clear hb7
  obtain ⟨dy, hdy⟩ : ∃ r, dyT s F T O 48 = r := ⟨_, rfl⟩
  rw [hdy]
  have HDY := Lib.hid hdy; clear hdy
  have p0 := row_cell 0 KP.here
  rw [pc_get0] at p0
  have hmm : ((m : Int) != (m : Int)) = false := by simp
  have hrr : (r1 != r1) = false := by simp
  go_wp2_with (first | (with_reducible refine load_iframe rfl _ rfl gf rfl _ s b n d KF.here ?_) | (with_reducible refine load_iprog rfl _ rfl gp rfl _ q m qc O KP.here ?_) | fail)
  refine (same_27_any z1 z2 m zc1 zc2 (fun i => r0.getD i 0) w7 (by omega) KZ1.here KZ2.here).mono ?_
  rintro e w8 ⟨rfl, hb8⟩
  replace KB := KB.on hb8
  replace KH := KH.on hb8
  replace KF := KF.on hb8
  replace KL := KL.on hb8
  replace KP := KP.on hb8
  replace KZ1 := KZ1.on hb8
  replace KZ2 := KZ2.on hb8
  clear hb8 p0
  have p0 := row_cell 0 KP.here
  rw [pc_get0] at p0
  obtain ⟨hs2, _, hsec, hord⟩ := vProg_facts HVP.out
  have HSEC := Lib.hid hsec; have HORD := Lib.hid hord
  clear hsec hord
  have q0 := i64_id (x := s) (by omega)
  have hs0 : ¬ s = 0 := by omega
  go_wp2_with (first | (with_reducible refine load_iframe rfl _ rfl gf rfl _ s b n d KF.here ?_) | (with_reducible refine load_iprog rfl _ rfl gp rfl _ q m qc O KP.here ?_) | fail)
  clear p0 hmm hrr
  go_loopw [15, 16, 17] (fun at_ sum i W => Below w8.heap.size w8 W ∧ ∃ k : Nat, k ≤ 48 ∧ i = .int .i64 k ∧ sum = .int .i64 (dyT s F T O k) ∧ at_ = .int .i64 (dyT s F T O k % s)) (fun _ _ i _ => 48 - (intOf i).toNat)
  case atStart => exact ⟨Below.refl _ _, 0, by omega, rfl, by rw [dyT_zero], by rw [dyT_zero]; simp⟩
  case round =>
    obtain ⟨hb, k, hk, rfl, rfl, rfl⟩ := hrel
    replace KB := KB.on hb
    replace KH := KH.on hb
    replace KF := KF.on hb
    replace KL := KL.on hb
    replace KP := KP.on hb
    replace KZ1 := KZ1.on hb
    replace KZ2 := KZ2.on hb
    by_cases hlt : k < 48
    · have hk' : (k : Int) < 48 := by omega
      have e0 : wr.cell? ⟨gp, 1 + k, none⟩ = some (.int .i8 (O k)) := by rw [row_cell (1 + k) KP.here, pc_get _ _ _ _ k hlt]
      have q9 := i64_id (x := (k : Int) + 1) (by omega)
      by_cases hO0 : O k < 0
      · have hno := Lib.hid (dyT_no (s := s) (F := F) (S := T) (show ¬ 0 ≤ O k by omega))
        go_wp2
        go_roundw
        case rel => exact ⟨hb, k + 1, by omega, by go_num, by rw [hno.out], by rw [hno.out]⟩
        case measure => simp [intOf]; omega
      · obtain ⟨x, hx⟩ : ∃ x : Nat, O k = x := ⟨(O k).toNat, by omega⟩
        have hok := HORD.out k hlt
        have hxm : x < m := by omega
        have hxm' : (x : Int) < m := by omega
        have hyes := dyT_yes (s := s) (F := F) (S := T) hx
        have hmod := dyT_mod (s := s) (F := F) (S := T) (by omega) hx
        have hdb := dyT_bound hs2 HSEC.out HORD.out (k := k) (by omega)
        obtain ⟨p, hp⟩ : ∃ p, dyT s F T O k = p := ⟨_, rfl⟩
        rw [hp] at hyes hdb ⊢
        clear hp
        have hm1 := Int.emod_nonneg p (show s ≠ 0 by omega)
        have hm2 := Int.emod_lt_of_pos p (show 0 < s by omega)
        obtain ⟨r, hr⟩ : ∃ r, p % s = r := ⟨_, rfl⟩
        rw [hr] at hyes hm1 hm2 ⊢
        clear hr
        have hst := stT_bound (s := s) (f := F x) (t := r) (by omega)
        have hfx := HSEC.out x hxm
        have hhit := st_hit (s := s) (F x) r (by omega)
        obtain ⟨y, hy⟩ : ∃ y, stT s (F x) r = y := ⟨_, rfl⟩
        have hcode : stCode s n P R m F T O r (x : Int) = 0 := by rw [stCode_def, HVP.out, inB_true (by omega), inB_true (by omega), Bool.and_self, pcode_tt]
        have hval : stVal s n P R m F T O r (x : Int) = y := by rw [stVal_yes hcode, Int.toNat_natCast, hy]
        rw [hy] at hyes hst hhit
        clear hy
        have HYES := Lib.hid hyes; have HMOD := Lib.hid hmod; have HCODE := Lib.hid hcode; have HVAL := Lib.hid hval
        clear hyes hmod hcode hval
        have hx2 := SecAt.get KL.here (show 0 < m by omega)
        obtain ⟨g, off, rfl, hg, hc⟩ := hx2
        have C0 := Lib.hid (hc x hxm).1
        have C1 := Lib.hid (hc x hxm).2
        clear hc
        rw [hx] at e0
        have HOX := Lib.hid hx
        have E0 := Lib.hid e0
        have hx0 : ¬ (x : Int) < 0 := by omega
        clear hx hO0 hok
        have qx := i64_id (x := (x : Int)) (by omega)
        go_wp2
        have hS0 : Below wr.heap.size wr wr.drew := (Below.refl _ _).drew
        refine wp_region_S (fun V => Below wr.heap.size wr V) (by kernel_rfl) hS0 ?_
        refine take_val 0 (.pointer (some ⟨gp, 0, none⟩)) rfl (by kernel_rfl) (by kernel_rfl) (by kernel_rfl) (fun _ _ _ h => h) rfl (fun V hV => by simp [go_sem]) hS0 ?_
        simp only [List.getElem_toArray, List.getElem_cons_zero, List.getElem_cons_succ, Act.put, List.setIfInBounds_toArray, List.set_cons_zero, List.set_cons_succ]
        refine take_val 1 (.slice (some ⟨g, off, none⟩) m qc) rfl (by kernel_rfl) (by kernel_rfl) (by kernel_rfl) (fun _ _ _ h => h) rfl (fun V hV => by have p0 := row_cell 0 (KP.at hV); rw [pc_get0] at p0; simp [go_sem, p0]) hS0 ?_
        simp only [List.getElem_toArray, List.getElem_cons_zero, List.getElem_cons_succ, Act.put, List.setIfInBounds_toArray, List.set_cons_zero, List.set_cons_succ]
        refine take_val 2 (.int .i64 (k : Int)) rfl (by kernel_rfl) (by kernel_rfl) (by kernel_rfl) (fun _ _ _ h => h) rfl (fun V hV => by simp [go_sem]) hS0 ?_
        simp only [List.getElem_toArray, List.getElem_cons_zero, List.getElem_cons_succ, Act.put, List.setIfInBounds_toArray, List.set_cons_zero, List.set_cons_succ]
        refine take_val 3 (.pointer (some ⟨gp, 1, none⟩)) rfl (by kernel_rfl) (by kernel_rfl) (by kernel_rfl) (fun _ _ _ h => h) rfl (fun V hV => by simp [go_sem]) hS0 ?_
        simp only [List.getElem_toArray, List.getElem_cons_zero, List.getElem_cons_succ, Act.put, List.setIfInBounds_toArray, List.set_cons_zero, List.set_cons_succ]
        refine take_val 4 (.pointer (some ⟨gp, 1 + k, none⟩)) rfl (by kernel_rfl) (by kernel_rfl) (by kernel_rfl) (fun _ _ _ h => h) rfl (fun V hV => by simp [go_sem, hlt, hk']) hS0 ?_
        simp only [List.getElem_toArray, List.getElem_cons_zero, List.getElem_cons_succ, Act.put, List.setIfInBounds_toArray, List.set_cons_zero, List.set_cons_succ]
        refine take_val 5 (.int .i8 (x : Int)) rfl (by kernel_rfl) (by kernel_rfl) (by kernel_rfl) (fun _ _ _ h => h) rfl (fun V hV => by have e0 := (hV.cell (p := ⟨gp, 1 + k, none⟩) (row_lt KP.here)).trans E0.out; simp [go_sem, e0]) hS0 ?_
        simp only [List.getElem_toArray, List.getElem_cons_zero, List.getElem_cons_succ, Act.put, List.setIfInBounds_toArray, List.set_cons_zero, List.set_cons_succ]
        refine take_val 6 (.pointer (some ⟨g, off + x * 2, none⟩)) rfl (by kernel_rfl) (by kernel_rfl) (by kernel_rfl) (fun _ _ _ h => h) rfl (fun V hV => by simp [go_sem, hxm, hxm']) hS0 ?_
        simp only [List.getElem_toArray, List.getElem_cons_zero, List.getElem_cons_succ, Act.put, List.setIfInBounds_toArray, List.set_cons_zero, List.set_cons_succ]
        refine take_val 7 (.agg #[.int .i16 (F x), .int .i16 (T x)]) rfl (by kernel_rfl) (by kernel_rfl) (by kernel_rfl) (fun _ _ _ h => h) rfl (fun V hV => by have c0 := (hV.cell (p := ⟨g, off + x * 2, none⟩) hg).trans C0.out; have c1 := (hV.cell (p := ⟨g, off + x * 2 + 1, none⟩) hg).trans C1.out; simp [go_sem, c0, c1]) hS0 ?_
        simp only [List.getElem_toArray, List.getElem_cons_zero, List.getElem_cons_succ, Act.put, List.setIfInBounds_toArray, List.set_cons_zero, List.set_cons_succ]
        refine step_val 8 (.pointer (some ⟨wr.heap.size, 0, none⟩)) (wr.drew.alloc (.cells #[.int .i16 0, .int .i16 0] 56)) (by kernel_rfl) rfl rfl (by simp [go_sem]) (hS0.alloc (Nat.le_refl _) _) ?_
        simp only [List.getElem_toArray, List.getElem_cons_zero, List.getElem_cons_succ, Act.put, List.setIfInBounds_toArray, List.set_cons_zero, List.set_cons_succ]
        refine step_skip 9 (wr.drew.alloc (.cells #[.int .i16 (F x), .int .i16 (T x)] 56)) (by kernel_rfl) rfl rfl (by simp [go_sem]) (hS0.alloc (Nat.le_refl _) _) ?_
        simp only [List.getElem_toArray, List.getElem_cons_zero, List.getElem_cons_succ, Act.put, List.setIfInBounds_toArray, List.set_cons_zero, List.set_cons_succ]
        refine wpAnyH_done (by kernel_rfl) ?_ _
        have hd := below_drew wr
        replace KB := KB.on hd
        replace KH := KH.on hd
        replace KL := KL.on hd
        replace KF := KF.on hd
        replace KP := KP.on hd
        replace KZ1 := KZ1.on hd
        replace KZ2 := KZ2.on hd
        have KS := kp_new wr.drew #[.int .i16 (F x), .int .i16 (T x)] 56
        replace KB := KB.alloc (.cells #[.int .i16 (F x), .int .i16 (T x)] 56)
        replace KH := KH.alloc (.cells #[.int .i16 (F x), .int .i16 (T x)] 56)
        replace KL := KL.alloc (.cells #[.int .i16 (F x), .int .i16 (T x)] 56)
        replace KF := KF.alloc (.cells #[.int .i16 (F x), .int .i16 (T x)] 56)
        replace KP := KP.alloc (.cells #[.int .i16 (F x), .int .i16 (T x)] 56)
        replace KZ1 := KZ1.alloc (.cells #[.int .i16 (F x), .int .i16 (T x)] 56)
        replace KZ2 := KZ2.alloc (.cells #[.int .i16 (F x), .int .i16 (T x)] 56)
        have hbV := hb.drew.alloc hb.size (.cells #[.int .i16 (F x), .int .i16 (T x)] 56)
        rw [show wr.drew.heap.size = wr.heap.size from rfl] at KS
        obtain ⟨gs, hgs⟩ : ∃ gs, wr.heap.size = gs := ⟨_, rfl⟩
        rw [hgs] at KS ⊢
        clear hgs hd C0 C1 hS0 E0 e0
        generalize wr.drew.alloc (.cells #[.int .i16 (F x), .int .i16 (T x)] 56) = V1 at KS KB KH KL KF KP KZ1 KZ2 hbV ⊢
        go_wp2
        refine wp_region_S (fun V => Below V1.heap.size V1 V) (by kernel_rfl) (Below.refl _ _).drew ?_
        have hS0 : Below V1.heap.size V1 V1.drew := (Below.refl _ _).drew
        refine take_val 0 (.agg #[.int .i16 s, .slice b n d]) rfl (by kernel_rfl) (by kernel_rfl) (by kernel_rfl) (fun _ _ _ h => h) rfl (fun V hV => ex_load_iframe _ rfl gf rfl _ s b n d (KF.at hV)) hS0 ?_
        simp only [List.getElem_toArray, List.getElem_cons_zero, List.getElem_cons_succ, Act.put, List.setIfInBounds_toArray, List.set_cons_zero, List.set_cons_succ]
        refine take_val 1 (.agg (pc (some ⟨g, off, none⟩) m qc O)) rfl (by kernel_rfl) (by kernel_rfl) (by kernel_rfl) (fun _ _ _ h => h) rfl (fun V hV => ex_load_iprog _ rfl gp rfl _ (some ⟨g, off, none⟩) m qc O (KP.at hV)) hS0 ?_
        simp only [List.getElem_toArray, List.getElem_cons_zero, List.getElem_cons_succ, Act.put, List.setIfInBounds_toArray, List.set_cons_zero, List.set_cons_succ]
        refine take_val 2 (.int .i64 r) rfl (by kernel_rfl) (by kernel_rfl) (by kernel_rfl) (fun _ _ _ h => h) rfl (fun V hV => by simp [go_sem]) hS0 ?_
        simp only [List.getElem_toArray, List.getElem_cons_zero, List.getElem_cons_succ, Act.put, List.setIfInBounds_toArray, List.set_cons_zero, List.set_cons_succ]
        refine take_val 3 (.int .i64 (k : Int)) rfl (by kernel_rfl) (by kernel_rfl) (by kernel_rfl) (fun _ _ _ h => h) rfl (fun V hV => by simp [go_sem]) hS0 ?_
        simp only [List.getElem_toArray, List.getElem_cons_zero, List.getElem_cons_succ, Act.put, List.setIfInBounds_toArray, List.set_cons_zero, List.set_cons_succ]
        refine take_val 4 (.pointer (some ⟨gp, 1, none⟩)) rfl (by kernel_rfl) (by kernel_rfl) (by kernel_rfl) (fun _ _ _ h => h) rfl (fun V hV => by simp [go_sem]) hS0 ?_
        simp only [List.getElem_toArray, List.getElem_cons_zero, List.getElem_cons_succ, Act.put, List.setIfInBounds_toArray, List.set_cons_zero, List.set_cons_succ]
        refine take_val 5 (.pointer (some ⟨gp, 1 + k, none⟩)) rfl (by kernel_rfl) (by kernel_rfl) (by kernel_rfl) (fun _ _ _ h => h) rfl (fun V hV => by simp [go_sem, hlt, hk']) hS0 ?_
        simp only [List.getElem_toArray, List.getElem_cons_zero, List.getElem_cons_succ, Act.put, List.setIfInBounds_toArray, List.set_cons_zero, List.set_cons_succ]
        refine take_val 6 (.int .i8 (x : Int)) rfl (by kernel_rfl) (by kernel_rfl) (by kernel_rfl) (fun _ _ _ h => h) rfl (fun V hV => by have e0 := row_cell (1 + k) (KP.at hV); rw [pc_get _ _ _ _ k hlt, HOX.out] at e0; simp [go_sem, e0]) hS0 ?_
        simp only [List.getElem_toArray, List.getElem_cons_zero, List.getElem_cons_succ, Act.put, List.setIfInBounds_toArray, List.set_cons_zero, List.set_cons_succ]
        refine take_val 7 (.int .i64 (x : Int)) rfl (by kernel_rfl) (by kernel_rfl) (by kernel_rfl) (fun _ _ _ h => h) rfl (fun V hV => by simp [go_sem, qx]) hS0 ?_
        simp only [List.getElem_toArray, List.getElem_cons_zero, List.getElem_cons_succ, Act.put, List.setIfInBounds_toArray, List.set_cons_zero, List.set_cons_succ]
        have KQ := kp_start V1
        have hd := below_drew V1
        replace KB := KB.on hd
        replace KH := KH.on hd
        replace KL := KL.on hd
        replace KF := KF.on hd
        replace KP := KP.on hd
        replace KZ1 := KZ1.on hd
        replace KZ2 := KZ2.on hd
        replace KS := KS.on hd
        clear hd
        refine step_call 8 28 #[.agg #[.int .i16 s, .slice b n d], .agg (pc (some ⟨g, off, none⟩) m qc O), .int .i64 r, .int .i64 (x : Int)] (by kernel_rfl) rfl rfl (by simp [go_sem]) ?_
        refine (implStepsTo_any s b n d P R (some ⟨g, off, none⟩) m qc F T O r (x : Int) _ (by omega) (by omega) HP.out HR.out KH.here (by omega) HF.out HT.out HO.out KL.here (by omega) (by omega)).mono ?_
        rw [HVAL.out, HCODE.out]
        rintro e V2 ⟨rfl, hb2⟩
        replace KB := KB.on hb2
        replace KH := KH.on hb2
        replace KL := KL.on hb2
        replace KF := KF.on hb2
        replace KP := KP.on hb2
        replace KZ1 := KZ1.on hb2
        replace KZ2 := KZ2.on hb2
        replace KS := KS.on hb2
        replace KQ := KQ.on hb2
        have hS2 := KQ.here
        refine ⟨_, rfl, hS2, ?_⟩
        simp only [List.getElem_toArray, List.getElem_cons_zero, List.getElem_cons_succ, Act.put, List.setIfInBounds_toArray, List.set_cons_zero, List.set_cons_succ]
        refine take_val 9 (.tuple #[.int .i64 y, .int .i64 0]) rfl (by kernel_rfl) (by kernel_rfl) (by kernel_rfl) (fun _ _ _ h => h) rfl (fun V hV => by simp [go_sem]) hS2 ?_
        simp only [List.getElem_toArray, List.getElem_cons_zero, List.getElem_cons_succ, Act.put, List.setIfInBounds_toArray, List.set_cons_zero, List.set_cons_succ]
        refine take_val 10 (.int .i64 y) rfl (by kernel_rfl) (by kernel_rfl) (by kernel_rfl) (fun _ _ _ h => h) rfl (fun V hV => by simp [go_sem]) hS2 ?_
        simp only [List.getElem_toArray, List.getElem_cons_zero, List.getElem_cons_succ, Act.put, List.setIfInBounds_toArray, List.set_cons_zero, List.set_cons_succ]
        refine take_val 11 (.int .i64 0) rfl (by kernel_rfl) (by kernel_rfl) (by kernel_rfl) (fun _ _ _ h => h) rfl (fun V hV => by simp [go_sem]) hS2 ?_
        simp only [List.getElem_toArray, List.getElem_cons_zero, List.getElem_cons_succ, Act.put, List.setIfInBounds_toArray, List.set_cons_zero, List.set_cons_succ]
        refine take_val 12 (.int .i64 y) rfl (by kernel_rfl) (by kernel_rfl) (by kernel_rfl) (fun _ _ _ h => h) rfl (fun V hV => by simp [go_sem]) hS2 ?_
        simp only [List.getElem_toArray, List.getElem_cons_zero, List.getElem_cons_succ, Act.put, List.setIfInBounds_toArray, List.set_cons_zero, List.set_cons_succ]
        refine take_val 13 (.int .i64 0) rfl (by kernel_rfl) (by kernel_rfl) (by kernel_rfl) (fun _ _ _ h => h) rfl (fun V hV => by simp [go_sem]) hS2 ?_
        simp only [List.getElem_toArray, List.getElem_cons_zero, List.getElem_cons_succ, Act.put, List.setIfInBounds_toArray, List.set_cons_zero, List.set_cons_succ]
        refine wpAnyH_done (by kernel_rfl) ?_ _
        have hbE := hbV.trans (KQ.here.mono hbV.size)
        clear hb2 hS2 hS0 KQ hbV
        have d0 := row_cell 0 KF.here
        have s0 := row_cell 0 KS.here
        have s1 := row_cell 1 KS.here
        have ht := Int.tmod_eq_emod_of_nonneg (a := r + y) (b := s) (by omega)
        rw [hhit] at ht
        have hne : (F x != F x) = false := by simp
        have hys : ¬ s ≤ y := by omega
        have hy0 : ¬ y < 0 := by omega
        have w1 := i64_id (x := F x) (by omega)
        have w2 := i64_id (x := T x) (by omega)
        have w3 := i64_id (x := r + y) (by omega)
        have w4 := i64_id (x := y + T x) (by omega)
        have w5 := i64_id (x := p + (y + T x)) (by omega)
        have w6 := i64_id (x := F x + T x) (by omega)
        have ht2 := Int.tmod_eq_emod_of_nonneg (a := F x + T x) (b := s) (by omega)
        go_wp2
        go_quiet (fail)
        clear hhit ht hne hys hy0 w3
        go_wp2
        go_roundw
        case rel => exact ⟨below_drewN hbE _, k + 1, by omega, by go_num, by rw [HYES.out], by rw [HMOD.out]⟩
        case measure => simp [intOf]; omega
    · have hk48 : k = 48 := by omega
      have hdk : dyT s F T O k = dy := by rw [hk48]; exact HDY.out
      have hkg : ¬ (k : Int) < 48 := by omega
      rw [hdk]
      clear hk48 hdk hk
      have hdd : (dy != dy) = false := by simp
      obtain ⟨U, rfl⟩ : ∃ U, U = wr := ⟨wr, rfl⟩
      clear hlt
      go_wp2_with (first | (with_reducible refine load_iframe rfl _ rfl gf rfl _ s b n d KF.here ?_) | (with_reducible refine load_iprog rfl _ rfl gp rfl _ q m qc O KP.here ?_) | fail)
      clear hdd
      go_loopw [21] (fun i W => Below U.heap.size U W ∧ ∃ j : Nat, j ≤ m ∧ i = .int .i64 j) (fun i _ => m - (intOf i).toNat)
      case atStart => exact ⟨Below.refl _ _, 0, by omega, rfl⟩
      case round =>
        obtain ⟨hb, j, hj, rfl⟩ := hrel
        replace KB := KB.on hb
        replace KH := KH.on hb
        replace KL := KL.on hb
        replace KF := KF.on hb
        replace KP := KP.on hb
        replace KZ1 := KZ1.on hb
        replace KZ2 := KZ2.on hb
        by_cases hlt : j < m
        · have hj' : (j : Int) < m := by omega
          have HBJ := Lib.hid hb; clear hb
          obtain ⟨V0, rfl⟩ : ∃ V0, V0 = wr := ⟨wr, rfl⟩
          go_wp2_with (first | (with_reducible refine load_iframe rfl _ rfl gf rfl _ s b n d KF.here ?_) | (with_reducible refine load_iprog rfl _ rfl gp rfl _ q m qc O KP.here ?_) | fail)
          go_loopw [15, 16, 22] (fun at_ sum i W => Below V0.heap.size V0 W ∧ ∃ k : Nat, k ≤ m ∧ i = .int .i64 k ∧ sum = .int .i64 (rtT s F T r0 j k) ∧ at_ = .int .i64 (rtT s F T r0 j k % s)) (fun _ _ i _ => m - (intOf i).toNat)
          case atStart => exact ⟨Below.refl _ _, 0, by omega, rfl, by rw [rtT_zero], by rw [rtT_zero]; simp⟩
          case round =>
            obtain ⟨hb, k, hk, rfl, rfl, rfl⟩ := hrel
            replace KB := KB.on hb
            replace KH := KH.on hb
            replace KL := KL.on hb
            replace KF := KF.on hb
            replace KP := KP.on hb
            replace KZ1 := KZ1.on hb
            replace KZ2 := KZ2.on hb
            by_cases hltk : k < m
            · have hk' : (k : Int) < m := by omega
              obtain ⟨r, hr⟩ : ∃ r, (k + j) % m = r := ⟨_, rfl⟩
              have hrm : r < m := by rw [← hr]; exact Nat.mod_lt _ (by omega)
              have hrm' : (r : Int) < m := by omega
              have hmd : ((k : Int) + (j : Int)).tmod (m : Int) = (r : Int) := by rw [← Int.natCast_add, ← Int.ofNat_tmod, hr]
              have hm0 : ¬ m = 0 := by omega
              have hok := E3.out r (by rw [E2.out]; exact hrm)
              obtain ⟨x, hx⟩ : ∃ x : Nat, r0.getD r 0 = x := ⟨(r0.getD r 0).toNat, by omega⟩
              have hidx : r0.getD ((k + j) % r0.length) 0 = x := by rw [E2.out, hr, hx]
              have hyes := rtT_succ (s := s) (F := F) (S := T) (l := r0) (j := j) (k := k) hidx
              have hmod := rtT_mod (s := s) (F := F) (S := T) (l := r0) (j := j) (k := k) (by omega) hidx
              have hdb := rtT_bound hs2 HSEC.out E2.out (by omega) E3.out (j := j) (k := k) (by omega)
              have hxm : x < m := by omega
              have hxm' : (x : Int) < m := by omega
              obtain ⟨p, hp⟩ : ∃ p, rtT s F T r0 j k = p := ⟨_, rfl⟩
              rw [hp] at hyes hdb ⊢
              clear hp hidx
              have hm1 := Int.emod_nonneg p (show s ≠ 0 by omega)
              have hm2 := Int.emod_lt_of_pos p (show 0 < s by omega)
              obtain ⟨rr, hrr⟩ : ∃ r, p % s = r := ⟨_, rfl⟩
              rw [hrr] at hyes hm1 hm2 ⊢
              clear hrr
              have hst := stT_bound (s := s) (f := F x) (t := rr) (by omega)
              have hfx := HSEC.out x hxm
              obtain ⟨y, hy⟩ : ∃ y, stT s (F x) rr = y := ⟨_, rfl⟩
              have hcode : stCode s n P R m F T O rr (x : Int) = 0 := by rw [stCode_def, HVP.out, inB_true (by omega), inB_true (by omega), Bool.and_self, pcode_tt]
              have hval : stVal s n P R m F T O rr (x : Int) = y := by rw [stVal_yes hcode, Int.toNat_natCast, hy]
              rw [hy] at hyes hst
              clear hy
              have HYES := Lib.hid hyes; have HMOD := Lib.hid hmod; have HCODE := Lib.hid hcode; have HVAL := Lib.hid hval
              clear hyes hmod hcode hval
              obtain ⟨g2, o2, hz2, hg2, hcz⟩ := IntAt.get KZ2.here (show 0 < m by omega)
              have cz := hcz r hrm
              simp only [hx] at cz
              clear hcz
              obtain ⟨g, off, rfl, hg, hc⟩ := SecAt.get KL.here (show 0 < m by omega)
              have c0 := (hc x hxm).1
              have c1 := (hc x hxm).2
              clear hc hr hx hok
              have p0 := row_cell 0 KP.here
              rw [pc_get0] at p0
              have w1 := i64_id (x := F x) (by omega)
              have w2 := i64_id (x := T x) (by omega)
              have w4 := i64_id (x := y + T x) (by omega)
              have w5 := i64_id (x := p + (y + T x)) (by omega)
              have w6 := i64_id (x := F x + T x) (by omega)
              have w7 := i64_id (x := (k : Int) + j) (by omega)
              have w8 := i64_id (x := (k : Int) + 1) (by omega)
              have hx0 : ¬ (x : Int) < 0 := by omega
              have hxg : ¬ (m : Int) ≤ x := by omega
              subst hz2
              go_wp2_with (first | (with_reducible refine load_iframe rfl _ rfl gf rfl _ s b n d (KF.alloc _).here ?_) | (with_reducible refine load_iprog rfl _ rfl gp rfl _ (some ⟨g, off, none⟩) m qc O (KP.alloc _).here ?_) | fail)
              replace KB := KB.alloc (.cells #[.int .i16 (F x), .int .i16 (T x)] 56)
              replace KH := KH.alloc (.cells #[.int .i16 (F x), .int .i16 (T x)] 56)
              replace KL := KL.alloc (.cells #[.int .i16 (F x), .int .i16 (T x)] 56)
              replace KF := KF.alloc (.cells #[.int .i16 (F x), .int .i16 (T x)] 56)
              replace KP := KP.alloc (.cells #[.int .i16 (F x), .int .i16 (T x)] 56)
              replace KZ1 := KZ1.alloc (.cells #[.int .i16 (F x), .int .i16 (T x)] 56)
              replace KZ2 := KZ2.alloc (.cells #[.int .i16 (F x), .int .i16 (T x)] 56)
              have KS := kp_new wr #[.int .i16 (F x), .int .i16 (T x)] 56
              have hbV := hb.alloc hb.size (.cells #[.int .i16 (F x), .int .i16 (T x)] 56)
              obtain ⟨gs, hgs⟩ : ∃ gs, wr.heap.size = gs := ⟨_, rfl⟩
              rw [hgs] at KS ⊢
              clear hgs c0 c1 cz p0 hmd w7
              generalize wr.alloc (.cells #[.int .i16 (F x), .int .i16 (T x)] 56) = V1 at KS KB KH KL KF KP KZ1 KZ2 hbV ⊢
              refine (implStepsTo_any s b n d P R (some ⟨g, off, none⟩) m qc F T O rr (x : Int) _ (by omega) (by omega) HP.out HR.out KH.here (by omega) HF.out HT.out HO.out KL.here (by omega) (by omega)).mono ?_
              rw [HVAL.out, HCODE.out]
              rintro e V2 ⟨rfl, hb2⟩
              replace KB := KB.on hb2
              replace KH := KH.on hb2
              replace KL := KL.on hb2
              replace KF := KF.on hb2
              replace KP := KP.on hb2
              replace KZ1 := KZ1.on hb2
              replace KZ2 := KZ2.on hb2
              replace KS := KS.on hb2
              have HBE := Lib.hid (hbV.trans (hb2.mono hbV.size))
              clear hb2 hbV
              have d0 := row_cell 0 KF.here
              have s0 := row_cell 0 KS.here
              have s1 := row_cell 1 KS.here
              have ht2 := Int.tmod_eq_emod_of_nonneg (a := F x + T x) (b := s) (by omega)
              go_wp2
              go_roundw
              case rel => exact ⟨HBE.out, k + 1, by omega, by go_num, by rw [HYES.out], by rw [HMOD.out]⟩
              case measure => simp [intOf]; omega
            · have hkm : k = m := by omega
              rw [hkm]
              have HBE := Lib.hid (HBJ.out.trans (hb.mono HBJ.out.size))
              have hle := E4.out j hlt
              have hz := E5.out
              have w8 := i64_id (x := (j : Int) + 1) (by omega)
              have hnl : ¬ rtT s F T r0 j m < r1 := by omega
              by_cases hj0 : j = 0
              · subst hj0
                rw [← hz]
                have hrr : (r1 != r1) = false := by simp
                have hnr : ¬ r1 < r1 := by omega
                have HZ := Lib.hid hz; clear hz hle hnl hkm
                go_wp2
                go_roundw
                case rel => exact ⟨HBE.out, 1, by omega, by go_num⟩
                case measure => simp [intOf]; omega
              · obtain ⟨z, hz2⟩ : ∃ z, rtT s F T r0 j m = z := ⟨_, rfl⟩
                rw [hz2] at hle hnl ⊢
                have hjj : ((j : Int) == 0) = false := by simp; omega
                clear hz hz2 hkm
                go_wp2
                go_roundw
                case rel => exact ⟨HBE.out, j + 1, by omega, by go_num⟩
                case measure => simp [intOf]; omega
        · go_wp2
          go_ret
          exact ⟨rfl, KB.here⟩
end Go.Proofs.Ytlcfjeofphncgaa
