/- ChangesText, by the program and by the reference. No conditions. -/
import Derived.Test.YteboefffkpcnaaaDoorCx
import Derived.Test.YteboefffkpcnaaaDoorJn
import Derived.Test.YteboefffkpcnaaaDoorKp
import Derived.Outline
namespace Go.Proofs.YteboefffkpcnaaaDoor
open Go.RowKit
set_option linter.unusedVariables false
set_option linter.unusedSimpArgs false

theorem kpc {w : World} {p : Addr} {v : Value} (h : w.cell? p = some v) (hp : p.block < w.heap.size) : Kp w (fun V => V.cell? p = some v) := Kp.mk fun _ hb => (hb.cell hp).trans h
theorem changesText1_any (s k : Int) (u : Bool) (w : World) (hs : -32768 ≤ s ∧ s ≤ 32767) (hk : -128 ≤ k ∧ k ≤ 127) :
    Calls Tryd.prog 34 #[.agg #[.int .i16 s, .int .i8 k, .bool u]] w fun e w' => e = .returned (.bool (!chOK s k)) ∧ Below w.heap.size w w' := by
  have q0 := i64_id (x := s) (by omega)
  have q1 := i64_id (x := k) (by omega)
  cases hA : inB s 0 95
  · go_enter Tryd.func34, Tryd.ntmps34
    go_wp2_with (go_at_call 35; refine (within_any _ _ _ _).mono ?_; rintro e w' ⟨rfl, rfl⟩)
    go_ret
    exact ⟨ret_bool (by rw [chOK_def, hA]; rfl), (Below.refl _ _).alloc (Nat.le_refl _) _⟩
  · go_enter Tryd.func34, Tryd.ntmps34
    go_wp2_with (go_at_call 35; refine (within_any _ _ _ _).mono ?_; rintro e w' ⟨rfl, rfl⟩)
    go_ret
    exact ⟨ret_bool (by rw [chOK_def, hA]; rfl), (Below.refl _ _).alloc (Nat.le_refl _) _⟩
theorem indexFuncChange_any (a : Option Addr) (n c : Nat) (S K : Nat → Int) (U : Nat → Bool) (p : Nat → Bool) (w : World) (hn : n ≤ 1000000000) (hh : ChgAt w a n S K U)
    (hcall : ∀ W k, k < n → Calls Tryd.prog 34 #[.agg #[.int .i16 (S k), .int .i8 (K k), .bool (U k)]] W fun e W' => e = .returned (.bool (p k)) ∧ Below W.heap.size W W') :
    Calls Tryd.prog 51 #[.slice a n c, .func (.func 34) #[] #[]] w fun e w' => ∃ r, e = .returned (.int .i64 r) ∧ IdxOf p n r ∧ Below w.heap.size w w' := by
  have HH := Lib.hid hh; clear hh
  have HC := Lib.hid hcall; clear hcall
  go_enter Tryd.func51, Tryd.ntmps51
  go_wp2
  go_loopw [8] (fun i w' => Below w.heap.size w w' ∧ ∃ k : Nat, k ≤ n ∧ i = .int .i64 k ∧ ∀ j, j < k → p j = false) (fun i _ => n - (intOf i).toNat)
  case atStart => exact ⟨Below.refl _ _, 0, by omega, rfl, fun j hj => by omega⟩
  case round =>
    obtain ⟨hb, k, hk, rfl, hK⟩ := hrel
    have HK := Lib.hid hK; clear hK
    by_cases hlt : k < n
    · have hx := ChgAt.get HH.out (show 0 < n by omega)
      obtain ⟨g, off, rfl, hg, hc⟩ := hx
      have c0 := (hb.cell (p := ⟨g, off + k * 3, none⟩) hg).trans (hc k hlt).1
      have c1 := (hb.cell (p := ⟨g, off + k * 3 + 1, none⟩) hg).trans (hc k hlt).2.1
      have c2 := (hb.cell (p := ⟨g, off + k * 3 + 2, none⟩) hg).trans (hc k hlt).2.2
      clear hc
      cases hp : p k
      · go_wp2_with (go_at_call 34; refine (HC.out _ k hlt).mono ?_; rintro e w1 ⟨rfl, hb1⟩)
        go_roundw
        case rel => exact ⟨hb.trans (hb1.mono hb.size), k + 1, by omega, by go_num, fun j hj => if e : j = k then e ▸ hp else HK.out j (by omega)⟩
        case measure => simp [intOf]; omega
      · go_wp2_with (go_at_call 34; refine (HC.out _ k hlt).mono ?_; rintro e w1 ⟨rfl, hb1⟩)
        go_ret
        exact ⟨_, rfl, .inr ⟨k, rfl, hlt, hp, HK.out⟩, hb.trans (hb1.mono hb.size)⟩
    · go_wp2
      go_ret
      exact ⟨_, rfl, .inl ⟨rfl, fun j hj => HK.out j (by omega)⟩, hb⟩
theorem containsFuncChange_any (a : Option Addr) (n c : Nat) (S K : Nat → Int) (U : Nat → Bool) (w : World) (hn : n ≤ 1000000000) (hS : I16 S) (hK : I8 K) (hh : ChgAt w a n S K U) :
    Calls Tryd.prog 33 #[.slice a n c, .func (.func 34) #[] #[]] w fun e w' => e = .returned (.bool (anyB (fun k => !chOK (S k) (K k)) n)) ∧ Below w.heap.size w w' := by
  have HH := Lib.hid hh; clear hh
  have HS := Lib.hid hS; have HK := Lib.hid hK; clear hS hK
  go_enter Tryd.func33, Tryd.ntmps33
  go_wp2_with (go_at_call 51; refine (indexFuncChange_any _ _ _ _ _ _ (fun k => !chOK (S k) (K k)) _ hn HH.out (fun W k hk => changesText1_any _ _ _ W (HS.out k) (HK.out k))).mono ?_; rintro e w1 ⟨r, rfl, hr, hb⟩)
  go_ret
  exact ⟨ret_bool hr.any, hb⟩
theorem l05Plain_any (a : Option Addr) (n c : Nat) (S K : Nat → Int) (U : Nat → Bool) (w : World) (hn : n ≤ 1048576) (hS : I16 S) (hK : I8 K) (hh : ChgAt w a n S K U) :
    Calls Tryd.prog 30 #[.slice a n c] w fun e w' => e = .returned (.bool (vCh n S K)) ∧ w = w' := by
  have HH := Lib.hid hh; clear hh
  have HS := Lib.hid hS; have HK := Lib.hid hK; clear hS hK
  go_enter Tryd.func30, Tryd.ntmps30
  go_wp2
  go_loopw [3] (fun i w' => w = w' ∧ ∃ k : Nat, k ≤ n ∧ i = .int .i64 k ∧ ∀ j, j < k → chOK (S j) (K j) = true) (fun i _ => n - (intOf i).toNat)
  case atStart => exact ⟨rfl, 0, by omega, rfl, fun j hj => by omega⟩
  case round =>
    obtain ⟨rfl, k, hk, rfl, hK⟩ := hrel
    have HL := Lib.hid hK; clear hK
    by_cases hlt : k < n
    · have hlt' : (k : Int) < n := by omega
      have hx := ChgAt.get HH.out (show 0 < n by omega)
      obtain ⟨g, off, rfl, hg, hc⟩ := hx
      have c0 := (hc k hlt).1
      have c1 := (hc k hlt).2.1
      have hs := HS.out k
      have hk2 := HK.out k
      have q0 := i64_id (x := S k) (by omega)
      have q1 := i64_id (x := K k) (by omega)
      clear hc
      cases hA : inB (S k) 0 95
      · have hno : chOK (S k) (K k) = false := by rw [chOK_def, hA]; rfl
        go_wp2_with (go_at_call 49; refine (l00In_any _ _ _ _).mono ?_; rintro e w' ⟨rfl, rfl⟩)
        go_ret
        exact ⟨ret_bool (vCh_false fun H => by have := H.2 k hlt; rw [hno] at this; exact absurd this (by simp)).symm, rfl⟩
      · cases hB : inB (K k) 0 23
        · have hno : chOK (S k) (K k) = false := by rw [chOK_def, hA, hB]; rfl
          go_wp2_with (go_at_call 49; refine (l00In_any _ _ _ _).mono ?_; rintro e w' ⟨rfl, rfl⟩)
          go_ret
          exact ⟨ret_bool (vCh_false fun H => by have := H.2 k hlt; rw [hno] at this; exact absurd this (by simp)).symm, rfl⟩
        · have hno : chOK (S k) (K k) = true := by rw [chOK_def, hA, hB]; rfl
          go_wp2_with (go_at_call 49; refine (l00In_any _ _ _ _).mono ?_; rintro e w' ⟨rfl, rfl⟩)
          go_roundw
          case rel => exact ⟨trivial, k + 1, by omega, by go_num, fun j hj => if e : j = k then e ▸ hno else HL.out j (by omega)⟩
          case measure => simp [intOf]; omega
    · have hkn : k = n := by omega
      subst hkn
      by_cases h24 : k ≤ 2400
      · have h24' : (k : Int) ≤ 2400 := by omega
        go_wp2
        go_ret
        exact ⟨ret_bool (vCh_iff.2 ⟨h24, HL.out⟩).symm, rfl⟩
      · have h24' : ¬ (k : Int) ≤ 2400 := by omega
        go_wp2
        go_ret
        exact ⟨ret_bool (vCh_false fun H => h24 H.1).symm, rfl⟩
set_option maxRecDepth 100000 in
set_option maxHeartbeats 4000000 in
theorem l05Text_any (a : Option Addr) (n c : Nat) (S K : Nat → Int) (U : Nat → Bool) (w : World) (hv : vCh n S K = true) (hS : I16 S) (hK : I8 K) (hh : ChgAt w a n S K U) :
    Calls Tryd.prog 31 #[.slice a n c] w fun e w' => e = .returned (.string (ct (cw S K U) n)) ∧ Below w.heap.size w w' := by
  obtain ⟨hn, hall⟩ := vCh_facts hv
  have HALL := Lib.hid hall; clear hv
  have HSZ := Lib.hid (ct_sz (cw_sz (U := U) hall)); clear hall
  have HS := Lib.hid hS; have HK := Lib.hid hK; clear hS hK
  have KH := kp_chg hh; clear hh
  go_enter Tryd.func31, Tryd.ntmps31
  go_wp2
  go_loopw [3, 4] (fun v i w' => Below w.heap.size w w' ∧ ∃ k : Nat, k ≤ n ∧ i = .int .i64 k ∧ v = .string (ct (cw S K U) k)) (fun _ i _ => n - (intOf i).toNat)
  case atStart => exact ⟨Below.refl _ _, 0, by omega, rfl, by rw [ct_zero]⟩
  case round =>
    obtain ⟨hb, k, hk, rfl, rfl⟩ := hrel
    replace KH := KH.on hb
    have hszw := hb.size
    have HB := Lib.hid hb; clear hb
    by_cases hlt : k < n
    · have hlt' : (k : Int) < n := by omega
      have hx := ChgAt.get KH.here (show 0 < n by omega)
      obtain ⟨g, off, rfl, hg, hc⟩ := hx
      have KC0 := kpc (hc k hlt).1 hg
      have KC1 := kpc (hc k hlt).2.1 hg
      have KC2 := kpc (hc k hlt).2.2 hg
      have hf := HALL.out k hlt
      have hsucc := ct_succ (cw S K U) k
      rw [cw_def] at hsucc
      obtain ⟨f, hfe⟩ : ∃ f : Nat, S k = f := ⟨(S k).toNat, by omega⟩
      obtain ⟨x, hxe⟩ : ∃ x : Nat, K k = x := ⟨(K k).toNat, by omega⟩
      rw [hfe] at KC0 hf hsucc
      rw [hxe] at KC1 hf hsucc
      rw [Int.toNat_natCast, Int.toNat_natCast, ch_def] at hsucc
      have hd1 := dg_sz (i := f) (by omega)
      have hd2 := dg_sz (i := x) (by omega)
      have htz := HSZ.out k hk
      have q0 := i64_id (x := (f : Int)) (by omega)
      have q1 := i64_id (x := (x : Int)) (by omega)
      clear hc hfe hxe
      have c2 := KC2.here
      generalize hu : U k = u at c2 hsucc
      clear KC2 hu
      obtain ⟨acc, hacc⟩ : ∃ acc, acc = (if 0 < k then ct (cw S K U) k ++ ⟨#[32]⟩ else ct (cw S K U) k) := ⟨_, rfl⟩
      rw [← hacc, ← ct_spec] at hsucc
      obtain ⟨nx, hnx⟩ : ∃ nx, nx = ct (cw S K U) (k + 1) := ⟨_, rfl⟩
      rw [← hnx] at hsucc
      have HNX := Lib.hid hnx; clear hnx
      have hasz : acc.size ≤ (ct (cw S K U) k).size + 1 := by
        rw [hacc]; split
        · rw [ByteArray.size_append]; exact Nat.le_refl _
        · omega
      have hp1 : ¬ 9223372036854775807 < (ct (cw S K U) k).size + 1 := by omega
      have hp2 : ¬ 9223372036854775807 < acc.size + 1 := by omega
      have hz1 : ¬ 9223372036854775807 < (dg f).size + 1 := by omega
      have hz2 : ¬ 9223372036854775807 < (dg f).size + 1 + (dg x).size := by omega
      have hz2' : (dg f).size + 1 + (dg x).size ≤ 9223372036854775807 := by omega
      have hz4 : ¬ 9223372036854775807 < acc.size + 1 + ((dg f).size + 1 + (dg x).size) := by omega
      have hz4' : acc.size + 1 + ((dg f).size + 1 + (dg x).size) ≤ 9223372036854775807 := by omega
      by_cases h0 : 0 < k
      · rw [if_pos h0] at hacc
        have h0' : (k : Int) > 0 := by omega
        have h0'' : 0 < (k : Int) := by omega
        have HA := Lib.hid hacc.symm; clear hacc
        cases u
        · rw [sgn_no] at hsucc
          have HSU := Lib.hid hsucc; clear hsucc
          go_wp2
          rw [HA.out]
          have hS0 := below_drew wr
          refine wp_region_S (fun V => Below wr.heap.size wr V) (by kernel_rfl) hS0 ?_
          refine take_val 0 (.string (acc ++ ⟨#[45]⟩)) rfl (by kernel_rfl) (by kernel_rfl) (by kernel_rfl) (fun _ _ _ h => h) rfl (fun V hV => by simp [go_sem]) hS0 ?_
          simp only [List.getElem_toArray, List.getElem_cons_zero, List.getElem_cons_succ, Act.put, List.setIfInBounds_toArray, List.set_cons_zero, List.set_cons_succ]
          refine take_val 1 (.slice (some ⟨g, off, none⟩) n c) rfl (by kernel_rfl) (by kernel_rfl) (by kernel_rfl) (fun _ _ _ h => h) rfl (fun V hV => by simp [go_sem]) hS0 ?_
          simp only [List.getElem_toArray, List.getElem_cons_zero, List.getElem_cons_succ, Act.put, List.setIfInBounds_toArray, List.set_cons_zero, List.set_cons_succ]
          refine take_val 2 (.int .i64 (k : Nat)) rfl (by kernel_rfl) (by kernel_rfl) (by kernel_rfl) (fun _ _ _ h => h) rfl (fun V hV => by simp [go_sem]) hS0 ?_
          simp only [List.getElem_toArray, List.getElem_cons_zero, List.getElem_cons_succ, Act.put, List.setIfInBounds_toArray, List.set_cons_zero, List.set_cons_succ]
          refine take_val 3 (.pointer (some ⟨g, off + k * 3, none⟩)) rfl (by kernel_rfl) (by kernel_rfl) (by kernel_rfl) (fun _ _ _ h => h) rfl (fun V hV => by simp [go_sem, hlt']) hS0 ?_
          simp only [List.getElem_toArray, List.getElem_cons_zero, List.getElem_cons_succ, Act.put, List.setIfInBounds_toArray, List.set_cons_zero, List.set_cons_succ]
          refine take_val 4 (.pointer (some ⟨g, off + k * 3, none⟩)) rfl (by kernel_rfl) (by kernel_rfl) (by kernel_rfl) (fun _ _ _ h => h) rfl (fun V hV => by simp [go_sem]) hS0 ?_
          simp only [List.getElem_toArray, List.getElem_cons_zero, List.getElem_cons_succ, Act.put, List.setIfInBounds_toArray, List.set_cons_zero, List.set_cons_succ]
          refine take_val 5 (.int .i16 (f : Int)) rfl (by kernel_rfl) (by kernel_rfl) (by kernel_rfl) (fun _ _ _ h => h) rfl (fun V hV => by have c := KC0.at hV; simp [go_sem, c]) hS0 ?_
          simp only [List.getElem_toArray, List.getElem_cons_zero, List.getElem_cons_succ, Act.put, List.setIfInBounds_toArray, List.set_cons_zero, List.set_cons_succ]
          refine take_val 6 (.int .i64 (f : Int)) rfl (by kernel_rfl) (by kernel_rfl) (by kernel_rfl) (fun _ _ _ h => h) rfl (fun V hV => by simp [go_sem, q0]) hS0 ?_
          simp only [List.getElem_toArray, List.getElem_cons_zero, List.getElem_cons_succ, Act.put, List.setIfInBounds_toArray, List.set_cons_zero, List.set_cons_succ]
          refine take_val 9 (.slice (some ⟨g, off, none⟩) n c) rfl (by kernel_rfl) (by kernel_rfl) (by kernel_rfl) (fun _ _ _ h => h) rfl (fun V hV => by simp [go_sem]) hS0 ?_
          simp only [List.getElem_toArray, List.getElem_cons_zero, List.getElem_cons_succ, Act.put, List.setIfInBounds_toArray, List.set_cons_zero, List.set_cons_succ]
          refine take_val 10 (.int .i64 (k : Nat)) rfl (by kernel_rfl) (by kernel_rfl) (by kernel_rfl) (fun _ _ _ h => h) rfl (fun V hV => by simp [go_sem]) hS0 ?_
          simp only [List.getElem_toArray, List.getElem_cons_zero, List.getElem_cons_succ, Act.put, List.setIfInBounds_toArray, List.set_cons_zero, List.set_cons_succ]
          refine take_val 11 (.pointer (some ⟨g, off + k * 3, none⟩)) rfl (by kernel_rfl) (by kernel_rfl) (by kernel_rfl) (fun _ _ _ h => h) rfl (fun V hV => by simp [go_sem, hlt']) hS0 ?_
          simp only [List.getElem_toArray, List.getElem_cons_zero, List.getElem_cons_succ, Act.put, List.setIfInBounds_toArray, List.set_cons_zero, List.set_cons_succ]
          refine take_val 12 (.pointer (some ⟨g, off + k * 3 + 1, none⟩)) rfl (by kernel_rfl) (by kernel_rfl) (by kernel_rfl) (fun _ _ _ h => h) rfl (fun V hV => by simp [go_sem]) hS0 ?_
          simp only [List.getElem_toArray, List.getElem_cons_zero, List.getElem_cons_succ, Act.put, List.setIfInBounds_toArray, List.set_cons_zero, List.set_cons_succ]
          refine take_val 13 (.int .i8 (x : Int)) rfl (by kernel_rfl) (by kernel_rfl) (by kernel_rfl) (fun _ _ _ h => h) rfl (fun V hV => by have c := KC1.at hV; simp [go_sem, c]) hS0 ?_
          simp only [List.getElem_toArray, List.getElem_cons_zero, List.getElem_cons_succ, Act.put, List.setIfInBounds_toArray, List.set_cons_zero, List.set_cons_succ]
          refine take_val 14 (.int .i64 (x : Int)) rfl (by kernel_rfl) (by kernel_rfl) (by kernel_rfl) (fun _ _ _ h => h) rfl (fun V hV => by simp [go_sem, q1]) hS0 ?_
          simp only [List.getElem_toArray, List.getElem_cons_zero, List.getElem_cons_succ, Act.put, List.setIfInBounds_toArray, List.set_cons_zero, List.set_cons_succ]
          refine step_call 7 25 #[.int .i64 f] (by kernel_rfl) rfl rfl (by simp [go_sem]) ?_
          refine (specDec_any f (by omega) _).mono ?_
          rintro e w3 ⟨rfl, hb3⟩
          refine ⟨_, rfl, hS0.trans (hb3.mono hS0.size), ?_⟩
          simp only [List.getElem_toArray, List.getElem_cons_zero, List.getElem_cons_succ, Act.put, List.setIfInBounds_toArray, List.set_cons_zero, List.set_cons_succ]
          have hS3 := hS0.trans (hb3.mono hS0.size)
          refine take_val 8 (.string (dg f ++ ⟨#[47]⟩)) rfl (by kernel_rfl) (by kernel_rfl) (by kernel_rfl) (fun _ _ _ h => h) rfl (fun V hV => by simp [go_sem, hz1]) hS3 ?_
          simp only [List.getElem_toArray, List.getElem_cons_zero, List.getElem_cons_succ, Act.put, List.setIfInBounds_toArray, List.set_cons_zero, List.set_cons_succ]
          refine step_call 15 25 #[.int .i64 x] (by kernel_rfl) rfl rfl (by simp [go_sem]) ?_
          refine (specDec_any x (by omega) _).mono ?_
          rintro e w4 ⟨rfl, hb4⟩
          refine ⟨_, rfl, hS3.trans (hb4.mono hS3.size), ?_⟩
          simp only [List.getElem_toArray, List.getElem_cons_zero, List.getElem_cons_succ, Act.put, List.setIfInBounds_toArray, List.set_cons_zero, List.set_cons_succ]
          have hS4 := hS3.trans (hb4.mono hS3.size)
          refine take_val 16 (.string (dg f ++ ⟨#[47]⟩ ++ dg x)) rfl (by kernel_rfl) (by kernel_rfl) (by kernel_rfl) (fun _ _ _ h => h) rfl (fun V hV => by simp [go_sem, hz2, hz2']) hS4 ?_
          simp only [List.getElem_toArray, List.getElem_cons_zero, List.getElem_cons_succ, Act.put, List.setIfInBounds_toArray, List.set_cons_zero, List.set_cons_succ]
          refine take_val 17 (.string nx) rfl (by kernel_rfl) (by kernel_rfl) (by kernel_rfl) (fun _ _ _ h => h) rfl (fun V hV => by simp [go_sem, hz4, hz4', HSU.out]) hS4 ?_
          simp only [List.getElem_toArray, List.getElem_cons_zero, List.getElem_cons_succ, Act.put, List.setIfInBounds_toArray, List.set_cons_zero, List.set_cons_succ]
          refine take_val 18 (.string nx) rfl (by kernel_rfl) (by kernel_rfl) (by kernel_rfl) (fun _ _ _ h => h) rfl (fun V hV => by simp [go_sem]) hS4 ?_
          simp only [List.getElem_toArray, List.getElem_cons_zero, List.getElem_cons_succ, Act.put, List.setIfInBounds_toArray, List.set_cons_zero, List.set_cons_succ]
          refine wpAnyH_done (by kernel_rfl) ?_ _
          have hbf := HB.out.trans (hS4.mono hszw)
          clear hS0 hS3 hS4 hb3 hb4
          go_wp2
          go_roundw
          case rel => exact ⟨hbf, k + 1, by omega, by go_num, by rw [HNX.out]⟩
          case measure => simp [intOf]; omega
        · rw [sgn_yes] at hsucc
          have HSU := Lib.hid hsucc; clear hsucc
          go_wp2
          rw [HA.out]
          have hS0 := below_drew wr
          refine wp_region_S (fun V => Below wr.heap.size wr V) (by kernel_rfl) hS0 ?_
          refine take_val 0 (.string (acc ++ ⟨#[43]⟩)) rfl (by kernel_rfl) (by kernel_rfl) (by kernel_rfl) (fun _ _ _ h => h) rfl (fun V hV => by simp [go_sem]) hS0 ?_
          simp only [List.getElem_toArray, List.getElem_cons_zero, List.getElem_cons_succ, Act.put, List.setIfInBounds_toArray, List.set_cons_zero, List.set_cons_succ]
          refine take_val 1 (.slice (some ⟨g, off, none⟩) n c) rfl (by kernel_rfl) (by kernel_rfl) (by kernel_rfl) (fun _ _ _ h => h) rfl (fun V hV => by simp [go_sem]) hS0 ?_
          simp only [List.getElem_toArray, List.getElem_cons_zero, List.getElem_cons_succ, Act.put, List.setIfInBounds_toArray, List.set_cons_zero, List.set_cons_succ]
          refine take_val 2 (.int .i64 (k : Nat)) rfl (by kernel_rfl) (by kernel_rfl) (by kernel_rfl) (fun _ _ _ h => h) rfl (fun V hV => by simp [go_sem]) hS0 ?_
          simp only [List.getElem_toArray, List.getElem_cons_zero, List.getElem_cons_succ, Act.put, List.setIfInBounds_toArray, List.set_cons_zero, List.set_cons_succ]
          refine take_val 3 (.pointer (some ⟨g, off + k * 3, none⟩)) rfl (by kernel_rfl) (by kernel_rfl) (by kernel_rfl) (fun _ _ _ h => h) rfl (fun V hV => by simp [go_sem, hlt']) hS0 ?_
          simp only [List.getElem_toArray, List.getElem_cons_zero, List.getElem_cons_succ, Act.put, List.setIfInBounds_toArray, List.set_cons_zero, List.set_cons_succ]
          refine take_val 4 (.pointer (some ⟨g, off + k * 3, none⟩)) rfl (by kernel_rfl) (by kernel_rfl) (by kernel_rfl) (fun _ _ _ h => h) rfl (fun V hV => by simp [go_sem]) hS0 ?_
          simp only [List.getElem_toArray, List.getElem_cons_zero, List.getElem_cons_succ, Act.put, List.setIfInBounds_toArray, List.set_cons_zero, List.set_cons_succ]
          refine take_val 5 (.int .i16 (f : Int)) rfl (by kernel_rfl) (by kernel_rfl) (by kernel_rfl) (fun _ _ _ h => h) rfl (fun V hV => by have c := KC0.at hV; simp [go_sem, c]) hS0 ?_
          simp only [List.getElem_toArray, List.getElem_cons_zero, List.getElem_cons_succ, Act.put, List.setIfInBounds_toArray, List.set_cons_zero, List.set_cons_succ]
          refine take_val 6 (.int .i64 (f : Int)) rfl (by kernel_rfl) (by kernel_rfl) (by kernel_rfl) (fun _ _ _ h => h) rfl (fun V hV => by simp [go_sem, q0]) hS0 ?_
          simp only [List.getElem_toArray, List.getElem_cons_zero, List.getElem_cons_succ, Act.put, List.setIfInBounds_toArray, List.set_cons_zero, List.set_cons_succ]
          refine take_val 9 (.slice (some ⟨g, off, none⟩) n c) rfl (by kernel_rfl) (by kernel_rfl) (by kernel_rfl) (fun _ _ _ h => h) rfl (fun V hV => by simp [go_sem]) hS0 ?_
          simp only [List.getElem_toArray, List.getElem_cons_zero, List.getElem_cons_succ, Act.put, List.setIfInBounds_toArray, List.set_cons_zero, List.set_cons_succ]
          refine take_val 10 (.int .i64 (k : Nat)) rfl (by kernel_rfl) (by kernel_rfl) (by kernel_rfl) (fun _ _ _ h => h) rfl (fun V hV => by simp [go_sem]) hS0 ?_
          simp only [List.getElem_toArray, List.getElem_cons_zero, List.getElem_cons_succ, Act.put, List.setIfInBounds_toArray, List.set_cons_zero, List.set_cons_succ]
          refine take_val 11 (.pointer (some ⟨g, off + k * 3, none⟩)) rfl (by kernel_rfl) (by kernel_rfl) (by kernel_rfl) (fun _ _ _ h => h) rfl (fun V hV => by simp [go_sem, hlt']) hS0 ?_
          simp only [List.getElem_toArray, List.getElem_cons_zero, List.getElem_cons_succ, Act.put, List.setIfInBounds_toArray, List.set_cons_zero, List.set_cons_succ]
          refine take_val 12 (.pointer (some ⟨g, off + k * 3 + 1, none⟩)) rfl (by kernel_rfl) (by kernel_rfl) (by kernel_rfl) (fun _ _ _ h => h) rfl (fun V hV => by simp [go_sem]) hS0 ?_
          simp only [List.getElem_toArray, List.getElem_cons_zero, List.getElem_cons_succ, Act.put, List.setIfInBounds_toArray, List.set_cons_zero, List.set_cons_succ]
          refine take_val 13 (.int .i8 (x : Int)) rfl (by kernel_rfl) (by kernel_rfl) (by kernel_rfl) (fun _ _ _ h => h) rfl (fun V hV => by have c := KC1.at hV; simp [go_sem, c]) hS0 ?_
          simp only [List.getElem_toArray, List.getElem_cons_zero, List.getElem_cons_succ, Act.put, List.setIfInBounds_toArray, List.set_cons_zero, List.set_cons_succ]
          refine take_val 14 (.int .i64 (x : Int)) rfl (by kernel_rfl) (by kernel_rfl) (by kernel_rfl) (fun _ _ _ h => h) rfl (fun V hV => by simp [go_sem, q1]) hS0 ?_
          simp only [List.getElem_toArray, List.getElem_cons_zero, List.getElem_cons_succ, Act.put, List.setIfInBounds_toArray, List.set_cons_zero, List.set_cons_succ]
          refine step_call 7 25 #[.int .i64 f] (by kernel_rfl) rfl rfl (by simp [go_sem]) ?_
          refine (specDec_any f (by omega) _).mono ?_
          rintro e w3 ⟨rfl, hb3⟩
          refine ⟨_, rfl, hS0.trans (hb3.mono hS0.size), ?_⟩
          simp only [List.getElem_toArray, List.getElem_cons_zero, List.getElem_cons_succ, Act.put, List.setIfInBounds_toArray, List.set_cons_zero, List.set_cons_succ]
          have hS3 := hS0.trans (hb3.mono hS0.size)
          refine take_val 8 (.string (dg f ++ ⟨#[47]⟩)) rfl (by kernel_rfl) (by kernel_rfl) (by kernel_rfl) (fun _ _ _ h => h) rfl (fun V hV => by simp [go_sem, hz1]) hS3 ?_
          simp only [List.getElem_toArray, List.getElem_cons_zero, List.getElem_cons_succ, Act.put, List.setIfInBounds_toArray, List.set_cons_zero, List.set_cons_succ]
          refine step_call 15 25 #[.int .i64 x] (by kernel_rfl) rfl rfl (by simp [go_sem]) ?_
          refine (specDec_any x (by omega) _).mono ?_
          rintro e w4 ⟨rfl, hb4⟩
          refine ⟨_, rfl, hS3.trans (hb4.mono hS3.size), ?_⟩
          simp only [List.getElem_toArray, List.getElem_cons_zero, List.getElem_cons_succ, Act.put, List.setIfInBounds_toArray, List.set_cons_zero, List.set_cons_succ]
          have hS4 := hS3.trans (hb4.mono hS3.size)
          refine take_val 16 (.string (dg f ++ ⟨#[47]⟩ ++ dg x)) rfl (by kernel_rfl) (by kernel_rfl) (by kernel_rfl) (fun _ _ _ h => h) rfl (fun V hV => by simp [go_sem, hz2, hz2']) hS4 ?_
          simp only [List.getElem_toArray, List.getElem_cons_zero, List.getElem_cons_succ, Act.put, List.setIfInBounds_toArray, List.set_cons_zero, List.set_cons_succ]
          refine take_val 17 (.string nx) rfl (by kernel_rfl) (by kernel_rfl) (by kernel_rfl) (fun _ _ _ h => h) rfl (fun V hV => by simp [go_sem, hz4, hz4', HSU.out]) hS4 ?_
          simp only [List.getElem_toArray, List.getElem_cons_zero, List.getElem_cons_succ, Act.put, List.setIfInBounds_toArray, List.set_cons_zero, List.set_cons_succ]
          refine take_val 18 (.string nx) rfl (by kernel_rfl) (by kernel_rfl) (by kernel_rfl) (fun _ _ _ h => h) rfl (fun V hV => by simp [go_sem]) hS4 ?_
          simp only [List.getElem_toArray, List.getElem_cons_zero, List.getElem_cons_succ, Act.put, List.setIfInBounds_toArray, List.set_cons_zero, List.set_cons_succ]
          refine wpAnyH_done (by kernel_rfl) ?_ _
          have hbf := HB.out.trans (hS4.mono hszw)
          clear hS0 hS3 hS4 hb3 hb4
          go_wp2
          go_roundw
          case rel => exact ⟨hbf, k + 1, by omega, by go_num, by rw [HNX.out]⟩
          case measure => simp [intOf]; omega
      · have hk0 : k = 0 := by omega
        subst hk0
        rw [if_neg h0] at hacc
        subst hacc
        cases u
        · rw [sgn_no] at hsucc
          have HSU := Lib.hid hsucc; clear hsucc
          go_wp2
          skip
          have hS0 := below_drew wr
          refine wp_region_S (fun V => Below wr.heap.size wr V) (by kernel_rfl) hS0 ?_
          refine take_val 0 (.string (ct (cw S K U) 0 ++ ⟨#[45]⟩)) rfl (by kernel_rfl) (by kernel_rfl) (by kernel_rfl) (fun _ _ _ h => h) rfl (fun V hV => by simp [go_sem]) hS0 ?_
          simp only [List.getElem_toArray, List.getElem_cons_zero, List.getElem_cons_succ, Act.put, List.setIfInBounds_toArray, List.set_cons_zero, List.set_cons_succ]
          refine take_val 1 (.slice (some ⟨g, off, none⟩) n c) rfl (by kernel_rfl) (by kernel_rfl) (by kernel_rfl) (fun _ _ _ h => h) rfl (fun V hV => by simp [go_sem]) hS0 ?_
          simp only [List.getElem_toArray, List.getElem_cons_zero, List.getElem_cons_succ, Act.put, List.setIfInBounds_toArray, List.set_cons_zero, List.set_cons_succ]
          refine take_val 2 (.int .i64 (0 : Nat)) rfl (by kernel_rfl) (by kernel_rfl) (by kernel_rfl) (fun _ _ _ h => h) rfl (fun V hV => by simp [go_sem]) hS0 ?_
          simp only [List.getElem_toArray, List.getElem_cons_zero, List.getElem_cons_succ, Act.put, List.setIfInBounds_toArray, List.set_cons_zero, List.set_cons_succ]
          refine take_val 3 (.pointer (some ⟨g, off + 0 * 3, none⟩)) rfl (by kernel_rfl) (by kernel_rfl) (by kernel_rfl) (fun _ _ _ h => h) rfl (fun V hV => by have hn0 : ¬ n = 0 := (by omega); simp [go_sem, hn0]) hS0 ?_
          simp only [List.getElem_toArray, List.getElem_cons_zero, List.getElem_cons_succ, Act.put, List.setIfInBounds_toArray, List.set_cons_zero, List.set_cons_succ]
          refine take_val 4 (.pointer (some ⟨g, off + 0 * 3, none⟩)) rfl (by kernel_rfl) (by kernel_rfl) (by kernel_rfl) (fun _ _ _ h => h) rfl (fun V hV => by simp [go_sem]) hS0 ?_
          simp only [List.getElem_toArray, List.getElem_cons_zero, List.getElem_cons_succ, Act.put, List.setIfInBounds_toArray, List.set_cons_zero, List.set_cons_succ]
          refine take_val 5 (.int .i16 (f : Int)) rfl (by kernel_rfl) (by kernel_rfl) (by kernel_rfl) (fun _ _ _ h => h) rfl (fun V hV => by have c := KC0.at hV; simp at c; simp [go_sem, c]) hS0 ?_
          simp only [List.getElem_toArray, List.getElem_cons_zero, List.getElem_cons_succ, Act.put, List.setIfInBounds_toArray, List.set_cons_zero, List.set_cons_succ]
          refine take_val 6 (.int .i64 (f : Int)) rfl (by kernel_rfl) (by kernel_rfl) (by kernel_rfl) (fun _ _ _ h => h) rfl (fun V hV => by simp [go_sem, q0]) hS0 ?_
          simp only [List.getElem_toArray, List.getElem_cons_zero, List.getElem_cons_succ, Act.put, List.setIfInBounds_toArray, List.set_cons_zero, List.set_cons_succ]
          refine take_val 9 (.slice (some ⟨g, off, none⟩) n c) rfl (by kernel_rfl) (by kernel_rfl) (by kernel_rfl) (fun _ _ _ h => h) rfl (fun V hV => by simp [go_sem]) hS0 ?_
          simp only [List.getElem_toArray, List.getElem_cons_zero, List.getElem_cons_succ, Act.put, List.setIfInBounds_toArray, List.set_cons_zero, List.set_cons_succ]
          refine take_val 10 (.int .i64 (0 : Nat)) rfl (by kernel_rfl) (by kernel_rfl) (by kernel_rfl) (fun _ _ _ h => h) rfl (fun V hV => by simp [go_sem]) hS0 ?_
          simp only [List.getElem_toArray, List.getElem_cons_zero, List.getElem_cons_succ, Act.put, List.setIfInBounds_toArray, List.set_cons_zero, List.set_cons_succ]
          refine take_val 11 (.pointer (some ⟨g, off + 0 * 3, none⟩)) rfl (by kernel_rfl) (by kernel_rfl) (by kernel_rfl) (fun _ _ _ h => h) rfl (fun V hV => by have hn0 : ¬ n = 0 := (by omega); simp [go_sem, hn0]) hS0 ?_
          simp only [List.getElem_toArray, List.getElem_cons_zero, List.getElem_cons_succ, Act.put, List.setIfInBounds_toArray, List.set_cons_zero, List.set_cons_succ]
          refine take_val 12 (.pointer (some ⟨g, off + 0 * 3 + 1, none⟩)) rfl (by kernel_rfl) (by kernel_rfl) (by kernel_rfl) (fun _ _ _ h => h) rfl (fun V hV => by simp [go_sem]) hS0 ?_
          simp only [List.getElem_toArray, List.getElem_cons_zero, List.getElem_cons_succ, Act.put, List.setIfInBounds_toArray, List.set_cons_zero, List.set_cons_succ]
          refine take_val 13 (.int .i8 (x : Int)) rfl (by kernel_rfl) (by kernel_rfl) (by kernel_rfl) (fun _ _ _ h => h) rfl (fun V hV => by have c := KC1.at hV; simp [go_sem, c]) hS0 ?_
          simp only [List.getElem_toArray, List.getElem_cons_zero, List.getElem_cons_succ, Act.put, List.setIfInBounds_toArray, List.set_cons_zero, List.set_cons_succ]
          refine take_val 14 (.int .i64 (x : Int)) rfl (by kernel_rfl) (by kernel_rfl) (by kernel_rfl) (fun _ _ _ h => h) rfl (fun V hV => by simp [go_sem, q1]) hS0 ?_
          simp only [List.getElem_toArray, List.getElem_cons_zero, List.getElem_cons_succ, Act.put, List.setIfInBounds_toArray, List.set_cons_zero, List.set_cons_succ]
          refine step_call 7 25 #[.int .i64 f] (by kernel_rfl) rfl rfl (by simp [go_sem]) ?_
          refine (specDec_any f (by omega) _).mono ?_
          rintro e w3 ⟨rfl, hb3⟩
          refine ⟨_, rfl, hS0.trans (hb3.mono hS0.size), ?_⟩
          simp only [List.getElem_toArray, List.getElem_cons_zero, List.getElem_cons_succ, Act.put, List.setIfInBounds_toArray, List.set_cons_zero, List.set_cons_succ]
          have hS3 := hS0.trans (hb3.mono hS0.size)
          refine take_val 8 (.string (dg f ++ ⟨#[47]⟩)) rfl (by kernel_rfl) (by kernel_rfl) (by kernel_rfl) (fun _ _ _ h => h) rfl (fun V hV => by simp [go_sem, hz1]) hS3 ?_
          simp only [List.getElem_toArray, List.getElem_cons_zero, List.getElem_cons_succ, Act.put, List.setIfInBounds_toArray, List.set_cons_zero, List.set_cons_succ]
          refine step_call 15 25 #[.int .i64 x] (by kernel_rfl) rfl rfl (by simp [go_sem]) ?_
          refine (specDec_any x (by omega) _).mono ?_
          rintro e w4 ⟨rfl, hb4⟩
          refine ⟨_, rfl, hS3.trans (hb4.mono hS3.size), ?_⟩
          simp only [List.getElem_toArray, List.getElem_cons_zero, List.getElem_cons_succ, Act.put, List.setIfInBounds_toArray, List.set_cons_zero, List.set_cons_succ]
          have hS4 := hS3.trans (hb4.mono hS3.size)
          refine take_val 16 (.string (dg f ++ ⟨#[47]⟩ ++ dg x)) rfl (by kernel_rfl) (by kernel_rfl) (by kernel_rfl) (fun _ _ _ h => h) rfl (fun V hV => by simp [go_sem, hz2, hz2']) hS4 ?_
          simp only [List.getElem_toArray, List.getElem_cons_zero, List.getElem_cons_succ, Act.put, List.setIfInBounds_toArray, List.set_cons_zero, List.set_cons_succ]
          refine take_val 17 (.string nx) rfl (by kernel_rfl) (by kernel_rfl) (by kernel_rfl) (fun _ _ _ h => h) rfl (fun V hV => by simp [go_sem, hz4, hz4', HSU.out]) hS4 ?_
          simp only [List.getElem_toArray, List.getElem_cons_zero, List.getElem_cons_succ, Act.put, List.setIfInBounds_toArray, List.set_cons_zero, List.set_cons_succ]
          refine take_val 18 (.string nx) rfl (by kernel_rfl) (by kernel_rfl) (by kernel_rfl) (fun _ _ _ h => h) rfl (fun V hV => by simp [go_sem]) hS4 ?_
          simp only [List.getElem_toArray, List.getElem_cons_zero, List.getElem_cons_succ, Act.put, List.setIfInBounds_toArray, List.set_cons_zero, List.set_cons_succ]
          refine wpAnyH_done (by kernel_rfl) ?_ _
          have hbf := HB.out.trans (hS4.mono hszw)
          clear hS0 hS3 hS4 hb3 hb4
          go_wp2
          go_roundw
          case rel => exact ⟨hbf, 0 + 1, by omega, by go_num, by rw [HNX.out]⟩
          case measure => simp [intOf]; omega
        · rw [sgn_yes] at hsucc
          have HSU := Lib.hid hsucc; clear hsucc
          go_wp2
          skip
          have hS0 := below_drew wr
          refine wp_region_S (fun V => Below wr.heap.size wr V) (by kernel_rfl) hS0 ?_
          refine take_val 0 (.string (ct (cw S K U) 0 ++ ⟨#[43]⟩)) rfl (by kernel_rfl) (by kernel_rfl) (by kernel_rfl) (fun _ _ _ h => h) rfl (fun V hV => by simp [go_sem]) hS0 ?_
          simp only [List.getElem_toArray, List.getElem_cons_zero, List.getElem_cons_succ, Act.put, List.setIfInBounds_toArray, List.set_cons_zero, List.set_cons_succ]
          refine take_val 1 (.slice (some ⟨g, off, none⟩) n c) rfl (by kernel_rfl) (by kernel_rfl) (by kernel_rfl) (fun _ _ _ h => h) rfl (fun V hV => by simp [go_sem]) hS0 ?_
          simp only [List.getElem_toArray, List.getElem_cons_zero, List.getElem_cons_succ, Act.put, List.setIfInBounds_toArray, List.set_cons_zero, List.set_cons_succ]
          refine take_val 2 (.int .i64 (0 : Nat)) rfl (by kernel_rfl) (by kernel_rfl) (by kernel_rfl) (fun _ _ _ h => h) rfl (fun V hV => by simp [go_sem]) hS0 ?_
          simp only [List.getElem_toArray, List.getElem_cons_zero, List.getElem_cons_succ, Act.put, List.setIfInBounds_toArray, List.set_cons_zero, List.set_cons_succ]
          refine take_val 3 (.pointer (some ⟨g, off + 0 * 3, none⟩)) rfl (by kernel_rfl) (by kernel_rfl) (by kernel_rfl) (fun _ _ _ h => h) rfl (fun V hV => by have hn0 : ¬ n = 0 := (by omega); simp [go_sem, hn0]) hS0 ?_
          simp only [List.getElem_toArray, List.getElem_cons_zero, List.getElem_cons_succ, Act.put, List.setIfInBounds_toArray, List.set_cons_zero, List.set_cons_succ]
          refine take_val 4 (.pointer (some ⟨g, off + 0 * 3, none⟩)) rfl (by kernel_rfl) (by kernel_rfl) (by kernel_rfl) (fun _ _ _ h => h) rfl (fun V hV => by simp [go_sem]) hS0 ?_
          simp only [List.getElem_toArray, List.getElem_cons_zero, List.getElem_cons_succ, Act.put, List.setIfInBounds_toArray, List.set_cons_zero, List.set_cons_succ]
          refine take_val 5 (.int .i16 (f : Int)) rfl (by kernel_rfl) (by kernel_rfl) (by kernel_rfl) (fun _ _ _ h => h) rfl (fun V hV => by have c := KC0.at hV; simp at c; simp [go_sem, c]) hS0 ?_
          simp only [List.getElem_toArray, List.getElem_cons_zero, List.getElem_cons_succ, Act.put, List.setIfInBounds_toArray, List.set_cons_zero, List.set_cons_succ]
          refine take_val 6 (.int .i64 (f : Int)) rfl (by kernel_rfl) (by kernel_rfl) (by kernel_rfl) (fun _ _ _ h => h) rfl (fun V hV => by simp [go_sem, q0]) hS0 ?_
          simp only [List.getElem_toArray, List.getElem_cons_zero, List.getElem_cons_succ, Act.put, List.setIfInBounds_toArray, List.set_cons_zero, List.set_cons_succ]
          refine take_val 9 (.slice (some ⟨g, off, none⟩) n c) rfl (by kernel_rfl) (by kernel_rfl) (by kernel_rfl) (fun _ _ _ h => h) rfl (fun V hV => by simp [go_sem]) hS0 ?_
          simp only [List.getElem_toArray, List.getElem_cons_zero, List.getElem_cons_succ, Act.put, List.setIfInBounds_toArray, List.set_cons_zero, List.set_cons_succ]
          refine take_val 10 (.int .i64 (0 : Nat)) rfl (by kernel_rfl) (by kernel_rfl) (by kernel_rfl) (fun _ _ _ h => h) rfl (fun V hV => by simp [go_sem]) hS0 ?_
          simp only [List.getElem_toArray, List.getElem_cons_zero, List.getElem_cons_succ, Act.put, List.setIfInBounds_toArray, List.set_cons_zero, List.set_cons_succ]
          refine take_val 11 (.pointer (some ⟨g, off + 0 * 3, none⟩)) rfl (by kernel_rfl) (by kernel_rfl) (by kernel_rfl) (fun _ _ _ h => h) rfl (fun V hV => by have hn0 : ¬ n = 0 := (by omega); simp [go_sem, hn0]) hS0 ?_
          simp only [List.getElem_toArray, List.getElem_cons_zero, List.getElem_cons_succ, Act.put, List.setIfInBounds_toArray, List.set_cons_zero, List.set_cons_succ]
          refine take_val 12 (.pointer (some ⟨g, off + 0 * 3 + 1, none⟩)) rfl (by kernel_rfl) (by kernel_rfl) (by kernel_rfl) (fun _ _ _ h => h) rfl (fun V hV => by simp [go_sem]) hS0 ?_
          simp only [List.getElem_toArray, List.getElem_cons_zero, List.getElem_cons_succ, Act.put, List.setIfInBounds_toArray, List.set_cons_zero, List.set_cons_succ]
          refine take_val 13 (.int .i8 (x : Int)) rfl (by kernel_rfl) (by kernel_rfl) (by kernel_rfl) (fun _ _ _ h => h) rfl (fun V hV => by have c := KC1.at hV; simp [go_sem, c]) hS0 ?_
          simp only [List.getElem_toArray, List.getElem_cons_zero, List.getElem_cons_succ, Act.put, List.setIfInBounds_toArray, List.set_cons_zero, List.set_cons_succ]
          refine take_val 14 (.int .i64 (x : Int)) rfl (by kernel_rfl) (by kernel_rfl) (by kernel_rfl) (fun _ _ _ h => h) rfl (fun V hV => by simp [go_sem, q1]) hS0 ?_
          simp only [List.getElem_toArray, List.getElem_cons_zero, List.getElem_cons_succ, Act.put, List.setIfInBounds_toArray, List.set_cons_zero, List.set_cons_succ]
          refine step_call 7 25 #[.int .i64 f] (by kernel_rfl) rfl rfl (by simp [go_sem]) ?_
          refine (specDec_any f (by omega) _).mono ?_
          rintro e w3 ⟨rfl, hb3⟩
          refine ⟨_, rfl, hS0.trans (hb3.mono hS0.size), ?_⟩
          simp only [List.getElem_toArray, List.getElem_cons_zero, List.getElem_cons_succ, Act.put, List.setIfInBounds_toArray, List.set_cons_zero, List.set_cons_succ]
          have hS3 := hS0.trans (hb3.mono hS0.size)
          refine take_val 8 (.string (dg f ++ ⟨#[47]⟩)) rfl (by kernel_rfl) (by kernel_rfl) (by kernel_rfl) (fun _ _ _ h => h) rfl (fun V hV => by simp [go_sem, hz1]) hS3 ?_
          simp only [List.getElem_toArray, List.getElem_cons_zero, List.getElem_cons_succ, Act.put, List.setIfInBounds_toArray, List.set_cons_zero, List.set_cons_succ]
          refine step_call 15 25 #[.int .i64 x] (by kernel_rfl) rfl rfl (by simp [go_sem]) ?_
          refine (specDec_any x (by omega) _).mono ?_
          rintro e w4 ⟨rfl, hb4⟩
          refine ⟨_, rfl, hS3.trans (hb4.mono hS3.size), ?_⟩
          simp only [List.getElem_toArray, List.getElem_cons_zero, List.getElem_cons_succ, Act.put, List.setIfInBounds_toArray, List.set_cons_zero, List.set_cons_succ]
          have hS4 := hS3.trans (hb4.mono hS3.size)
          refine take_val 16 (.string (dg f ++ ⟨#[47]⟩ ++ dg x)) rfl (by kernel_rfl) (by kernel_rfl) (by kernel_rfl) (fun _ _ _ h => h) rfl (fun V hV => by simp [go_sem, hz2, hz2']) hS4 ?_
          simp only [List.getElem_toArray, List.getElem_cons_zero, List.getElem_cons_succ, Act.put, List.setIfInBounds_toArray, List.set_cons_zero, List.set_cons_succ]
          refine take_val 17 (.string nx) rfl (by kernel_rfl) (by kernel_rfl) (by kernel_rfl) (fun _ _ _ h => h) rfl (fun V hV => by simp [go_sem, hz4, hz4', HSU.out]) hS4 ?_
          simp only [List.getElem_toArray, List.getElem_cons_zero, List.getElem_cons_succ, Act.put, List.setIfInBounds_toArray, List.set_cons_zero, List.set_cons_succ]
          refine take_val 18 (.string nx) rfl (by kernel_rfl) (by kernel_rfl) (by kernel_rfl) (fun _ _ _ h => h) rfl (fun V hV => by simp [go_sem]) hS4 ?_
          simp only [List.getElem_toArray, List.getElem_cons_zero, List.getElem_cons_succ, Act.put, List.setIfInBounds_toArray, List.set_cons_zero, List.set_cons_succ]
          refine wpAnyH_done (by kernel_rfl) ?_ _
          have hbf := HB.out.trans (hS4.mono hszw)
          clear hS0 hS3 hS4 hb3 hb4
          go_wp2
          go_roundw
          case rel => exact ⟨hbf, 0 + 1, by omega, by go_num, by rw [HNX.out]⟩
          case measure => simp [intOf]; omega
    · have hkm : n = k := by omega
      subst hkm
      go_wp2
      go_ret
      exact ⟨rfl, HB.out⟩
theorem specChangesText_any (a : Option Addr) (n c : Nat) (S K : Nat → Int) (U : Nat → Bool) (w : World) (hn : n ≤ 1048576) (hS : I16 S) (hK : I8 K) (hh : ChgAt w a n S K U) :
    Calls Tryd.prog 12 #[.slice a n c] w fun e w' => e = .returned (.string (ctx n S K U)) ∧ Below w.heap.size w w' := by
  have HH := Lib.hid hh; clear hh
  have HS := Lib.hid hS; have HK := Lib.hid hK; clear hS hK
  go_enter Tryd.func12, Tryd.ntmps12
  go_wp2_with fail
  refine (l05Plain_any a n c S K U w hn HS.out HK.out HH.out).mono ?_
  rintro e w1 ⟨rfl, rfl⟩
  cases hv : vCh n S K
  · have hnv := Lib.hid (ctx_no (U := U) hv)
    clear hv
    go_wp2
    go_ret
    exact ⟨by rw [hnv.out]; rfl, Below.refl _ _⟩
  · have hnv := Lib.hid (ctx_yes (U := U) hv)
    have HC := Lib.hid (l05Text_any a n c S K U w hv HS.out HK.out HH.out)
    rw [← hnv.out] at HC
    clear hv
    go_wp2_with fail
    refine HC.out.mono ?_
    rintro e w2 ⟨rfl, hb2⟩
    go_wp2
    go_ret
    exact ⟨rfl, hb2⟩
set_option maxRecDepth 100000 in
set_option maxHeartbeats 4000000 in
theorem implChangesText_any (a : Option Addr) (n c : Nat) (S K : Nat → Int) (U : Nat → Bool) (w : World) (hn : n ≤ 1048576) (hS : I16 S) (hK : I8 K) (hh : ChgAt w a n S K U) :
    Calls Tryd.prog 14 #[.slice a n c] w fun e w' => e = .returned (.string (ctx n S K U)) ∧ Below w.heap.size w w' := by
  have HS := Lib.hid hS; have HK := Lib.hid hK; clear hS hK
  have KH := kp_chg hh; clear hh
  by_cases h24 : 2400 < n
  · have h24' : (n : Int) > 2400 := by omega
    have h24'' : (2400 : Int) < n := by omega
    have hnv := Lib.hid (ctx_no (U := U) (vCh_false (S := S) (K := K) (n := n) fun H => by have := H.1; omega))
    go_enter Tryd.func14, Tryd.ntmps14
    go_wp2
    go_ret
    exact ⟨by rw [hnv.out]; rfl, Below.refl _ _⟩
  · have h24' : ¬ (n : Int) > 2400 := by omega
    have h24'' : ¬ (2400 : Int) < n := by omega
    cases hv : vCh n S K
    · have hnv := Lib.hid (ctx_no (U := U) hv)
      have hany : anyB (fun k => !chOK (S k) (K k)) n = true := by
        cases hq : anyB (fun k => !chOK (S k) (K k)) n
        · rw [vCh_iff.2 ⟨by omega, fun k hk => by
            cases hz : chOK (S k) (K k)
            · rw [anyB_iff.2 ⟨k, hk, by simp [hz]⟩] at hq; exact absurd hq (by simp)
            · rfl⟩] at hv
          exact absurd hv (by simp)
        · rfl
      clear hv
      go_enter Tryd.func14, Tryd.ntmps14
      go_wp2_with fail
      refine (containsFuncChange_any a n c S K U w (by omega) HS.out HK.out KH.here).mono ?_
      rw [hany]
      rintro e w1 ⟨rfl, hb1⟩
      go_wp2
      go_ret
      exact ⟨by rw [hnv.out]; rfl, hb1⟩
    · have hnv := Lib.hid (ctx_yes (U := U) hv)
      obtain ⟨_, hall⟩ := vCh_facts hv
      have hany : anyB (fun k => !chOK (S k) (K k)) n = false := anyB_false fun k hk => by rw [(vCh_iff.1 hv).2 k hk]; rfl
      have HALL := Lib.hid hall; clear hv
      have HSZ := Lib.hid (ct_sz (cw_sz (U := U) hall)); clear hall
      go_enter Tryd.func14, Tryd.ntmps14
      go_wp2_with fail
      refine (containsFuncChange_any a n c S K U w (by omega) HS.out HK.out KH.here).mono ?_
      rw [hany]
      rintro e w1 ⟨rfl, hb1⟩
      clear hany
      replace KH := KH.on hb1
      have HB00 := Lib.hid hb1
      have hsz1 := hb1.size; clear hb1
      have HE := Lib.hid (OwnT.nil w1 w1.heap.size (Nat.le_refl _))
      go_wp2
      go_loopw [3, 17] (fun v i w' => Below w1.heap.size w1 w' ∧ ∃ k : Nat, k ≤ n ∧ i = .int .i64 k ∧ OwnT w' w1.heap.size v ((List.range k).map (cw S K U))) (fun _ i _ => n - (intOf i).toNat)
      case atStart => exact ⟨(Below.refl _ _).alloc (Nat.le_refl _) _, 0, by omega, rfl, HE.out⟩
      case round =>
        clear HE
        obtain ⟨hb, k, hk, rfl, hown⟩ := hrel
        have HOWN := Lib.hid hown; clear hown
        replace KH := KH.on hb
        have hszw := hb.size
        have HB := Lib.hid hb; clear hb
        by_cases hlt : k < n
        · have hlt' : (k : Int) < n := by omega
          have hx := ChgAt.get KH.here (show 0 < n by omega)
          obtain ⟨g, off, rfl, hg, hc⟩ := hx
          have c0 := (hc k hlt).1
          have c1 := (hc k hlt).2.1
          have c2 := (hc k hlt).2.2
          have hf := HALL.out k hlt
          have hsucc := cw_def S K U k
          obtain ⟨f, hfe⟩ : ∃ f : Nat, S k = f := ⟨(S k).toNat, by omega⟩
          obtain ⟨x, hxe⟩ : ∃ x : Nat, K k = x := ⟨(K k).toNat, by omega⟩
          rw [hfe] at c0 hf hsucc
          rw [hxe] at c1 hf hsucc
          rw [Int.toNat_natCast, Int.toNat_natCast, ch_def] at hsucc
          have hd1 := dg_sz (i := f) (by omega)
          have hd2 := dg_sz (i := x) (by omega)
          have q0 := i64_id (x := (f : Int)) (by omega)
          have q1 := i64_id (x := (x : Int)) (by omega)
          clear hc hfe hxe
          generalize hu : U k = u at c2 hsucc
          clear hu
          obtain ⟨nx, hnx⟩ : ∃ nx, nx = cw S K U k := ⟨_, rfl⟩
          rw [← hnx] at hsucc
          have HNX := Lib.hid hnx; clear hnx
          have hz1 : ¬ 9223372036854775807 < 1 + (dg f).size := by omega
          have hz1' : 1 + (dg f).size ≤ 9223372036854775807 := by omega
          have hz2 : ¬ 9223372036854775807 < 1 + (dg f).size + 1 := by omega
          have hz3 : ¬ 9223372036854775807 < 1 + (dg f).size + 1 + (dg x).size := by omega
          have hz3' : 1 + (dg f).size + 1 + (dg x).size ≤ 9223372036854775807 := by omega
          cases u
          · rw [sgn_no] at hsucc
            have HSU := Lib.hid hsucc; clear hsucc
            go_wp2
            have hrow := heap_alloc_new wr (.cells #[.int .i16 (f : Int), .int .i8 (x : Int), .bool false] 61)
            have hbw := HB.out.alloc hszw (.cells #[.int .i16 (f : Int), .int .i8 (x : Int), .bool false] 61)
            have hown2 := HOWN.out.alloc (.cells #[.int .i16 (f : Int), .int .i8 (x : Int), .bool false] 61)
            have hgs : wr.heap.size < (wr.alloc (.cells #[.int .i16 (f : Int), .int .i8 (x : Int), .bool false] 61)).heap.size := by simp
            have hol := HOWN.out.lt
            generalize wr.alloc (.cells #[.int .i16 (f : Int), .int .i8 (x : Int), .bool false] 61) = V1 at hrow hbw hown2 hgs ⊢
            have hS0 : Below w1.heap.size w1 V1.drew ∧ V1.drew.heap[wr.heap.size]? = some (.cells #[.int .i16 (f : Int), .int .i8 (x : Int), .bool false] 61 (0, 0)) := ⟨hbw.drew, hrow⟩
            refine wp_region_S (fun V => Below w1.heap.size w1 V ∧ V.heap[wr.heap.size]? = some (.cells #[.int .i16 (f : Int), .int .i8 (x : Int), .bool false] 61 (0, 0))) (by kernel_rfl) hS0 ?_
            refine take_val 0 (u3) rfl (by kernel_rfl) (by kernel_rfl) (by kernel_rfl) (fun _ _ _ h => h) rfl (fun V hV => by simp [go_sem]) hS0 ?_
            simp only [List.getElem_toArray, List.getElem_cons_zero, List.getElem_cons_succ, Act.put, List.setIfInBounds_toArray, List.set_cons_zero, List.set_cons_succ]
            refine take_val 1 (.string ⟨#[45]⟩) rfl (by kernel_rfl) (by kernel_rfl) (by kernel_rfl) (fun _ _ _ h => h) rfl (fun V hV => by simp [go_sem]) hS0 ?_
            simp only [List.getElem_toArray, List.getElem_cons_zero, List.getElem_cons_succ, Act.put, List.setIfInBounds_toArray, List.set_cons_zero, List.set_cons_succ]
            refine take_val 2 (.pointer (some ⟨wr.heap.size, 0, none⟩)) rfl (by kernel_rfl) (by kernel_rfl) (by kernel_rfl) (fun _ _ _ h => h) rfl (fun V hV => by simp [go_sem]) hS0 ?_
            simp only [List.getElem_toArray, List.getElem_cons_zero, List.getElem_cons_succ, Act.put, List.setIfInBounds_toArray, List.set_cons_zero, List.set_cons_succ]
            refine take_val 3 (.int .i16 (f : Int)) rfl (by kernel_rfl) (by kernel_rfl) (by kernel_rfl) (fun _ _ _ h => h) rfl (fun V hV => by have c := row_cell 0 hV.2; simp [go_sem, c]) hS0 ?_
            simp only [List.getElem_toArray, List.getElem_cons_zero, List.getElem_cons_succ, Act.put, List.setIfInBounds_toArray, List.set_cons_zero, List.set_cons_succ]
            refine take_val 4 (.int .i64 (f : Int)) rfl (by kernel_rfl) (by kernel_rfl) (by kernel_rfl) (fun _ _ _ h => h) rfl (fun V hV => by simp [go_sem, q0]) hS0 ?_
            simp only [List.getElem_toArray, List.getElem_cons_zero, List.getElem_cons_succ, Act.put, List.setIfInBounds_toArray, List.set_cons_zero, List.set_cons_succ]
            refine take_val 8 (.pointer (some ⟨wr.heap.size, 1, none⟩)) rfl (by kernel_rfl) (by kernel_rfl) (by kernel_rfl) (fun _ _ _ h => h) rfl (fun V hV => by simp [go_sem]) hS0 ?_
            simp only [List.getElem_toArray, List.getElem_cons_zero, List.getElem_cons_succ, Act.put, List.setIfInBounds_toArray, List.set_cons_zero, List.set_cons_succ]
            refine take_val 9 (.int .i8 (x : Int)) rfl (by kernel_rfl) (by kernel_rfl) (by kernel_rfl) (fun _ _ _ h => h) rfl (fun V hV => by have c := row_cell 1 hV.2; simp [go_sem, c]) hS0 ?_
            simp only [List.getElem_toArray, List.getElem_cons_zero, List.getElem_cons_succ, Act.put, List.setIfInBounds_toArray, List.set_cons_zero, List.set_cons_succ]
            refine take_val 10 (.int .i64 (x : Int)) rfl (by kernel_rfl) (by kernel_rfl) (by kernel_rfl) (fun _ _ _ h => h) rfl (fun V hV => by simp [go_sem, q1]) hS0 ?_
            simp only [List.getElem_toArray, List.getElem_cons_zero, List.getElem_cons_succ, Act.put, List.setIfInBounds_toArray, List.set_cons_zero, List.set_cons_succ]
            refine step_call 5 28 #[.int .i64 f] (by kernel_rfl) rfl rfl (by simp [go_sem]) ?_
            refine (decimal_any f (by omega) _).mono ?_
            rintro e w3 ⟨rfl, rfl⟩
            refine ⟨_, rfl, hS0, ?_⟩
            simp only [List.getElem_toArray, List.getElem_cons_zero, List.getElem_cons_succ, Act.put, List.setIfInBounds_toArray, List.set_cons_zero, List.set_cons_succ]
            refine take_val 6 (.string (⟨#[45]⟩ ++ dg f)) rfl (by kernel_rfl) (by kernel_rfl) (by kernel_rfl) (fun _ _ _ h => h) rfl (fun V hV => by simp [go_sem, hz1, hz1']) hS0 ?_
            simp only [List.getElem_toArray, List.getElem_cons_zero, List.getElem_cons_succ, Act.put, List.setIfInBounds_toArray, List.set_cons_zero, List.set_cons_succ]
            refine take_val 7 (.string (⟨#[45]⟩ ++ dg f ++ ⟨#[47]⟩)) rfl (by kernel_rfl) (by kernel_rfl) (by kernel_rfl) (fun _ _ _ h => h) rfl (fun V hV => by simp [go_sem, hz2]) hS0 ?_
            simp only [List.getElem_toArray, List.getElem_cons_zero, List.getElem_cons_succ, Act.put, List.setIfInBounds_toArray, List.set_cons_zero, List.set_cons_succ]
            refine step_call 11 28 #[.int .i64 x] (by kernel_rfl) rfl rfl (by simp [go_sem]) ?_
            refine (decimal_any x (by omega) _).mono ?_
            rintro e w3 ⟨rfl, rfl⟩
            refine ⟨_, rfl, hS0, ?_⟩
            simp only [List.getElem_toArray, List.getElem_cons_zero, List.getElem_cons_succ, Act.put, List.setIfInBounds_toArray, List.set_cons_zero, List.set_cons_succ]
            refine take_val 12 (.string nx) rfl (by kernel_rfl) (by kernel_rfl) (by kernel_rfl) (fun _ _ _ h => h) rfl (fun V hV => by simp [go_sem, hz3, hz3', HSU.out]) hS0 ?_
            simp only [List.getElem_toArray, List.getElem_cons_zero, List.getElem_cons_succ, Act.put, List.setIfInBounds_toArray, List.set_cons_zero, List.set_cons_succ]
            have hSE : Below w1.heap.size w1 (V1.drew.alloc (.cells #[.string nx] 9)) ∧ (V1.drew.alloc (.cells #[.string nx] 9)).heap[wr.heap.size]? = some (.cells #[.int .i16 (f : Int), .int .i8 (x : Int), .bool false] 61 (0, 0)) := ⟨hS0.1.alloc hS0.1.size _, (Below.heap_alloc V1.drew _ wr.heap.size (row_lt hS0.2)).trans hS0.2⟩
            refine step_val 13 _ _ (by kernel_rfl) rfl rfl (ex_build_text _ rfl nx rfl) hSE ?_
            simp only [List.getElem_toArray, List.getElem_cons_zero, List.getElem_cons_succ, Act.put, List.setIfInBounds_toArray, List.set_cons_zero, List.set_cons_succ]
            have hrow2 := heap_alloc_new V1.drew (.cells #[.string nx] 9)
            have hownd := (hown2.below (below_drew V1)).alloc (.cells #[.string nx] 9)
            refine step_append_text 14 (by kernel_rfl) rfl rfl _ _ rfl w1.heap.size u3 _ rfl hownd V1.drew.heap.size nx rfl hrow2 (by simp; omega) (hS0.1.alloc hS0.1.size _).size ?_
            intro v' w4 ho hg4 hb4
            have hS4 : Below w1.heap.size w1 w4 ∧ w4.heap[wr.heap.size]? = some (.cells #[.int .i16 (f : Int), .int .i8 (x : Int), .bool false] 61 (0, 0)) := ⟨hSE.1.trans hb4, row_grown hSE.2 hg4 (fun k hk => (hol k hk).2)⟩
            refine ⟨hS4, ?_⟩
            simp only [List.getElem_toArray, List.getElem_cons_zero, List.getElem_cons_succ, Act.put, List.setIfInBounds_toArray, List.set_cons_zero, List.set_cons_succ]
            refine take_val 15 (v') rfl (by kernel_rfl) (by kernel_rfl) (by kernel_rfl) (fun _ _ _ h => h) rfl (fun V hV => by simp [go_sem]) hS4 ?_
            simp only [List.getElem_toArray, List.getElem_cons_zero, List.getElem_cons_succ, Act.put, List.setIfInBounds_toArray, List.set_cons_zero, List.set_cons_succ]
            refine wpAnyH_done (by kernel_rfl) ?_ _
            have hbf := hS4.1
            have HOF := Lib.hid ho
            clear ho hg4 hb4 hS4 hS0 hSE hownd hrow2 hown2 hrow
            go_wp2
            go_roundw
            case rel => exact ⟨hbf, k + 1, by omega, by go_num, by rw [List.range_succ, List.map_append, List.map_cons, List.map_nil, ← HNX.out]; exact HOF.out⟩
            case measure => simp [intOf]; omega
          · rw [sgn_yes] at hsucc
            have HSU := Lib.hid hsucc; clear hsucc
            go_wp2
            have hrow := heap_alloc_new wr (.cells #[.int .i16 (f : Int), .int .i8 (x : Int), .bool true] 61)
            have hbw := HB.out.alloc hszw (.cells #[.int .i16 (f : Int), .int .i8 (x : Int), .bool true] 61)
            have hown2 := HOWN.out.alloc (.cells #[.int .i16 (f : Int), .int .i8 (x : Int), .bool true] 61)
            have hgs : wr.heap.size < (wr.alloc (.cells #[.int .i16 (f : Int), .int .i8 (x : Int), .bool true] 61)).heap.size := by simp
            have hol := HOWN.out.lt
            generalize wr.alloc (.cells #[.int .i16 (f : Int), .int .i8 (x : Int), .bool true] 61) = V1 at hrow hbw hown2 hgs ⊢
            have hS0 : Below w1.heap.size w1 V1.drew ∧ V1.drew.heap[wr.heap.size]? = some (.cells #[.int .i16 (f : Int), .int .i8 (x : Int), .bool true] 61 (0, 0)) := ⟨hbw.drew, hrow⟩
            refine wp_region_S (fun V => Below w1.heap.size w1 V ∧ V.heap[wr.heap.size]? = some (.cells #[.int .i16 (f : Int), .int .i8 (x : Int), .bool true] 61 (0, 0))) (by kernel_rfl) hS0 ?_
            refine take_val 0 (u3) rfl (by kernel_rfl) (by kernel_rfl) (by kernel_rfl) (fun _ _ _ h => h) rfl (fun V hV => by simp [go_sem]) hS0 ?_
            simp only [List.getElem_toArray, List.getElem_cons_zero, List.getElem_cons_succ, Act.put, List.setIfInBounds_toArray, List.set_cons_zero, List.set_cons_succ]
            refine take_val 1 (.string ⟨#[43]⟩) rfl (by kernel_rfl) (by kernel_rfl) (by kernel_rfl) (fun _ _ _ h => h) rfl (fun V hV => by simp [go_sem]) hS0 ?_
            simp only [List.getElem_toArray, List.getElem_cons_zero, List.getElem_cons_succ, Act.put, List.setIfInBounds_toArray, List.set_cons_zero, List.set_cons_succ]
            refine take_val 2 (.pointer (some ⟨wr.heap.size, 0, none⟩)) rfl (by kernel_rfl) (by kernel_rfl) (by kernel_rfl) (fun _ _ _ h => h) rfl (fun V hV => by simp [go_sem]) hS0 ?_
            simp only [List.getElem_toArray, List.getElem_cons_zero, List.getElem_cons_succ, Act.put, List.setIfInBounds_toArray, List.set_cons_zero, List.set_cons_succ]
            refine take_val 3 (.int .i16 (f : Int)) rfl (by kernel_rfl) (by kernel_rfl) (by kernel_rfl) (fun _ _ _ h => h) rfl (fun V hV => by have c := row_cell 0 hV.2; simp [go_sem, c]) hS0 ?_
            simp only [List.getElem_toArray, List.getElem_cons_zero, List.getElem_cons_succ, Act.put, List.setIfInBounds_toArray, List.set_cons_zero, List.set_cons_succ]
            refine take_val 4 (.int .i64 (f : Int)) rfl (by kernel_rfl) (by kernel_rfl) (by kernel_rfl) (fun _ _ _ h => h) rfl (fun V hV => by simp [go_sem, q0]) hS0 ?_
            simp only [List.getElem_toArray, List.getElem_cons_zero, List.getElem_cons_succ, Act.put, List.setIfInBounds_toArray, List.set_cons_zero, List.set_cons_succ]
            refine take_val 8 (.pointer (some ⟨wr.heap.size, 1, none⟩)) rfl (by kernel_rfl) (by kernel_rfl) (by kernel_rfl) (fun _ _ _ h => h) rfl (fun V hV => by simp [go_sem]) hS0 ?_
            simp only [List.getElem_toArray, List.getElem_cons_zero, List.getElem_cons_succ, Act.put, List.setIfInBounds_toArray, List.set_cons_zero, List.set_cons_succ]
            refine take_val 9 (.int .i8 (x : Int)) rfl (by kernel_rfl) (by kernel_rfl) (by kernel_rfl) (fun _ _ _ h => h) rfl (fun V hV => by have c := row_cell 1 hV.2; simp [go_sem, c]) hS0 ?_
            simp only [List.getElem_toArray, List.getElem_cons_zero, List.getElem_cons_succ, Act.put, List.setIfInBounds_toArray, List.set_cons_zero, List.set_cons_succ]
            refine take_val 10 (.int .i64 (x : Int)) rfl (by kernel_rfl) (by kernel_rfl) (by kernel_rfl) (fun _ _ _ h => h) rfl (fun V hV => by simp [go_sem, q1]) hS0 ?_
            simp only [List.getElem_toArray, List.getElem_cons_zero, List.getElem_cons_succ, Act.put, List.setIfInBounds_toArray, List.set_cons_zero, List.set_cons_succ]
            refine step_call 5 28 #[.int .i64 f] (by kernel_rfl) rfl rfl (by simp [go_sem]) ?_
            refine (decimal_any f (by omega) _).mono ?_
            rintro e w3 ⟨rfl, rfl⟩
            refine ⟨_, rfl, hS0, ?_⟩
            simp only [List.getElem_toArray, List.getElem_cons_zero, List.getElem_cons_succ, Act.put, List.setIfInBounds_toArray, List.set_cons_zero, List.set_cons_succ]
            refine take_val 6 (.string (⟨#[43]⟩ ++ dg f)) rfl (by kernel_rfl) (by kernel_rfl) (by kernel_rfl) (fun _ _ _ h => h) rfl (fun V hV => by simp [go_sem, hz1, hz1']) hS0 ?_
            simp only [List.getElem_toArray, List.getElem_cons_zero, List.getElem_cons_succ, Act.put, List.setIfInBounds_toArray, List.set_cons_zero, List.set_cons_succ]
            refine take_val 7 (.string (⟨#[43]⟩ ++ dg f ++ ⟨#[47]⟩)) rfl (by kernel_rfl) (by kernel_rfl) (by kernel_rfl) (fun _ _ _ h => h) rfl (fun V hV => by simp [go_sem, hz2]) hS0 ?_
            simp only [List.getElem_toArray, List.getElem_cons_zero, List.getElem_cons_succ, Act.put, List.setIfInBounds_toArray, List.set_cons_zero, List.set_cons_succ]
            refine step_call 11 28 #[.int .i64 x] (by kernel_rfl) rfl rfl (by simp [go_sem]) ?_
            refine (decimal_any x (by omega) _).mono ?_
            rintro e w3 ⟨rfl, rfl⟩
            refine ⟨_, rfl, hS0, ?_⟩
            simp only [List.getElem_toArray, List.getElem_cons_zero, List.getElem_cons_succ, Act.put, List.setIfInBounds_toArray, List.set_cons_zero, List.set_cons_succ]
            refine take_val 12 (.string nx) rfl (by kernel_rfl) (by kernel_rfl) (by kernel_rfl) (fun _ _ _ h => h) rfl (fun V hV => by simp [go_sem, hz3, hz3', HSU.out]) hS0 ?_
            simp only [List.getElem_toArray, List.getElem_cons_zero, List.getElem_cons_succ, Act.put, List.setIfInBounds_toArray, List.set_cons_zero, List.set_cons_succ]
            have hSE : Below w1.heap.size w1 (V1.drew.alloc (.cells #[.string nx] 9)) ∧ (V1.drew.alloc (.cells #[.string nx] 9)).heap[wr.heap.size]? = some (.cells #[.int .i16 (f : Int), .int .i8 (x : Int), .bool true] 61 (0, 0)) := ⟨hS0.1.alloc hS0.1.size _, (Below.heap_alloc V1.drew _ wr.heap.size (row_lt hS0.2)).trans hS0.2⟩
            refine step_val 13 _ _ (by kernel_rfl) rfl rfl (ex_build_text _ rfl nx rfl) hSE ?_
            simp only [List.getElem_toArray, List.getElem_cons_zero, List.getElem_cons_succ, Act.put, List.setIfInBounds_toArray, List.set_cons_zero, List.set_cons_succ]
            have hrow2 := heap_alloc_new V1.drew (.cells #[.string nx] 9)
            have hownd := (hown2.below (below_drew V1)).alloc (.cells #[.string nx] 9)
            refine step_append_text 14 (by kernel_rfl) rfl rfl _ _ rfl w1.heap.size u3 _ rfl hownd V1.drew.heap.size nx rfl hrow2 (by simp; omega) (hS0.1.alloc hS0.1.size _).size ?_
            intro v' w4 ho hg4 hb4
            have hS4 : Below w1.heap.size w1 w4 ∧ w4.heap[wr.heap.size]? = some (.cells #[.int .i16 (f : Int), .int .i8 (x : Int), .bool true] 61 (0, 0)) := ⟨hSE.1.trans hb4, row_grown hSE.2 hg4 (fun k hk => (hol k hk).2)⟩
            refine ⟨hS4, ?_⟩
            simp only [List.getElem_toArray, List.getElem_cons_zero, List.getElem_cons_succ, Act.put, List.setIfInBounds_toArray, List.set_cons_zero, List.set_cons_succ]
            refine take_val 15 (v') rfl (by kernel_rfl) (by kernel_rfl) (by kernel_rfl) (fun _ _ _ h => h) rfl (fun V hV => by simp [go_sem]) hS4 ?_
            simp only [List.getElem_toArray, List.getElem_cons_zero, List.getElem_cons_succ, Act.put, List.setIfInBounds_toArray, List.set_cons_zero, List.set_cons_succ]
            refine wpAnyH_done (by kernel_rfl) ?_ _
            have hbf := hS4.1
            have HOF := Lib.hid ho
            clear ho hg4 hb4 hS4 hS0 hSE hownd hrow2 hown2 hrow
            go_wp2
            go_roundw
            case rel => exact ⟨hbf, k + 1, by omega, by go_num, by rw [List.range_succ, List.map_append, List.map_cons, List.map_nil, ← HNX.out]; exact HOF.out⟩
            case measure => simp [intOf]; omega
        · have hkn : k = n := by omega
          subst hkn
          have hj := join_ct (cw S K U) k
          have htz := HSZ.out k (Nat.le_refl _)
          have hlen : (Lib.join (((List.range k).map (cw S K U)).map (·.data.toList)) [32]).length ≤ 140737488355328 := by rw [hj, Array.length_toList]; show (ct (cw S K U) k).size ≤ _; omega
          have HJ := Lib.hid (join_own HOWN.out (by simp; omega) hlen)
          rw [hj] at HJ
          clear hj hlen htz
          go_wp2_with fail
          refine HJ.out.mono ?_
          rintro e w2 ⟨rfl, hb2⟩
          go_wp2
          go_ret
          exact ⟨by rw [hnv.out]; rfl, HB00.out.trans ((HB.out.trans (hb2.mono hszw)).mono hsz1)⟩
end Go.Proofs.YteboefffkpcnaaaDoor
