/- ProgrammeText, by the program and by the reference. No conditions. -/
import Derived.Test.YteboefffkpcnaaaDoorPx
import Derived.Test.YteboefffkpcnaaaDoorVp
import Derived.Outline
namespace Go.Proofs.YteboefffkpcnaaaDoor
open Go.RowKit
set_option linter.unusedVariables false
set_option linter.unusedSimpArgs false

theorem i8_id {x : Int} (h : -128 ≤ x ∧ x ≤ 127) : IntKind.i8.wrap x = x := by
  show (if (true && decide (x % 256 ≥ 128)) = true then x % 256 - 256 else x % 256) = x
  simp only [Bool.true_and, decide_eq_true_eq]
  split <;> omega
theorem kpc {w : World} {p : Addr} {v : Value} (h : w.cell? p = some v) (hp : p.block < w.heap.size) : Kp w (fun V => V.cell? p = some v) := Kp.mk fun _ hb => (hb.cell hp).trans h
set_option maxRecDepth 100000 in
set_option maxHeartbeats 4000000 in
theorem implProgrammeText_any (s : Int) (a : Option Addr) (n c : Nat) (P R : Nat → Int) (b : Option Addr) (m d : Nat) (F S O : Nat → Int) (w : World) (hs : -32768 ≤ s ∧ s ≤ 32767) (hn : n ≤ 1048576) (hP : I8 P) (hR : I8 R) (hh : HamAt w a n P R) (hm : m ≤ 1048576) (hF : I16 F) (hS : I16 S) (hO : I8 O) (hl : SecAt w b m F S) :
    Calls Tryd.prog 21 #[.agg #[.int .i16 s, .slice a n c], .agg (pc b m d O)] w fun e w' => e = .returned (.string (ptx s n P R m F S O)) ∧ Below w.heap.size w w' := by
  have HP := Lib.hid hP; have HR := Lib.hid hR; have HF := Lib.hid hF; have HS := Lib.hid hS; have HO := Lib.hid hO
  clear hP hR hF hS hO
  have KB := Kp.base w
  have KH := kp_ham hh; have KL := kp_sec hl; clear hh hl
  replace KB := KB.alloc (.cells #[.int .i16 s, .slice a n c] 48)
  replace KH := KH.alloc (.cells #[.int .i16 s, .slice a n c] 48)
  replace KL := KL.alloc (.cells #[.int .i16 s, .slice a n c] 48)
  have KF := kp_new1 w #[.int .i16 s, .slice a n c] 48 (g := w.heap.size) (by simp)
  replace KB := KB.alloc (.cells (pc b m d O) 52)
  replace KH := KH.alloc (.cells (pc b m d O) 52)
  replace KL := KL.alloc (.cells (pc b m d O) 52)
  replace KF := KF.alloc (.cells (pc b m d O) 52)
  have KP := kp_new1 (w.alloc (.cells #[.int .i16 s, .slice a n c] 48)) (pc b m d O) 52 (g := w.heap.size + 1) (by simp)
  have HZ := Lib.hid (show ((w.alloc (.cells #[.int .i16 s, .slice a n c] 48)).alloc (.cells (pc b m d O) 52)).heap.size = w.heap.size + 1 + 1 by simp)
  go_enter Tryd.func21, Tryd.ntmps21
  go_wp2_with (first | (with_reducible refine load_iframe rfl _ rfl w.heap.size rfl _ s a n c KF.here ?_) | (with_reducible refine load_iprog rfl _ rfl (w.heap.size + 1) rfl _ b m d O KP.here ?_))
  generalize ((w.alloc (.cells #[.int .i16 s, .slice a n c] 48)).alloc (.cells (pc b m d O) 52)) = W at KB KH KL KF KP HZ ⊢
  clear HZ
  refine (validProgramme_any s a n c P R b m d F S O W hs hn HP.out HR.out KH.here hm HF.out HS.out HO.out KL.here).mono ?_
  rintro e w1 ⟨rfl, hb1⟩
  replace KB := KB.on hb1
  replace KL := KL.on hb1
  replace KF := KF.on hb1
  replace KP := KP.on hb1
  clear hb1
  cases hv : vProg s n P R m F S O
  · have hnv := Lib.hid (ptx_no hv)
    clear hv
    go_wp2
    go_ret
    exact ⟨by rw [hnv.out]; rfl, KB.here⟩
  · have hnv := Lib.hid (ptx_yes hv)
    obtain ⟨hs2, hm2, hsec, hord⟩ := vProg_facts hv
    have HORD := Lib.hid hord; have HSEC := Lib.hid hsec; clear hord hsec hv
    have hsz1 := KB.here.size
    have HSZ := Lib.hid (tk_sz (F := F) (S := S) (m := m) (fun k hk => by have := HSEC.out k hk; omega))
    have HB00 := Lib.hid KB.here
    have p0 := row_cell 0 KP.here
    rw [pc_get0] at p0
    have HE := Lib.hid (OwnB.nil w1 w1.heap.size (Nat.le_refl _))
    have p1 := row_cell 0 (KP.alloc (.cells #[] 5)).here
    rw [pc_get0] at p1
    go_wp2
    clear p0 p1 KF
    go_loopw [5, 18] (fun v i w' => Below w1.heap.size w1 w' ∧ ∃ k : Nat, k ≤ m ∧ i = .int .i64 k ∧ OwnB w' w1.heap.size v (tk F S k).data.toList) (fun _ i _ => m - (intOf i).toNat)
    case atStart => exact ⟨(Below.refl _ _).alloc (Nat.le_refl _) _, 0, by omega, rfl, by rw [tk_zero]; exact HE.out⟩
    case round =>
      clear HE
      obtain ⟨hb, k, hk, rfl, hown⟩ := hrel
      have HOWN := Lib.hid hown
      replace KB := KB.on hb
      replace KL := KL.on hb
      replace KP := KP.on hb
      have hszw := hb.size
      have HB := Lib.hid hb; clear hb
      by_cases hlt : k < m
      · have hlt' : (k : Int) < m := by omega
        have hx := SecAt.get KL.here (show 0 < m by omega)
        obtain ⟨g, off, rfl, hg, hc⟩ := hx
        have c0 := (hc k hlt).1
        have c1 := (hc k hlt).2
        have hf := HSEC.out k hlt
        have hsucc := tk_succ F S k
        obtain ⟨f, hfe⟩ : ∃ f : Nat, F k = f := ⟨(F k).toNat, by omega⟩
        obtain ⟨x, hxe⟩ : ∃ x : Nat, S k = x := ⟨(S k).toNat, by omega⟩
        rw [hfe] at c0 hf hsucc
        rw [hxe] at c1 hf hsucc
        rw [Int.toNat_natCast, Int.toNat_natCast] at hsucc
        have hln := ln_def f x
        have hlz := ln_sz (f := f) (s := x) (by omega) (by omega)
        have hd1 := dg_sz (i := f) (by omega)
        have hd2 := dg_sz (i := x) (by omega)
        have htz := HSZ.out k hk
        have q0 := i64_id (x := (f : Int)) (by omega)
        have q1 := i64_id (x := (x : Int)) (by omega)
        have HSU := Lib.hid hsucc; have HLN := Lib.hid hln
        clear hc hfe hxe hsucc hln
        go_wp2
        replace KB := KB.alloc (.cells #[.int .i16 (f : Int), .int .i16 (x : Int)] 81)
        have hrow := heap_alloc_new wr (.cells #[.int .i16 (f : Int), .int .i16 (x : Int)] 81)
        have hbw := HB.out.alloc hszw (.cells #[.int .i16 (f : Int), .int .i16 (x : Int)] 81)
        have hown2 := HOWN.out.alloc (.cells #[.int .i16 (f : Int), .int .i16 (x : Int)] 81)
        have hgs : wr.heap.size < (wr.alloc (.cells #[.int .i16 (f : Int), .int .i16 (x : Int)] 81)).heap.size := by simp
        have hol := HOWN.out.lt
        generalize wr.alloc (.cells #[.int .i16 (f : Int), .int .i16 (x : Int)] 81) = V1 at KB hrow hbw hown2 hgs ⊢
        have hz1 : ¬ 9223372036854775807 < (dg f).size + 1 := by omega
        have hz2 : ¬ 9223372036854775807 < (dg f).size + 1 + (dg x).size := by omega
        have hz3 : ¬ 9223372036854775807 < (dg f).size + 1 + (dg x).size + 1 := by omega
        have hz2' : (dg f).size + 1 + (dg x).size ≤ 9223372036854775807 := by omega
        have hz3' : (dg f).size + 1 + (dg x).size + 1 ≤ 9223372036854775807 := by omega
        have hS0 : Below w1.heap.size w1 V1.drew ∧ V1.drew.heap[wr.heap.size]? = some (.cells #[.int .i16 (f : Int), .int .i16 (x : Int)] 81 (0, 0)) := ⟨hbw.drew, hrow⟩
        refine wp_region_S (fun V => Below w1.heap.size w1 V ∧ V.heap[wr.heap.size]? = some (.cells #[.int .i16 (f : Int), .int .i16 (x : Int)] 81 (0, 0))) (by kernel_rfl) hS0 ?_
        refine take_val 0 (u5) rfl (by kernel_rfl) (by kernel_rfl) (by kernel_rfl) (fun _ _ _ h => h) rfl (fun V hV => by simp [go_sem]) hS0 ?_
        simp only [List.getElem_toArray, List.getElem_cons_zero, List.getElem_cons_succ, Act.put, List.setIfInBounds_toArray, List.set_cons_zero, List.set_cons_succ]
        refine take_val 1 (.pointer (some ⟨wr.heap.size, 0, none⟩)) rfl (by kernel_rfl) (by kernel_rfl) (by kernel_rfl) (fun _ _ _ h => h) rfl (fun V hV => by simp [go_sem]) hS0 ?_
        simp only [List.getElem_toArray, List.getElem_cons_zero, List.getElem_cons_succ, Act.put, List.setIfInBounds_toArray, List.set_cons_zero, List.set_cons_succ]
        refine take_val 2 (.int .i16 (f : Int)) rfl (by kernel_rfl) (by kernel_rfl) (by kernel_rfl) (fun _ _ _ h => h) rfl (fun V hV => by have c := row_cell 0 hV.2; simp [go_sem, c]) hS0 ?_
        simp only [List.getElem_toArray, List.getElem_cons_zero, List.getElem_cons_succ, Act.put, List.setIfInBounds_toArray, List.set_cons_zero, List.set_cons_succ]
        refine take_val 3 (.int .i64 (f : Int)) rfl (by kernel_rfl) (by kernel_rfl) (by kernel_rfl) (fun _ _ _ h => h) rfl (fun V hV => by simp [go_sem, q0]) hS0 ?_
        simp only [List.getElem_toArray, List.getElem_cons_zero, List.getElem_cons_succ, Act.put, List.setIfInBounds_toArray, List.set_cons_zero, List.set_cons_succ]
        refine take_val 6 (.pointer (some ⟨wr.heap.size, 1, none⟩)) rfl (by kernel_rfl) (by kernel_rfl) (by kernel_rfl) (fun _ _ _ h => h) rfl (fun V hV => by simp [go_sem]) hS0 ?_
        simp only [List.getElem_toArray, List.getElem_cons_zero, List.getElem_cons_succ, Act.put, List.setIfInBounds_toArray, List.set_cons_zero, List.set_cons_succ]
        refine take_val 7 (.int .i16 (x : Int)) rfl (by kernel_rfl) (by kernel_rfl) (by kernel_rfl) (fun _ _ _ h => h) rfl (fun V hV => by have c := row_cell 1 hV.2; simp [go_sem, c]) hS0 ?_
        simp only [List.getElem_toArray, List.getElem_cons_zero, List.getElem_cons_succ, Act.put, List.setIfInBounds_toArray, List.set_cons_zero, List.set_cons_succ]
        refine take_val 8 (.int .i64 (x : Int)) rfl (by kernel_rfl) (by kernel_rfl) (by kernel_rfl) (fun _ _ _ h => h) rfl (fun V hV => by simp [go_sem, q1]) hS0 ?_
        simp only [List.getElem_toArray, List.getElem_cons_zero, List.getElem_cons_succ, Act.put, List.setIfInBounds_toArray, List.set_cons_zero, List.set_cons_succ]
        refine step_call 4 28 #[.int .i64 f] (by kernel_rfl) rfl rfl (by simp [go_sem]) ?_
        refine (decimal_any f (by omega) _).mono ?_
        rintro e w3 ⟨rfl, rfl⟩
        refine ⟨_, rfl, hS0, ?_⟩
        simp only [List.getElem_toArray, List.getElem_cons_zero, List.getElem_cons_succ, Act.put, List.setIfInBounds_toArray, List.set_cons_zero, List.set_cons_succ]
        refine take_val 5 (.string (dg f ++ ⟨#[32]⟩)) rfl (by kernel_rfl) (by kernel_rfl) (by kernel_rfl) (fun _ _ _ h => h) rfl (fun V hV => by simp [go_sem, hz1]) hS0 ?_
        simp only [List.getElem_toArray, List.getElem_cons_zero, List.getElem_cons_succ, Act.put, List.setIfInBounds_toArray, List.set_cons_zero, List.set_cons_succ]
        refine step_call 9 28 #[.int .i64 x] (by kernel_rfl) rfl rfl (by simp [go_sem]) ?_
        refine (decimal_any x (by omega) _).mono ?_
        rintro e w3 ⟨rfl, rfl⟩
        refine ⟨_, rfl, hS0, ?_⟩
        simp only [List.getElem_toArray, List.getElem_cons_zero, List.getElem_cons_succ, Act.put, List.setIfInBounds_toArray, List.set_cons_zero, List.set_cons_succ]
        refine take_val 10 (.string (dg f ++ ⟨#[32]⟩ ++ dg x)) rfl (by kernel_rfl) (by kernel_rfl) (by kernel_rfl) (fun _ _ _ h => h) rfl (fun V hV => by simp [go_sem, hz2, hz2']) hS0 ?_
        simp only [List.getElem_toArray, List.getElem_cons_zero, List.getElem_cons_succ, Act.put, List.setIfInBounds_toArray, List.set_cons_zero, List.set_cons_succ]
        refine take_val 11 (.string (ln f x)) rfl (by kernel_rfl) (by kernel_rfl) (by kernel_rfl) (fun _ _ _ h => h) rfl (fun V hV => by simp [go_sem, hz3, hz3', HLN.out]) hS0 ?_
        simp only [List.getElem_toArray, List.getElem_cons_zero, List.getElem_cons_succ, Act.put, List.setIfInBounds_toArray, List.set_cons_zero, List.set_cons_succ]
        have hownd := hown2.below (below_drew V1)
        refine step_append_str 12 (by kernel_rfl) rfl rfl _ _ rfl w1.heap.size u5 (tk F S k).data.toList rfl hownd (ln f x) rfl (by rw [Array.length_toList]; show (tk F S k).size + _ ≤ _; omega) (by have := hbw.size; simpa using this) ?_
        intro v' w4 ho hg4 hb4
        have hS4 : Below w1.heap.size w1 w4 ∧ w4.heap[wr.heap.size]? = some (.cells #[.int .i16 (f : Int), .int .i16 (x : Int)] 81 (0, 0)) := ⟨hS0.1.trans hb4, row_grown hS0.2 hg4 (fun k hk => (hol k hk).2)⟩
        refine ⟨hS4, ?_⟩
        simp only [List.getElem_toArray, List.getElem_cons_zero, List.getElem_cons_succ, Act.put, List.setIfInBounds_toArray, List.set_cons_zero, List.set_cons_succ]
        refine take_val 13 (v') rfl (by kernel_rfl) (by kernel_rfl) (by kernel_rfl) (fun _ _ _ h => h) rfl (fun V hV => by simp [go_sem]) hS4 ?_
        simp only [List.getElem_toArray, List.getElem_cons_zero, List.getElem_cons_succ, Act.put, List.setIfInBounds_toArray, List.set_cons_zero, List.set_cons_succ]
        refine wpAnyH_done (by kernel_rfl) ?_ _
        have hbf := hS4.1
        have HOF := Lib.hid ho
        clear ho hg4 hb4 hS4 hS0 hownd
        go_wp2
        go_roundw
        case rel => exact ⟨hbf, k + 1, by omega, by go_num, by rw [HSU.out, ByteArray.data_append, Array.toList_append]; exact HOF.out⟩
        case measure => simp [intOf]; omega
      · have hkm : m = k := by omega
        subst hkm
        clear hown
        go_wp2_with (with_reducible refine load_ord_mid rfl _ rfl (w.heap.size + 1) rfl _ b m d O KP.here ?_)
        have HL0 := Lib.hid (show OwnB wr w1.heap.size u5 ((tk F S m).data.toList ++ od O 0) by rw [od_zero, List.append_nil]; exact HOWN.out)
        have htz := HSZ.out m (Nat.le_refl _)
        have hbb := HB.out
        clear HOWN HB KL KP KB hszw
        go_loopw [5, 38] (fun v i w' => Below w1.heap.size w1 w' ∧ ∃ k : Nat, k ≤ 48 ∧ i = .int .i64 k ∧ OwnB w' w1.heap.size v ((tk F S m).data.toList ++ od O k)) (fun _ i _ => 48 - (intOf i).toNat)
        case atStart => exact ⟨hbb, 0, by omega, rfl, HL0.out⟩
        case round =>
          clear HL0 hbb
          obtain ⟨hb, k, hk, rfl, hown⟩ := hrel
          have HOWN := Lib.hid hown; clear hown
          have hszw := hb.size
          have HB := Lib.hid hb; clear hb
          have hodl := od_len O k
          have hlen : ((tk F S m).data.toList ++ od O k).length ≤ 1000 := by
            rw [List.length_append, hodl, Array.length_toList]; show (tk F S m).size + k ≤ 1000; omega
          have HLEN := Lib.hid hlen; clear hlen hodl
          by_cases hlt : k < 48
          · have hk' : (k : Int) < 48 := by omega
            have ho := HO.out k
            have hix := index_ord O k hlt
            have hsu := od_succ O k
            by_cases h0 : O k < 0
            · have hob := ob_no h0
              rw [hob] at hsu
              have HSU := Lib.hid hsu
              clear hsu hob
              have hc : (wr.alloc (.cells #[.int .u8 46] 5)).cell? ⟨wr.heap.size, 0, none⟩ = some (.int .u8 ((46 : UInt8).toNat : Nat)) := row_cell 0 (heap_alloc_new wr _)
              have HC := Lib.hid hc; clear hc
              go_wp2_with (at_builtin; refine append_byte rfl _ _ rfl w1.heap.size _ _ rfl (HOWN.out.alloc _) wr.heap.size 46 rfl HC.out (by have := HLEN.out; omega) (by simp; omega) ?_; intro v2 w5 hown2 hb5; have HO5 := Lib.hid hown2; have HB5 := Lib.hid hb5; clear hown2 hb5)
              go_roundw
              case rel => exact ⟨(HB.out.alloc hszw _).trans HB5.out, k + 1, by omega, by go_num, by rw [HSU.out, ← List.append_assoc]; exact HO5.out⟩
              case measure => simp [intOf]; omega
            · have ho2 := HORD.out k hlt
              have hob := ob_yes (x := O k) (by omega) (by omega)
              obtain ⟨y, hy⟩ : ∃ y, ob (O k) = y := ⟨_, rfl⟩
              rw [hy] at hob hsu
              have q8 := i8_id (x := 97 + O k) (by omega)
              have qu := u8_id (x := 97 + O k) (by omega)
              have hc : (wr.alloc (.cells #[.int .u8 (97 + O k)] 5)).cell? ⟨wr.heap.size, 0, none⟩ = some (.int .u8 (y.toNat : Nat)) := by rw [hob]; exact row_cell 0 (heap_alloc_new wr _)
              have HC := Lib.hid hc; have HSU := Lib.hid hsu
              clear hc hob hsu hy
              go_wp2_with (at_builtin; refine append_byte rfl _ _ rfl w1.heap.size _ _ rfl (HOWN.out.alloc _) wr.heap.size y rfl HC.out (by have := HLEN.out; omega) (by simp; omega) ?_; intro v2 w5 hown2 hb5; have HO5 := Lib.hid hown2; have HB5 := Lib.hid hb5; clear hown2 hb5)
              go_roundw
              case rel => exact ⟨(HB.out.alloc hszw _).trans HB5.out, k + 1, by omega, by go_num, by rw [HSU.out, ← List.append_assoc]; exact HO5.out⟩
              case measure => simp [intOf]; omega
          · have hk48 : k = 48 := by omega
            subst hk48
            have hc : (wr.alloc (.cells #[.int .u8 10] 5)).cell? ⟨wr.heap.size, 0, none⟩ = some (.int .u8 ((10 : UInt8).toNat : Nat)) := row_cell 0 (heap_alloc_new wr _)
            have HC := Lib.hid hc; clear hc
            go_wp2_with (at_builtin; refine append_byte rfl _ _ rfl w1.heap.size _ _ rfl (HOWN.out.alloc _) wr.heap.size 10 rfl HC.out (by have := HLEN.out; omega) (by simp; omega) ?_; intro v2 w5 hown2 hb5; have hcv := conv_B hown2; have HB5 := Lib.hid hb5; clear hown2 hb5)
            go_ret
            exact ⟨by rw [hnv.out, ← ptx_imp, List.append_assoc]; rfl, HB00.out.trans (((HB.out.alloc hszw _).trans HB5.out).mono HB00.out.size)⟩
set_option maxRecDepth 100000 in
set_option maxHeartbeats 4000000 in
theorem l04Text_any (gp : Nat) (s : Int) (b : Option Addr) (m d : Nat) (F S O : Nat → Int) (w : World) (hs2 : 2 ≤ s ∧ s ≤ 96) (hm2 : m ≤ 12) (hsec : ∀ k, k < m → 0 ≤ F k ∧ F k < s ∧ 1 ≤ S k ∧ F k + S k ≤ s) (hord : ∀ k, k < 48 → -1 ≤ O k ∧ O k ≤ (m : Int) - 1) (hO : I8 O) (hp : w.heap[gp]? = some (.cells (pc b m d O) 52 (0, 0))) (hl : SecAt w b m F S) :
    Calls Tryd.prog 41 #[.pointer (some ⟨gp, 0, none⟩)] w fun e w' => e = .returned (.string (tk F S m ++ ⟨(od O 48).toArray⟩ ++ ⟨#[10]⟩)) ∧ Below w.heap.size w w' := by
  have HORD := Lib.hid hord; have HSEC := Lib.hid hsec; have HO := Lib.hid hO; clear hord hsec hO
  have KP := kp_row hp; have KL := kp_sec hl; clear hp hl
  have HSZ := Lib.hid (tk_sz (F := F) (S := S) (m := m) (fun k hk => by have := HSEC.out k hk; omega))
  go_enter Tryd.func41, Tryd.ntmps41
  go_wp2
  go_loopw [3, 4] (fun v i w' => Below w.heap.size w w' ∧ ∃ k : Nat, k ≤ m ∧ i = .int .i64 k ∧ v = .string (tk F S k)) (fun _ i _ => m - (intOf i).toNat)
  case atStart => exact ⟨Below.refl _ _, 0, by omega, rfl, by rw [tk_zero]⟩
  case round =>
    obtain ⟨hb, k, hk, rfl, rfl⟩ := hrel
    replace KL := KL.on hb
    replace KP := KP.on hb
    have hszw := hb.size
    have HB := Lib.hid hb; clear hb
    have p0 := row_cell 0 KP.here
    rw [pc_get0] at p0
    by_cases hlt : k < m
    · have hlt' : (k : Int) < m := by omega
      have hx := SecAt.get KL.here (show 0 < m by omega)
      obtain ⟨g, off, rfl, hg, hc⟩ := hx
      have KC0 := kpc (hc k hlt).1 hg
      have KC1 := kpc (hc k hlt).2 hg
      have KP0 := kpc p0 (row_lt KP.here)
      have hf := HSEC.out k hlt
      have hsucc := tk_succ F S k
      obtain ⟨f, hfe⟩ : ∃ f : Nat, F k = f := ⟨(F k).toNat, by omega⟩
      obtain ⟨x, hxe⟩ : ∃ x : Nat, S k = x := ⟨(S k).toNat, by omega⟩
      rw [hfe] at KC0 hf hsucc
      rw [hxe] at KC1 hf hsucc
      rw [Int.toNat_natCast, Int.toNat_natCast] at hsucc
      have hln := ln_def f x
      have hlz := ln_sz (f := f) (s := x) (by omega) (by omega)
      have hd1 := dg_sz (i := f) (by omega)
      have hd2 := dg_sz (i := x) (by omega)
      have htz := HSZ.out k hk
      have q0 := i64_id (x := (f : Int)) (by omega)
      have q1 := i64_id (x := (x : Int)) (by omega)
      have HSU := Lib.hid hsucc; have HLN := Lib.hid hln
      clear hc hfe hxe hsucc hln
      have hz1 : ¬ 9223372036854775807 < (dg f).size + 1 := by omega
      have hz2 : ¬ 9223372036854775807 < (dg f).size + 1 + (dg x).size := by omega
      have hz3 : ¬ 9223372036854775807 < (dg f).size + 1 + (dg x).size + 1 := by omega
      have hz2' : (dg f).size + 1 + (dg x).size ≤ 9223372036854775807 := by omega
      have hz3' : (dg f).size + 1 + (dg x).size + 1 ≤ 9223372036854775807 := by omega
      have hz4 : ¬ 9223372036854775807 < (tk F S k).size + (ln f x).size := by omega
      have hz4' : (tk F S k).size + (ln f x).size ≤ 9223372036854775807 := by omega
      go_wp2
      have hS0 := below_drew wr
      refine wp_region_S (fun V => Below wr.heap.size wr V) (by kernel_rfl) hS0 ?_
      refine take_val 0 (.string (tk F S k)) rfl (by kernel_rfl) (by kernel_rfl) (by kernel_rfl) (fun _ _ _ h => h) rfl (fun V hV => by simp [go_sem]) hS0 ?_
      simp only [List.getElem_toArray, List.getElem_cons_zero, List.getElem_cons_succ, Act.put, List.setIfInBounds_toArray, List.set_cons_zero, List.set_cons_succ]
      refine take_val 1 (.pointer (some ⟨gp, 0, none⟩)) rfl (by kernel_rfl) (by kernel_rfl) (by kernel_rfl) (fun _ _ _ h => h) rfl (fun V hV => by simp [go_sem]) hS0 ?_
      simp only [List.getElem_toArray, List.getElem_cons_zero, List.getElem_cons_succ, Act.put, List.setIfInBounds_toArray, List.set_cons_zero, List.set_cons_succ]
      refine take_val 2 (.pointer (some ⟨gp, 0, none⟩)) rfl (by kernel_rfl) (by kernel_rfl) (by kernel_rfl) (fun _ _ _ h => h) rfl (fun V hV => by simp [go_sem]) hS0 ?_
      simp only [List.getElem_toArray, List.getElem_cons_zero, List.getElem_cons_succ, Act.put, List.setIfInBounds_toArray, List.set_cons_zero, List.set_cons_succ]
      refine take_val 3 (.pointer (some ⟨gp, 0, none⟩)) rfl (by kernel_rfl) (by kernel_rfl) (by kernel_rfl) (fun _ _ _ h => h) rfl (fun V hV => by simp [go_sem]) hS0 ?_
      simp only [List.getElem_toArray, List.getElem_cons_zero, List.getElem_cons_succ, Act.put, List.setIfInBounds_toArray, List.set_cons_zero, List.set_cons_succ]
      refine take_val 4 (.slice (some ⟨g, off, none⟩) m d) rfl (by kernel_rfl) (by kernel_rfl) (by kernel_rfl) (fun _ _ _ h => h) rfl (fun V hV => by have c := KP0.at hV; simp [go_sem, c]) hS0 ?_
      simp only [List.getElem_toArray, List.getElem_cons_zero, List.getElem_cons_succ, Act.put, List.setIfInBounds_toArray, List.set_cons_zero, List.set_cons_succ]
      refine take_val 5 (.int .i64 k) rfl (by kernel_rfl) (by kernel_rfl) (by kernel_rfl) (fun _ _ _ h => h) rfl (fun V hV => by simp [go_sem]) hS0 ?_
      simp only [List.getElem_toArray, List.getElem_cons_zero, List.getElem_cons_succ, Act.put, List.setIfInBounds_toArray, List.set_cons_zero, List.set_cons_succ]
      refine take_val 6 (.pointer (some ⟨g, off + k * 2, none⟩)) rfl (by kernel_rfl) (by kernel_rfl) (by kernel_rfl) (fun _ _ _ h => h) rfl (fun V hV => by simp [go_sem, hlt']) hS0 ?_
      simp only [List.getElem_toArray, List.getElem_cons_zero, List.getElem_cons_succ, Act.put, List.setIfInBounds_toArray, List.set_cons_zero, List.set_cons_succ]
      refine take_val 7 (.pointer (some ⟨g, off + k * 2, none⟩)) rfl (by kernel_rfl) (by kernel_rfl) (by kernel_rfl) (fun _ _ _ h => h) rfl (fun V hV => by simp [go_sem]) hS0 ?_
      simp only [List.getElem_toArray, List.getElem_cons_zero, List.getElem_cons_succ, Act.put, List.setIfInBounds_toArray, List.set_cons_zero, List.set_cons_succ]
      refine take_val 8 (.int .i16 (f : Int)) rfl (by kernel_rfl) (by kernel_rfl) (by kernel_rfl) (fun _ _ _ h => h) rfl (fun V hV => by have c := KC0.at hV; simp [go_sem, c]) hS0 ?_
      simp only [List.getElem_toArray, List.getElem_cons_zero, List.getElem_cons_succ, Act.put, List.setIfInBounds_toArray, List.set_cons_zero, List.set_cons_succ]
      refine take_val 9 (.int .i64 (f : Int)) rfl (by kernel_rfl) (by kernel_rfl) (by kernel_rfl) (fun _ _ _ h => h) rfl (fun V hV => by simp [go_sem, q0]) hS0 ?_
      simp only [List.getElem_toArray, List.getElem_cons_zero, List.getElem_cons_succ, Act.put, List.setIfInBounds_toArray, List.set_cons_zero, List.set_cons_succ]
      refine take_val 12 (.pointer (some ⟨gp, 0, none⟩)) rfl (by kernel_rfl) (by kernel_rfl) (by kernel_rfl) (fun _ _ _ h => h) rfl (fun V hV => by simp [go_sem]) hS0 ?_
      simp only [List.getElem_toArray, List.getElem_cons_zero, List.getElem_cons_succ, Act.put, List.setIfInBounds_toArray, List.set_cons_zero, List.set_cons_succ]
      refine take_val 13 (.pointer (some ⟨gp, 0, none⟩)) rfl (by kernel_rfl) (by kernel_rfl) (by kernel_rfl) (fun _ _ _ h => h) rfl (fun V hV => by simp [go_sem]) hS0 ?_
      simp only [List.getElem_toArray, List.getElem_cons_zero, List.getElem_cons_succ, Act.put, List.setIfInBounds_toArray, List.set_cons_zero, List.set_cons_succ]
      refine take_val 14 (.pointer (some ⟨gp, 0, none⟩)) rfl (by kernel_rfl) (by kernel_rfl) (by kernel_rfl) (fun _ _ _ h => h) rfl (fun V hV => by simp [go_sem]) hS0 ?_
      simp only [List.getElem_toArray, List.getElem_cons_zero, List.getElem_cons_succ, Act.put, List.setIfInBounds_toArray, List.set_cons_zero, List.set_cons_succ]
      refine take_val 15 (.slice (some ⟨g, off, none⟩) m d) rfl (by kernel_rfl) (by kernel_rfl) (by kernel_rfl) (fun _ _ _ h => h) rfl (fun V hV => by have c := KP0.at hV; simp [go_sem, c]) hS0 ?_
      simp only [List.getElem_toArray, List.getElem_cons_zero, List.getElem_cons_succ, Act.put, List.setIfInBounds_toArray, List.set_cons_zero, List.set_cons_succ]
      refine take_val 16 (.int .i64 k) rfl (by kernel_rfl) (by kernel_rfl) (by kernel_rfl) (fun _ _ _ h => h) rfl (fun V hV => by simp [go_sem]) hS0 ?_
      simp only [List.getElem_toArray, List.getElem_cons_zero, List.getElem_cons_succ, Act.put, List.setIfInBounds_toArray, List.set_cons_zero, List.set_cons_succ]
      refine take_val 17 (.pointer (some ⟨g, off + k * 2, none⟩)) rfl (by kernel_rfl) (by kernel_rfl) (by kernel_rfl) (fun _ _ _ h => h) rfl (fun V hV => by simp [go_sem, hlt']) hS0 ?_
      simp only [List.getElem_toArray, List.getElem_cons_zero, List.getElem_cons_succ, Act.put, List.setIfInBounds_toArray, List.set_cons_zero, List.set_cons_succ]
      refine take_val 18 (.pointer (some ⟨g, off + k * 2 + 1, none⟩)) rfl (by kernel_rfl) (by kernel_rfl) (by kernel_rfl) (fun _ _ _ h => h) rfl (fun V hV => by simp [go_sem]) hS0 ?_
      simp only [List.getElem_toArray, List.getElem_cons_zero, List.getElem_cons_succ, Act.put, List.setIfInBounds_toArray, List.set_cons_zero, List.set_cons_succ]
      refine take_val 19 (.int .i16 (x : Int)) rfl (by kernel_rfl) (by kernel_rfl) (by kernel_rfl) (fun _ _ _ h => h) rfl (fun V hV => by have c := KC1.at hV; simp [go_sem, c]) hS0 ?_
      simp only [List.getElem_toArray, List.getElem_cons_zero, List.getElem_cons_succ, Act.put, List.setIfInBounds_toArray, List.set_cons_zero, List.set_cons_succ]
      refine take_val 20 (.int .i64 (x : Int)) rfl (by kernel_rfl) (by kernel_rfl) (by kernel_rfl) (fun _ _ _ h => h) rfl (fun V hV => by simp [go_sem, q1]) hS0 ?_
      simp only [List.getElem_toArray, List.getElem_cons_zero, List.getElem_cons_succ, Act.put, List.setIfInBounds_toArray, List.set_cons_zero, List.set_cons_succ]
      refine step_call 10 25 #[.int .i64 f] (by kernel_rfl) rfl rfl (by simp [go_sem]) ?_
      refine (specDec_any f (by omega) _).mono ?_
      rintro e w3 ⟨rfl, hb3⟩
      refine ⟨_, rfl, hS0.trans (hb3.mono hS0.size), ?_⟩
      simp only [List.getElem_toArray, List.getElem_cons_zero, List.getElem_cons_succ, Act.put, List.setIfInBounds_toArray, List.set_cons_zero, List.set_cons_succ]
      have hS3 := hS0.trans (hb3.mono hS0.size)
      refine take_val 11 (.string (dg f ++ ⟨#[32]⟩)) rfl (by kernel_rfl) (by kernel_rfl) (by kernel_rfl) (fun _ _ _ h => h) rfl (fun V hV => by simp [go_sem, hz1]) hS3 ?_
      simp only [List.getElem_toArray, List.getElem_cons_zero, List.getElem_cons_succ, Act.put, List.setIfInBounds_toArray, List.set_cons_zero, List.set_cons_succ]
      refine step_call 21 25 #[.int .i64 x] (by kernel_rfl) rfl rfl (by simp [go_sem]) ?_
      refine (specDec_any x (by omega) _).mono ?_
      rintro e w4 ⟨rfl, hb4⟩
      refine ⟨_, rfl, hS3.trans (hb4.mono hS3.size), ?_⟩
      simp only [List.getElem_toArray, List.getElem_cons_zero, List.getElem_cons_succ, Act.put, List.setIfInBounds_toArray, List.set_cons_zero, List.set_cons_succ]
      have hS4 := hS3.trans (hb4.mono hS3.size)
      refine take_val 22 (.string (dg f ++ ⟨#[32]⟩ ++ dg x)) rfl (by kernel_rfl) (by kernel_rfl) (by kernel_rfl) (fun _ _ _ h => h) rfl (fun V hV => by simp [go_sem, hz2, hz2']) hS4 ?_
      simp only [List.getElem_toArray, List.getElem_cons_zero, List.getElem_cons_succ, Act.put, List.setIfInBounds_toArray, List.set_cons_zero, List.set_cons_succ]
      refine take_val 23 (.string (ln f x)) rfl (by kernel_rfl) (by kernel_rfl) (by kernel_rfl) (fun _ _ _ h => h) rfl (fun V hV => by simp [go_sem, hz3, hz3', HLN.out]) hS4 ?_
      simp only [List.getElem_toArray, List.getElem_cons_zero, List.getElem_cons_succ, Act.put, List.setIfInBounds_toArray, List.set_cons_zero, List.set_cons_succ]
      refine take_val 24 (.string (tk F S (k + 1))) rfl (by kernel_rfl) (by kernel_rfl) (by kernel_rfl) (fun _ _ _ h => h) rfl (fun V hV => by simp [go_sem, hz4, hz4', HSU.out]) hS4 ?_
      simp only [List.getElem_toArray, List.getElem_cons_zero, List.getElem_cons_succ, Act.put, List.setIfInBounds_toArray, List.set_cons_zero, List.set_cons_succ]
      refine take_val 25 (.string (tk F S (k + 1))) rfl (by kernel_rfl) (by kernel_rfl) (by kernel_rfl) (fun _ _ _ h => h) rfl (fun V hV => by simp [go_sem]) hS4 ?_
      simp only [List.getElem_toArray, List.getElem_cons_zero, List.getElem_cons_succ, Act.put, List.setIfInBounds_toArray, List.set_cons_zero, List.set_cons_succ]
      refine wpAnyH_done (by kernel_rfl) ?_ _
      have hbf := HB.out.trans (hS4.mono hszw)
      clear hS0 hS3 hS4 hb3 hb4
      go_wp2
      go_roundw
      case rel => exact ⟨hbf, k + 1, by omega, by go_num, rfl⟩
      case measure => simp [intOf]; omega
    · have hkm : m = k := by omega
      subst hkm
      have HE := Lib.hid (OwnB.nil wr wr.heap.size (Nat.le_refl _))
      go_wp2
      clear p0
      obtain ⟨U, rfl⟩ : ∃ U, U = wr := ⟨wr, rfl⟩
      go_loopw [5, 6] (fun v i w' => Below U.heap.size U w' ∧ ∃ k : Nat, k ≤ 48 ∧ i = .int .i64 k ∧ OwnB w' U.heap.size v (od O k)) (fun _ i _ => 48 - (intOf i).toNat)
      case atStart => exact ⟨(Below.refl _ _).alloc (Nat.le_refl _) _, 0, by omega, rfl, by rw [od_zero]; exact HE.out⟩
      case round =>
        clear HE
        obtain ⟨hb, k, hk, rfl, hown⟩ := hrel
        have HOWN := Lib.hid hown
        obtain ⟨vb, vc, rfl⟩ := OwnB.form hown
        clear hown
        replace KP := KP.on hb
        have hszw := hb.size
        have HB2 := Lib.hid hb; clear hb
        have hodl := od_len O k
        by_cases hlt : k < 48
        · have hk' : (k : Int) < 48 := by omega
          have ho := HO.out k
          have po := row_cell (1 + k) KP.here
          rw [pc_get b m d O k hlt] at po
          have hsu := od_succ O k
          by_cases h0 : O k < 0
          · have h0' : ¬ 0 ≤ O k := by omega
            have hob := ob_no h0
            rw [hob] at hsu
            have HSU := Lib.hid hsu
            clear hsu hob
            have hc : (wr.alloc (.cells #[.int .u8 46] 5)).cell? ⟨wr.heap.size, 0, none⟩ = some (.int .u8 ((46 : UInt8).toNat : Nat)) := row_cell 0 (heap_alloc_new wr _)
            have HC := Lib.hid hc; clear hc
            go_wp2_with (at_builtin; refine append_byte rfl _ _ rfl U.heap.size _ _ rfl (HOWN.out.alloc _) wr.heap.size 46 rfl HC.out (by omega) (by simp; omega) ?_; intro v2 w5 hown2 hb5; have HO5 := Lib.hid hown2; have HB5 := Lib.hid hb5; clear hown2 hb5)
            go_roundw
            case rel => exact ⟨(HB2.out.alloc hszw _).trans HB5.out, k + 1, by omega, by go_num, by rw [HSU.out]; exact HO5.out⟩
            case measure => simp [intOf]; omega
          · have h0' : 0 ≤ O k := by omega
            have ho2 := HORD.out k hlt
            have hob := ob_yes (x := O k) (by omega) (by omega)
            obtain ⟨y, hy⟩ : ∃ y, ob (O k) = y := ⟨_, rfl⟩
            rw [hy] at hob hsu
            have q8 := i8_id (x := 97 + O k) (by omega)
            have qu := u8_id (x := 97 + O k) (by omega)
            have hc : (wr.alloc (.cells #[.int .u8 (97 + O k)] 5)).cell? ⟨wr.heap.size, 0, none⟩ = some (.int .u8 (y.toNat : Nat)) := by rw [hob]; exact row_cell 0 (heap_alloc_new wr _)
            have HC := Lib.hid hc; have HSU := Lib.hid hsu
            clear hc hob hsu hy
            go_wp2_with (at_builtin; refine append_byte rfl _ _ rfl U.heap.size _ _ rfl (HOWN.out.alloc _) wr.heap.size y rfl HC.out (by omega) (by simp; omega) ?_; intro v2 w5 hown2 hb5; have HO5 := Lib.hid hown2; have HB5 := Lib.hid hb5; clear hown2 hb5)
            go_roundw
            case rel => exact ⟨(HB2.out.alloc hszw _).trans HB5.out, k + 1, by omega, by go_num, by rw [HSU.out]; exact HO5.out⟩
            case measure => simp [intOf]; omega
        · have hk48 : k = 48 := by omega
          subst hk48
          have hcv := conv_B HOWN.out
          rw [hodl] at hcv
          have htz := HSZ.out m (Nat.le_refl _)
          have hos : (⟨(od O 48).toArray⟩ : ByteArray).size = 48 := hodl
          have hz1 : ¬ 9223372036854775807 < (tk F S m).size + (⟨(od O 48).toArray⟩ : ByteArray).size := by omega
          have hz2 : ¬ 9223372036854775807 < (tk F S m).size + (⟨(od O 48).toArray⟩ : ByteArray).size + 1 := by omega
          have hz1' : (tk F S m).size + (⟨(od O 48).toArray⟩ : ByteArray).size ≤ 9223372036854775807 := by omega
          have hz2' : (tk F S m).size + (⟨(od O 48).toArray⟩ : ByteArray).size + 1 ≤ 9223372036854775807 := by omega
          have hz3 : ¬ 9223372036854775807 < (tk F S m).size + 48 := by omega
          have hz4 : ¬ 9223372036854775807 < (tk F S m).size + 48 + 1 := by omega
          have hz3' : (tk F S m).size + 48 ≤ 9223372036854775807 := by omega
          have hz4' : (tk F S m).size + 48 + 1 ≤ 9223372036854775807 := by omega
          clear htz
          go_wp2
          go_ret
          exact ⟨rfl, HB.out.trans (HB2.out.mono (by omega))⟩
set_option maxRecDepth 100000 in
set_option maxHeartbeats 4000000 in
theorem specProgrammeText_any (s : Int) (a : Option Addr) (n c : Nat) (P R : Nat → Int) (b : Option Addr) (m d : Nat) (F S O : Nat → Int) (w : World) (hs : -32768 ≤ s ∧ s ≤ 32767) (hn : n ≤ 1048576) (hP : I8 P) (hR : I8 R) (hh : HamAt w a n P R) (hm : m ≤ 1048576) (hF : I16 F) (hS : I16 S) (hO : I8 O) (hl : SecAt w b m F S) :
    Calls Tryd.prog 18 #[.agg #[.int .i16 s, .slice a n c], .agg (pc b m d O)] w fun e w' => e = .returned (.string (ptx s n P R m F S O)) ∧ Below w.heap.size w w' := by
  have HP := Lib.hid hP; have HR := Lib.hid hR; have HF := Lib.hid hF; have HS := Lib.hid hS; have HO := Lib.hid hO
  clear hP hR hF hS hO
  have KB := Kp.base w
  have KH := kp_ham hh; have KL := kp_sec hl; clear hh hl
  replace KB := KB.alloc (.cells #[.int .i16 s, .slice a n c] 48)
  replace KH := KH.alloc (.cells #[.int .i16 s, .slice a n c] 48)
  replace KL := KL.alloc (.cells #[.int .i16 s, .slice a n c] 48)
  have KF := kp_new1 w #[.int .i16 s, .slice a n c] 48 (g := w.heap.size) (by simp)
  replace KB := KB.alloc (.cells (pc b m d O) 52)
  replace KH := KH.alloc (.cells (pc b m d O) 52)
  replace KL := KL.alloc (.cells (pc b m d O) 52)
  replace KF := KF.alloc (.cells (pc b m d O) 52)
  have KP := kp_new1 (w.alloc (.cells #[.int .i16 s, .slice a n c] 48)) (pc b m d O) 52 (g := w.heap.size + 1) (by simp)
  have HZ := Lib.hid (show ((w.alloc (.cells #[.int .i16 s, .slice a n c] 48)).alloc (.cells (pc b m d O) 52)).heap.size = w.heap.size + 1 + 1 by simp)
  go_enter Tryd.func18, Tryd.ntmps18
  go_wp2_with fail
  generalize ((w.alloc (.cells #[.int .i16 s, .slice a n c] 48)).alloc (.cells (pc b m d O) 52)) = W at KB KH KL KF KP HZ ⊢
  clear HZ
  refine (l04Ok_any w.heap.size (w.heap.size + 1) s a n c P R b m d F S O W hs hn HP.out HR.out KF.here KH.here hm HF.out HS.out HO.out KP.here KL.here).mono ?_
  rintro e w1 ⟨rfl, hb1⟩
  replace KB := KB.on hb1
  replace KL := KL.on hb1
  replace KP := KP.on hb1
  clear hb1
  cases hv : vProg s n P R m F S O
  · have hnv := Lib.hid (ptx_no hv)
    clear hv
    go_wp2
    go_ret
    exact ⟨by rw [hnv.out]; rfl, KB.here⟩
  · have hnv := Lib.hid (ptx_yes hv)
    obtain ⟨hs2, hm2, hsec, hord⟩ := vProg_facts hv
    have HC := Lib.hid (l04Text_any (w.heap.size + 1) s b m d F S O w1 hs2 hm2 hsec hord HO.out KP.here KL.here)
    rw [← hnv.out] at HC
    clear hsec hord hv
    go_wp2_with fail
    refine HC.out.mono ?_
    rintro e w2 ⟨rfl, hb2⟩
    have hbb := KB.at hb2
    go_wp2
    go_ret
    exact ⟨rfl, hbb⟩
end Go.Proofs.YteboefffkpcnaaaDoor
