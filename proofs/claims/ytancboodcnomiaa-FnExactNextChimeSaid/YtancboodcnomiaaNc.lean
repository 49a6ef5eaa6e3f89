/- NextChime, by the reference and by the program. No conditions. -/
import Derived.Test.YtancboodcnomiaaSt
import Derived.Outline
namespace Go.Proofs.Ytancboodcnomiaa
open Go.RowKit
set_option linter.unusedVariables false
set_option linter.unusedSimpArgs false

/-- the first one of the k quarters behind q that plays section x -/
def ncGo (O : Nat → Int) (q : Nat) (x : Int) : Nat → Option Nat
  | 0 => none
  | k + 1 => match ncGo O q x k with
    | some j => some j
    | none => if O ((q + (k + 1)) % 48) = x then some ((q + (k + 1)) % 48) else none
theorem ncGo_zero (O : Nat → Int) (q : Nat) (x : Int) : ncGo O q x 0 = none := rfl
theorem ncGo_yes {O : Nat → Int} {q : Nat} {x : Int} {k : Nat} (h : ncGo O q x k = none) (h2 : O ((q + (k + 1)) % 48) = x) : ncGo O q x (k + 1) = some ((q + (k + 1)) % 48) := by simp only [ncGo, h, if_pos h2]
theorem ncGo_no {O : Nat → Int} {q : Nat} {x : Int} {k : Nat} (h : ncGo O q x k = none) (h2 : ¬ O ((q + (k + 1)) % 48) = x) : ncGo O q x (k + 1) = none := by simp only [ncGo, h, if_neg h2]
theorem ncGo_mono {O : Nat → Int} {q : Nat} {x : Int} {k j : Nat} (h : ncGo O q x k = some j) (n : Nat) : ncGo O q x (k + n) = some j := by
  induction n with
  | zero => exact h
  | succ n ih => rw [Nat.add_succ]; simp only [ncGo, ih]
theorem ncGo_found {O : Nat → Int} {q : Nat} {x : Int} {k : Nat} (hk : k < 48) (h : ncGo O q x k = none) (h2 : O ((q + (k + 1)) % 48) = x) : ncGo O q x 48 = some ((q + (k + 1)) % 48) := by
  have := ncGo_mono (ncGo_yes h h2) (48 - (k + 1))
  rwa [show k + 1 + (48 - (k + 1)) = 48 by omega] at this
attribute [irreducible] ncGo
def ncP (s : Int) (n : Nat) (P R : Nat → Int) (m : Nat) (F S O : Nat → Int) (q x : Int) : Int := pcode (vProg s n P R m F S O) (inB q 0 47 && inB x 0 ((m : Int) - 1))
def ncCode (s : Int) (n : Nat) (P R : Nat → Int) (m : Nat) (F S O : Nat → Int) (q x : Int) : Int := if ncP s n P R m F S O q x = 0 then (match ncGo O q.toNat x 48 with | some _ => 0 | none => 6) else ncP s n P R m F S O q x
def ncVal (s : Int) (n : Nat) (P R : Nat → Int) (m : Nat) (F S O : Nat → Int) (q x : Int) : Int := if ncP s n P R m F S O q x = 0 then (match ncGo O q.toNat x 48 with | some j => (j : Int) | none => 0) else 0
section
variable {s : Int} {n : Nat} {P R : Nat → Int} {m : Nat} {F S O : Nat → Int} {q x : Int}
theorem nc_no {z : Int} (h : ncP s n P R m F S O q x = z) (hz : ¬ z = 0) : ncVal s n P R m F S O q x = 0 ∧ ncCode s n P R m F S O q x = z := by
  subst h; exact ⟨if_neg hz, if_neg hz⟩
theorem nc_some {j : Nat} (h : ncP s n P R m F S O q x = 0) (hj : ncGo O q.toNat x 48 = some j) : ncVal s n P R m F S O q x = j ∧ ncCode s n P R m F S O q x = 0 := by
  unfold ncVal ncCode; rw [if_pos h, if_pos h, hj]; exact ⟨rfl, rfl⟩
theorem nc_none (h : ncP s n P R m F S O q x = 0) (hj : ncGo O q.toNat x 48 = none) : ncVal s n P R m F S O q x = 0 ∧ ncCode s n P R m F S O q x = 6 := by
  unfold ncVal ncCode; rw [if_pos h, if_pos h, hj]; exact ⟨rfl, rfl⟩
theorem ncP_def : ncP s n P R m F S O q x = pcode (vProg s n P R m F S O) (inB q 0 47 && inB x 0 ((m : Int) - 1)) := rfl
end
attribute [irreducible] ncP ncCode ncVal

theorem mod_nat (k b m : Nat) : ((k : Int) + (b : Int)) % (m : Int) = (((k + b) % m : Nat) : Int) := by rw [← Int.natCast_add, ← Int.natCast_emod]
theorem tmod_nat (k b m : Nat) : ((k : Int) + (b : Int)).tmod (m : Int) = (((k + b) % m : Nat) : Int) := by rw [← Int.natCast_add, ← Int.ofNat_tmod]
set_option maxRecDepth 100000 in
theorem implNextChime_any (s : Int) (a : Option Addr) (n c : Nat) (P R : Nat → Int) (b : Option Addr) (m d : Nat) (F S O : Nat → Int) (q x : Int) (w : World) (hs : -32768 ≤ s ∧ s ≤ 32767) (hn : n ≤ 1048576) (hP : I8 P) (hR : I8 R) (hh : HamAt w a n P R) (hm : m ≤ 1048576) (hF : I16 F) (hS : I16 S) (hO : I8 O) (hl : SecAt w b m F S) (hq : -9223372036854775808 ≤ q ∧ q ≤ 9223372036854775807) (hx : -9223372036854775808 ≤ x ∧ x ≤ 9223372036854775807) :
    Calls Try.prog 29 #[.agg #[.int .i16 s, .slice a n c], .agg (pc b m d O), .int .i64 q, .int .i64 x] w fun e w' => e = .returned (.tuple #[.int .i64 (ncVal s n P R m F S O q x), .int .i64 (ncCode s n P R m F S O q x)]) ∧ Below w.heap.size w w' := by
  have HP := Lib.hid hP; have HR := Lib.hid hR; have HF := Lib.hid hF; have HS := Lib.hid hS; have HO := Lib.hid hO
  clear hP hR hF hS hO
  have KB := Kp.base w
  have KH := kp_ham hh; have KL := kp_sec hl; clear hh hl
  replace KB := KB.alloc (.cells #[.int .i16 s, .slice a n c] 33)
  replace KH := KH.alloc (.cells #[.int .i16 s, .slice a n c] 33)
  replace KL := KL.alloc (.cells #[.int .i16 s, .slice a n c] 33)
  have KF := kp_new1 w #[.int .i16 s, .slice a n c] 33 (g := w.heap.size) (by simp)
  replace KB := KB.alloc (.cells (pc b m d O) 49)
  replace KH := KH.alloc (.cells (pc b m d O) 49)
  replace KL := KL.alloc (.cells (pc b m d O) 49)
  replace KF := KF.alloc (.cells (pc b m d O) 49)
  have KP := kp_new1 (w.alloc (.cells #[.int .i16 s, .slice a n c] 33)) (pc b m d O) 49 (g := w.heap.size + 1) (by simp)
  have HZ := Lib.hid (show ((w.alloc (.cells #[.int .i16 s, .slice a n c] 33)).alloc (.cells (pc b m d O) 49)).heap.size = w.heap.size + 1 + 1 by simp)
  go_enter Try.func29, Try.ntmps29
  go_wp2_with (first | (with_reducible refine load_iframe rfl _ rfl w.heap.size rfl _ s a n c KF.here ?_) | (with_reducible refine load_iprog rfl _ rfl (w.heap.size + 1) rfl _ b m d O KP.here ?_))
  generalize ((w.alloc (.cells #[.int .i16 s, .slice a n c] 33)).alloc (.cells (pc b m d O) 49)) = W at KB KH KL KF KP HZ ⊢
  have hq1 := (kp_int (IntAt.one W q 2 (fun _ => q) rfl)).alloc (.cells #[.int .i64 x] 2)
  have hq2 := IntAt.one (W.alloc (.cells #[.int .i64 q] 2)) x 2 (fun _ => x) rfl
  rw [show (W.alloc (.cells #[.int .i64 q] 2)).heap.size = W.heap.size + 1 by simp] at hq2
  rw [HZ.out] at hq1 hq2
  clear HZ
  replace KB := KB.alloc (.cells #[.int .i64 q] 2)
  replace KH := KH.alloc (.cells #[.int .i64 q] 2)
  replace KL := KL.alloc (.cells #[.int .i64 q] 2)
  replace KF := KF.alloc (.cells #[.int .i64 q] 2)
  replace KP := KP.alloc (.cells #[.int .i64 q] 2)
  replace KB := KB.alloc (.cells #[.int .i64 x] 2)
  replace KH := KH.alloc (.cells #[.int .i64 x] 2)
  replace KL := KL.alloc (.cells #[.int .i64 x] 2)
  replace KF := KF.alloc (.cells #[.int .i64 x] 2)
  replace KP := KP.alloc (.cells #[.int .i64 x] 2)
  refine (programmeCode_any s a n c P R b m d F S O _ 1 1 (fun _ => q) _ 1 1 (fun _ => x) _ hs hn HP.out HR.out KH.here hm HF.out HS.out HO.out KL.here (by omega) hq1.here (by omega) hq2).mono ?_
  rw [allIn_one, allIn_one, ← ncP_def]
  rintro e w1 ⟨rfl, hb1⟩
  replace KB := KB.on hb1
  replace KP := KP.on hb1
  clear hb1 hq1 hq2
  obtain ⟨z, hz⟩ : ∃ z, ncP s n P R m F S O q x = z := ⟨_, rfl⟩
  rw [hz]
  by_cases h0 : z = 0
  · subst h0
    have hcd := hz
    rw [ncP_def] at hz
    obtain ⟨hv, hbb⟩ := pcode_zero hz
    rw [Bool.and_eq_true] at hbb
    have hq0 := inB_iff.1 hbb.1
    clear hz hv hbb
    obtain ⟨q, rfl⟩ : ∃ k : Nat, q = k := ⟨q.toNat, by omega⟩
    · skip
      go_wp2_with fail
      go_loopw [11] (fun i w' => Below w1.heap.size w1 w' ∧ ∃ k : Nat, k ≤ 48 ∧ i = .int .i64 ((k : Int) + 1) ∧ ncGo O q x k = none) (fun i _ => 49 - (intOf i).toNat)
      case atStart => exact ⟨Below.refl _ _, 0, by omega, rfl, ncGo_zero _ _ _⟩
      case round =>
        obtain ⟨hb, k, hk, rfl, hK⟩ := hrel
        replace KB := KB.on hb
        replace KP := KP.on hb
        by_cases hlt : k < 48
        · have hq3 := Nat.mod_lt (q + (k + 1)) (show 0 < 48 by omega)
          have hmod := mod_nat q (k + 1) 48
          have hmod' := tmod_nat q (k + 1) 48
          have hfnd := ncGo_found (O := O) (x := x) hlt hK
          have hnof := ncGo_no (O := O) (x := x) hK
          obtain ⟨r, hr⟩ : ∃ r, (q + (k + 1)) % 48 = r := ⟨_, rfl⟩
          rw [hr] at hq3 hmod hmod' hfnd hnof
          clear hr
          rw [show (q : Int) + ((k + 1 : Nat) : Int) = (q : Int) + ((k : Int) + 1) by omega] at hmod hmod'
          have HK := Lib.hid hK; clear hK
          have HFN := Lib.hid hfnd; have HNO := Lib.hid hnof; clear hfnd hnof
          have c0 : wr.cell? ⟨w.heap.size + 1, 1 + r, none⟩ = some (.int .i8 (O r)) := by rw [row_cell (1 + r) KP.here, pc_get _ _ _ _ r hq3]
          have ho := HO.out r
          have q4 := i64_id (x := O r) (by omega)
          have q5 := i64_id (x := (q : Int) + ((k : Int) + 1)) (by omega)
          have hr48 : (r : Int) < 48 := by omega
          have hk48 : (k : Int) + 1 ≤ 48 := by omega
          have hmod48 : ((q : Int) + ((k : Int) + 1)) % 48 = r := hmod
          have hmod48' : ((q : Int) + ((k : Int) + 1)).tmod 48 = r := hmod'
          by_cases he : O r = x
          · have hnv := Lib.hid (nc_some hcd (HFN.out he))
            clear hcd
            subst he
            go_wp2
            go_ret2
            exact ⟨by rw [hnv.out.1, hnv.out.2]; rfl, KB.here⟩
          · have hn := Lib.hid (HNO.out he)
            clear hcd
            go_wp2
            go_roundw
            case rel => exact ⟨hb, k + 1, by omega, by go_num, hn.out⟩
            case measure => simp [intOf]; omega
        · have hk48 : k = 48 := by omega
          subst hk48
          have hnv := Lib.hid (nc_none hcd hK)
          clear hcd hK
          go_wp2
          go_ret2
          exact ⟨by rw [hnv.out.1, hnv.out.2]; rfl, KB.here⟩
  · have hnv := Lib.hid (nc_no hz h0)
    clear hz
    go_wp2
    go_ret2
    exact ⟨by rw [hnv.out.1, hnv.out.2]; rfl, KB.here⟩
set_option maxRecDepth 100000 in
theorem specNextChime_any (s : Int) (a : Option Addr) (n c : Nat) (P R : Nat → Int) (b : Option Addr) (m d : Nat) (F S O : Nat → Int) (q x : Int) (w : World) (hs : -32768 ≤ s ∧ s ≤ 32767) (hn : n ≤ 1048576) (hP : I8 P) (hR : I8 R) (hh : HamAt w a n P R) (hm : m ≤ 1048576) (hF : I16 F) (hS : I16 S) (hO : I8 O) (hl : SecAt w b m F S) (hq : -9223372036854775808 ≤ q ∧ q ≤ 9223372036854775807) (hx : -9223372036854775808 ≤ x ∧ x ≤ 9223372036854775807) :
    Calls Try.prog 28 #[.agg #[.int .i16 s, .slice a n c], .agg (pc b m d O), .int .i64 q, .int .i64 x] w fun e w' => e = .returned (.tuple #[.int .i64 (ncVal s n P R m F S O q x), .int .i64 (ncCode s n P R m F S O q x)]) ∧ Below w.heap.size w w' := by
  have HP := Lib.hid hP; have HR := Lib.hid hR; have HF := Lib.hid hF; have HS := Lib.hid hS; have HO := Lib.hid hO
  clear hP hR hF hS hO
  have KB := Kp.base w
  have KH := kp_ham hh; have KL := kp_sec hl; clear hh hl
  replace KB := KB.alloc (.cells #[.int .i16 s, .slice a n c] 33)
  replace KH := KH.alloc (.cells #[.int .i16 s, .slice a n c] 33)
  replace KL := KL.alloc (.cells #[.int .i16 s, .slice a n c] 33)
  have KF := kp_new1 w #[.int .i16 s, .slice a n c] 33 (g := w.heap.size) (by simp)
  replace KB := KB.alloc (.cells (pc b m d O) 49)
  replace KH := KH.alloc (.cells (pc b m d O) 49)
  replace KL := KL.alloc (.cells (pc b m d O) 49)
  replace KF := KF.alloc (.cells (pc b m d O) 49)
  have KP := kp_new1 (w.alloc (.cells #[.int .i16 s, .slice a n c] 33)) (pc b m d O) 49 (g := w.heap.size + 1) (by simp)
  have HZ := Lib.hid (show ((w.alloc (.cells #[.int .i16 s, .slice a n c] 33)).alloc (.cells (pc b m d O) 49)).heap.size = w.heap.size + 1 + 1 by simp)
  go_enter Try.func28, Try.ntmps28
  go_wp2_with fail
  generalize ((w.alloc (.cells #[.int .i16 s, .slice a n c] 33)).alloc (.cells (pc b m d O) 49)) = W at KB KH KL KF KP HZ ⊢
  clear HZ
  refine (l04Ok_any w.heap.size (w.heap.size + 1) s a n c P R b m d F S O W hs hn HP.out HR.out KF.here KH.here hm HF.out HS.out HO.out KP.here KL.here).mono ?_
  rintro e w1 ⟨rfl, hb1⟩
  replace KB := KB.on hb1
  replace KP := KP.on hb1
  clear hb1
  have hcd := @ncP_def s n P R m F S O q x
  have p0 := row_cell 0 KP.here
  rw [pc_get0] at p0
  cases hv : vProg s n P R m F S O
  · rw [hv, pcode_f] at hcd
    have hnv := Lib.hid (nc_no hcd (by simp))
    clear hcd hv
    go_wp2
    go_ret2
    exact ⟨by rw [hnv.out.1, hnv.out.2]; rfl, KB.here⟩
  · obtain ⟨hs2, hm2, _, _⟩ := vProg_facts hv
    rw [hv] at hcd
    clear hv
    have q3 := i64_id (x := (m : Int) - 1) (by omega)
    by_cases h1 : 0 ≤ q ∧ q ≤ 47
    · have h1' := inB_true h1
      by_cases h2 : 0 ≤ x ∧ x ≤ (m : Int) - 1
      · have h2' := inB_true h2
        rw [h1', h2', Bool.and_self, pcode_tt] at hcd
        obtain ⟨q, rfl⟩ : ∃ k : Nat, q = k := ⟨q.toNat, by omega⟩
        go_wp2_with (first | (go_at_call 73; refine (l00In_any _ _ _ _).mono ?_; rintro e w2 ⟨rfl, rfl⟩) | (go_at_call 82; refine (l04Quarter_any _ _).mono ?_; rintro e w2 ⟨rfl, rfl⟩))
        go_loopw [10] (fun i w' => Below w1.heap.size w1 w' ∧ ∃ k : Nat, k ≤ 48 ∧ i = .int .i64 ((k : Int) + 1) ∧ ncGo O q x k = none) (fun i _ => 49 - (intOf i).toNat)
        case atStart => exact ⟨Below.refl _ _, 0, by omega, rfl, ncGo_zero _ _ _⟩
        case round =>
          obtain ⟨hb, k, hk, rfl, hK⟩ := hrel
          replace KB := KB.on hb
          replace KP := KP.on hb
          by_cases hlt : k < 48
          · have hq3 := Nat.mod_lt (q + (k + 1)) (show 0 < 48 by omega)
            have hmod := mod_nat q (k + 1) 48
            have hmod' := tmod_nat q (k + 1) 48
            have hfnd := ncGo_found (O := O) (x := x) hlt hK
            have hnof := ncGo_no (O := O) (x := x) hK
            obtain ⟨r, hr⟩ : ∃ r, (q + (k + 1)) % 48 = r := ⟨_, rfl⟩
            rw [hr] at hq3 hmod hmod' hfnd hnof
            clear hr
            rw [show (q : Int) + ((k + 1 : Nat) : Int) = (q : Int) + ((k : Int) + 1) by omega] at hmod hmod'
            have HK := Lib.hid hK; clear hK
            have HFN := Lib.hid hfnd; have HNO := Lib.hid hnof; clear hfnd hnof
            have c0 : wr.cell? ⟨w.heap.size + 1, 1 + r, none⟩ = some (.int .i8 (O r)) := by rw [row_cell (1 + r) KP.here, pc_get _ _ _ _ r hq3]
            have ho := HO.out r
            have q4 := i64_id (x := O r) (by omega)
            have q5 := i64_id (x := (q : Int) + ((k : Int) + 1)) (by omega)
            have hr48 : (r : Int) < 48 := by omega
            have hk48 : (k : Int) + 1 ≤ 48 := by omega
            have hmod48 : ((q : Int) + ((k : Int) + 1)) % 48 = r := hmod
            have hmod48' : ((q : Int) + ((k : Int) + 1)).tmod 48 = r := hmod'
            by_cases he : O r = x
            · have hnv := Lib.hid (nc_some hcd (HFN.out he))
              clear hcd
              subst he
              go_wp2
              go_ret2
              exact ⟨by rw [hnv.out.1, hnv.out.2]; rfl, KB.here⟩
            · have hn := Lib.hid (HNO.out he)
              clear hcd
              go_wp2
              go_roundw
              case rel => exact ⟨hb, k + 1, by omega, by go_num, hn.out⟩
              case measure => simp [intOf]; omega
          · have hk48 : k = 48 := by omega
            subst hk48
            have hnv := Lib.hid (nc_none hcd hK)
            clear hcd hK
            go_wp2
            go_ret2
            exact ⟨by rw [hnv.out.1, hnv.out.2]; rfl, KB.here⟩
      · have h2' := inB_false h2
        rw [h1', h2', Bool.and_false, pcode_tf] at hcd
        have hnv := Lib.hid (nc_no hcd (by simp))
        clear hcd
        go_wp2_with (first | (go_at_call 73; refine (l00In_any _ _ _ _).mono ?_; rintro e w2 ⟨rfl, rfl⟩) | (go_at_call 82; refine (l04Quarter_any _ _).mono ?_; rintro e w2 ⟨rfl, rfl⟩))
        go_ret2
        exact ⟨by rw [hnv.out.1, hnv.out.2]; rfl, KB.here⟩
    · have h1' := inB_false h1
      rw [h1', Bool.false_and, pcode_tf] at hcd
      have hnv := Lib.hid (nc_no hcd (by simp))
      clear hcd
      go_wp2_with (first | (go_at_call 73; refine (l00In_any _ _ _ _).mono ?_; rintro e w2 ⟨rfl, rfl⟩) | (go_at_call 82; refine (l04Quarter_any _ _).mono ?_; rintro e w2 ⟨rfl, rfl⟩))
      go_ret2
      exact ⟨by rw [hnv.out.1, hnv.out.2]; rfl, KB.here⟩
end Go.Proofs.Ytancboodcnomiaa
