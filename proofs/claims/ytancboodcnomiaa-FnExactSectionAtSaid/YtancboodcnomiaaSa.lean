/- SectionAt, by the reference and by the program. No conditions. -/
import Derived.Test.YtancboodcnomiaaSt
import Derived.Outline
namespace Go.Proofs.Ytancboodcnomiaa
open Go.RowKit
set_option linter.unusedVariables false
set_option linter.unusedSimpArgs false

/-- step t lies in section k -/
def saIn (F S : Nat → Int) (t : Int) (k : Nat) : Bool := decide (F k ≤ t ∧ t < F k + S k)
/-- the first one of k sections in which step t lies -/
def saGo (F S : Nat → Int) (t : Int) : Nat → Option Nat
  | 0 => none
  | k + 1 => match saGo F S t k with
    | some j => some j
    | none => if saIn F S t k then some k else none
theorem saGo_zero (F S : Nat → Int) (t : Int) : saGo F S t 0 = none := rfl
theorem saGo_yes {F S : Nat → Int} {t : Int} {k : Nat} (h : saGo F S t k = none) (h2 : saIn F S t k = true) : saGo F S t (k + 1) = some k := by simp only [saGo, h, if_pos h2]
theorem saGo_no {F S : Nat → Int} {t : Int} {k : Nat} (h : saGo F S t k = none) (h2 : saIn F S t k = false) : saGo F S t (k + 1) = none := by simp only [saGo, h, h2]; rfl
theorem saGo_mono {F S : Nat → Int} {t : Int} {k j : Nat} (h : saGo F S t k = some j) (n : Nat) : saGo F S t (k + n) = some j := by
  induction n with
  | zero => exact h
  | succ n ih => rw [Nat.add_succ]; simp only [saGo, ih]
theorem saGo_found {F S : Nat → Int} {t : Int} {k m : Nat} (hk : k < m) (h : saGo F S t k = none) (h2 : saIn F S t k = true) : saGo F S t m = some k := by
  have := saGo_mono (saGo_yes h h2) (m - (k + 1))
  rwa [show k + 1 + (m - (k + 1)) = m by omega] at this
theorem saIn_t {F S : Nat → Int} {t : Int} {k : Nat} (h : F k ≤ t ∧ t < F k + S k) : saIn F S t k = true := decide_eq_true h
theorem saIn_f {F S : Nat → Int} {t : Int} {k : Nat} (h : ¬ (F k ≤ t ∧ t < F k + S k)) : saIn F S t k = false := decide_eq_false h
attribute [irreducible] saIn saGo
def saRes (s : Int) (n : Nat) (P R : Nat → Int) (m : Nat) (F S O : Nat → Int) (t : Int) : Int × Int :=
  if vProg s n P R m F S O then (if inB t 0 (s - 1) then (match saGo F S t m with | some j => ((j : Int), 0) | none => (0, 6)) else (0, 2)) else (0, 1)
def saVal (s : Int) (n : Nat) (P R : Nat → Int) (m : Nat) (F S O : Nat → Int) (t : Int) : Int := (saRes s n P R m F S O t).1
def saCode (s : Int) (n : Nat) (P R : Nat → Int) (m : Nat) (F S O : Nat → Int) (t : Int) : Int := (saRes s n P R m F S O t).2
section
variable {s : Int} {n : Nat} {P R : Nat → Int} {m : Nat} {F S O : Nat → Int} {t : Int}
theorem sa_1 (h : vProg s n P R m F S O = false) : saVal s n P R m F S O t = 0 ∧ saCode s n P R m F S O t = 1 := by
  unfold saVal saCode saRes; rw [h]; exact ⟨rfl, rfl⟩
theorem sa_2 (h : vProg s n P R m F S O = true) (h2 : inB t 0 (s - 1) = false) : saVal s n P R m F S O t = 0 ∧ saCode s n P R m F S O t = 2 := by
  unfold saVal saCode saRes; rw [h, h2]; exact ⟨rfl, rfl⟩
theorem sa_some {j : Nat} (h : vProg s n P R m F S O = true) (h2 : inB t 0 (s - 1) = true) (h3 : saGo F S t m = some j) : saVal s n P R m F S O t = j ∧ saCode s n P R m F S O t = 0 := by
  unfold saVal saCode saRes; rw [h, h2, h3]; exact ⟨rfl, rfl⟩
theorem sa_none (h : vProg s n P R m F S O = true) (h2 : inB t 0 (s - 1) = true) (h3 : saGo F S t m = none) : saVal s n P R m F S O t = 0 ∧ saCode s n P R m F S O t = 6 := by
  unfold saVal saCode saRes; rw [h, h2, h3]; exact ⟨rfl, rfl⟩
end
attribute [irreducible] saRes saVal saCode

set_option maxRecDepth 100000 in
theorem specSectionAt_any (s : Int) (a : Option Addr) (n c : Nat) (P R : Nat → Int) (b : Option Addr) (m d : Nat) (F S O : Nat → Int) (t : Int) (w : World) (hs : -32768 ≤ s ∧ s ≤ 32767) (hn : n ≤ 1048576) (hP : I8 P) (hR : I8 R) (hh : HamAt w a n P R) (hm : m ≤ 1048576) (hF : I16 F) (hS : I16 S) (hO : I8 O) (hl : SecAt w b m F S) (ht : -9223372036854775808 ≤ t ∧ t ≤ 9223372036854775807) :
    Calls Try.prog 30 #[.agg #[.int .i16 s, .slice a n c], .agg (pc b m d O), .int .i64 t] w fun e w' => e = .returned (.tuple #[.int .i64 (saVal s n P R m F S O t), .int .i64 (saCode s n P R m F S O t)]) ∧ Below w.heap.size w w' := by
  have HP := Lib.hid hP; have HR := Lib.hid hR; have HF := Lib.hid hF; have HS := Lib.hid hS; have HO := Lib.hid hO
  clear hP hR hF hS hO
  have KB := Kp.base w
  have KH := kp_ham hh; have KL := kp_sec hl; clear hh hl
  replace KB := KB.alloc (.cells #[.int .i16 s, .slice a n c] 33)
  replace KH := KH.alloc (.cells #[.int .i16 s, .slice a n c] 33)
  replace KL := KL.alloc (.cells #[.int .i16 s, .slice a n c] 33)
  have KF := kp_new1 w #[.int .i16 s, .slice a n c] 33 (g := w.heap.size) (by simp)
  replace KB := KB.alloc (.cells (pc b m d O) 49)
  replace KH := KH.alloc (.cells (pc b m d O) 49)
  replace KL := KL.alloc (.cells (pc b m d O) 49)
  replace KF := KF.alloc (.cells (pc b m d O) 49)
  have KP := kp_new1 (w.alloc (.cells #[.int .i16 s, .slice a n c] 33)) (pc b m d O) 49 (g := w.heap.size + 1) (by simp)
  have HZ := Lib.hid (show ((w.alloc (.cells #[.int .i16 s, .slice a n c] 33)).alloc (.cells (pc b m d O) 49)).heap.size = w.heap.size + 1 + 1 by simp)
  go_enter Try.func30, Try.ntmps30
  go_wp2_with fail
  generalize ((w.alloc (.cells #[.int .i16 s, .slice a n c] 33)).alloc (.cells (pc b m d O) 49)) = W at KB KH KL KF KP HZ ⊢
  clear HZ
  refine (l04Ok_any w.heap.size (w.heap.size + 1) s a n c P R b m d F S O W hs hn HP.out HR.out KF.here KH.here hm HF.out HS.out HO.out KP.here KL.here).mono ?_
  rintro e w1 ⟨rfl, hb1⟩
  replace KB := KB.on hb1
  replace KL := KL.on hb1
  replace KF := KF.on hb1
  replace KP := KP.on hb1
  clear hb1
  cases hv : vProg s n P R m F S O
  · have hnv := Lib.hid (sa_1 (t := t) hv)
    clear hv
    go_wp2
    go_ret2
    exact ⟨by rw [hnv.out.1, hnv.out.2]; rfl, KB.here⟩
  · obtain ⟨hs2, hm2, hsec, _⟩ := vProg_facts hv
    have HSEC := Lib.hid hsec; clear hsec
    have d0 := row_cell 0 KF.here
    have q1 := i64_id (x := s) (by omega)
    have q2 := i64_id (x := s - 1) (by omega)
    by_cases h1 : 0 ≤ t ∧ t ≤ s - 1
    · have h1' := inB_true h1
      have hsm := fun j => sa_some (s := s) (n := n) (P := P) (R := R) (m := m) (F := F) (S := S) (O := O) (t := t) (j := j) hv h1'
      have hnn := sa_none (s := s) (n := n) (P := P) (R := R) (m := m) (F := F) (S := S) (O := O) (t := t) hv h1'
      have HSM := Lib.hid hsm; have HNN := Lib.hid hnn; clear hsm hnn hv
      have p0 := row_cell 0 KP.here
      rw [pc_get0] at p0
      go_wp2_with (go_at_call 73; refine (l00In_any _ _ _ _).mono ?_; rintro e w2 ⟨rfl, rfl⟩)
      clear d0 p0
      go_loopw [8] (fun i w' => Below w1.heap.size w1 w' ∧ ∃ k : Nat, k ≤ m ∧ i = .int .i64 k ∧ saGo F S t k = none) (fun i _ => m - (intOf i).toNat)
      case atStart => exact ⟨Below.refl _ _, 0, by omega, rfl, saGo_zero _ _ _⟩
      case round =>
        obtain ⟨hb, k, hk, rfl, hK⟩ := hrel
        replace KB := KB.on hb
        replace KP := KP.on hb
        replace KL := KL.on hb
        have p0 := row_cell 0 KP.here
        rw [pc_get0] at p0
        by_cases hlt : k < m
        · have hk' : (k : Int) < m := by omega
          have hx := SecAt.get KL.here (show 0 < m by omega)
          obtain ⟨g, off, rfl, hg, hc⟩ := hx
          have c0 := (hc k hlt).1
          have c1 := (hc k hlt).2
          clear hc
          have hfk := HSEC.out k hlt
          have hf2 := HF.out k
          have hs3 := HS.out k
          have q3 := i64_id (x := F k) (by omega)
          have q4 := i64_id (x := S k) (by omega)
          have q5 := i64_id (x := F k + S k) (by omega)
          by_cases h2 : F k ≤ t
          · by_cases h3 : t < F k + S k
            · have hnv := Lib.hid (HSM.out k (saGo_found hlt hK (saIn_t ⟨h2, h3⟩)))
              clear hK
              go_wp2
              go_ret2
              exact ⟨by rw [hnv.out.1, hnv.out.2]; rfl, KB.here⟩
            · have hn := Lib.hid (saGo_no hK (saIn_f fun h => h3 h.2))
              clear hK
              go_wp2
              go_roundw
              case rel => exact ⟨hb, k + 1, by omega, by go_num, hn.out⟩
              case measure => simp [intOf]; omega
          · have hn := Lib.hid (saGo_no hK (saIn_f fun h => h2 h.1))
            clear hK
            go_wp2
            go_roundw
            case rel => exact ⟨hb, k + 1, by omega, by go_num, hn.out⟩
            case measure => simp [intOf]; omega
        · have hkm : k = m := by omega
          subst hkm
          have hnv := Lib.hid (HNN.out hK)
          clear hK
          go_wp2
          go_ret2
          exact ⟨by rw [hnv.out.1, hnv.out.2]; rfl, KB.here⟩
    · have h1' := inB_false h1
      have hnv := Lib.hid (sa_2 hv h1')
      clear hv
      go_wp2_with (go_at_call 73; refine (l00In_any _ _ _ _).mono ?_; rintro e w2 ⟨rfl, rfl⟩)
      go_ret2
      exact ⟨by rw [hnv.out.1, hnv.out.2]; rfl, KB.here⟩
set_option maxRecDepth 100000 in
theorem implSectionAt_any (s : Int) (a : Option Addr) (n c : Nat) (P R : Nat → Int) (b : Option Addr) (m d : Nat) (F S O : Nat → Int) (t : Int) (w : World) (hs : -32768 ≤ s ∧ s ≤ 32767) (hn : n ≤ 1048576) (hP : I8 P) (hR : I8 R) (hh : HamAt w a n P R) (hm : m ≤ 1048576) (hF : I16 F) (hS : I16 S) (hO : I8 O) (hl : SecAt w b m F S) (ht : -9223372036854775808 ≤ t ∧ t ≤ 9223372036854775807) :
    Calls Try.prog 31 #[.agg #[.int .i16 s, .slice a n c], .agg (pc b m d O), .int .i64 t] w fun e w' => e = .returned (.tuple #[.int .i64 (saVal s n P R m F S O t), .int .i64 (saCode s n P R m F S O t)]) ∧ Below w.heap.size w w' := by
  have HP := Lib.hid hP; have HR := Lib.hid hR; have HF := Lib.hid hF; have HS := Lib.hid hS; have HO := Lib.hid hO
  clear hP hR hF hS hO
  have KB := Kp.base w
  have KH := kp_ham hh; have KL := kp_sec hl; clear hh hl
  replace KB := KB.alloc (.cells #[.int .i16 s, .slice a n c] 33)
  replace KH := KH.alloc (.cells #[.int .i16 s, .slice a n c] 33)
  replace KL := KL.alloc (.cells #[.int .i16 s, .slice a n c] 33)
  have KF := kp_new1 w #[.int .i16 s, .slice a n c] 33 (g := w.heap.size) (by simp)
  replace KB := KB.alloc (.cells (pc b m d O) 49)
  replace KH := KH.alloc (.cells (pc b m d O) 49)
  replace KL := KL.alloc (.cells (pc b m d O) 49)
  replace KF := KF.alloc (.cells (pc b m d O) 49)
  have KP := kp_new1 (w.alloc (.cells #[.int .i16 s, .slice a n c] 33)) (pc b m d O) 49 (g := w.heap.size + 1) (by simp)
  have HZ := Lib.hid (show ((w.alloc (.cells #[.int .i16 s, .slice a n c] 33)).alloc (.cells (pc b m d O) 49)).heap.size = w.heap.size + 1 + 1 by simp)
  go_enter Try.func31, Try.ntmps31
  go_wp2_with (first | (with_reducible refine load_iframe rfl _ rfl w.heap.size rfl _ s a n c KF.here ?_) | (with_reducible refine load_iprog rfl _ rfl (w.heap.size + 1) rfl _ b m d O KP.here ?_))
  generalize ((w.alloc (.cells #[.int .i16 s, .slice a n c] 33)).alloc (.cells (pc b m d O) 49)) = W at KB KH KL KF KP HZ ⊢
  clear HZ
  refine (programmeCode_any s a n c P R b m d F S O none 0 0 (fun _ => 0) none 0 0 (fun _ => 0) W hs hn HP.out HR.out KH.here hm HF.out HS.out HO.out KL.here (by omega) (IntAt.nil _ _) (by omega) (IntAt.nil _ _)).mono ?_
  rw [allIn_zero, allIn_zero, Bool.and_self]
  rintro e w1 ⟨rfl, hb1⟩
  replace KB := KB.on hb1
  replace KL := KL.on hb1
  replace KF := KF.on hb1
  replace KP := KP.on hb1
  clear hb1
  cases hv : vProg s n P R m F S O
  · rw [pcode_f]
    have hnv := Lib.hid (sa_1 (t := t) hv)
    clear hv
    go_wp2
    go_ret2
    exact ⟨by rw [hnv.out.1, hnv.out.2]; rfl, KB.here⟩
  · rw [pcode_tt]
    obtain ⟨hs2, hm2, hsec, _⟩ := vProg_facts hv
    have HSEC := Lib.hid hsec; clear hsec
    have d0 := row_cell 0 KF.here
    have q1 := i64_id (x := s) (by omega)
    have q2 := i64_id (x := s - 1) (by omega)
    by_cases h1 : 0 ≤ t ∧ t ≤ s - 1
    · have h1' := inB_true h1
      have hsm := fun j => sa_some (s := s) (n := n) (P := P) (R := R) (m := m) (F := F) (S := S) (O := O) (t := t) (j := j) hv h1'
      have hnn := sa_none (s := s) (n := n) (P := P) (R := R) (m := m) (F := F) (S := S) (O := O) (t := t) hv h1'
      have HSM := Lib.hid hsm; have HNN := Lib.hid hnn; clear hsm hnn hv
      have p0 := row_cell 0 KP.here
      rw [pc_get0] at p0
      go_wp2_with (go_at_call 78; refine (within_any _ _ _ _).mono ?_; rintro e w2 ⟨rfl, rfl⟩)
      clear d0 p0
      go_loopw [27] (fun i w' => Below w1.heap.size w1 w' ∧ ∃ k : Nat, k ≤ m ∧ i = .int .i64 k ∧ saGo F S t k = none) (fun i _ => m - (intOf i).toNat)
      case atStart => exact ⟨Below.refl _ _, 0, by omega, rfl, saGo_zero _ _ _⟩
      case round =>
        obtain ⟨hb, k, hk, rfl, hK⟩ := hrel
        replace KB := KB.on hb
        replace KL := KL.on hb
        by_cases hlt : k < m
        · have hk' : (k : Int) < m := by omega
          have hx := SecAt.get KL.here (show 0 < m by omega)
          obtain ⟨g, off, rfl, hg, hc⟩ := hx
          have c0 := (hc k hlt).1
          have c1 := (hc k hlt).2
          clear hc
          have hfk := HSEC.out k hlt
          have hf2 := HF.out k
          have hs3 := HS.out k
          have q3 := i64_id (x := F k) (by omega)
          have q4 := i64_id (x := S k) (by omega)
          have q5 := i64_id (x := t - F k) (by omega)
          have q6 := i64_id (x := S k - 1) (by omega)
          have hba := Lib.hid (KB.alloc (.cells #[.int .i16 (F k), .int .i16 (S k)] 105)).here
          have hbb := Lib.hid (hb.alloc hb.size (.cells #[.int .i16 (F k), .int .i16 (S k)] 105))
          by_cases h2 : 0 ≤ t - F k ∧ t - F k ≤ S k - 1
          · have h2' := inB_true h2
            have hnv := Lib.hid (HSM.out k (saGo_found hlt hK (saIn_t (by omega))))
            clear hK
            go_wp2_with (go_at_call 78; refine (within_any _ _ _ _).mono ?_; rintro e w2 ⟨rfl, rfl⟩)
            go_ret2
            exact ⟨by rw [hnv.out.1, hnv.out.2]; rfl, hba.out⟩
          · have h2' := inB_false h2
            have hn := Lib.hid (saGo_no hK (saIn_f (by omega)))
            clear hK
            go_wp2_with (go_at_call 78; refine (within_any _ _ _ _).mono ?_; rintro e w2 ⟨rfl, rfl⟩)
            go_roundw
            case rel => exact ⟨hbb.out, k + 1, by omega, by go_num, hn.out⟩
            case measure => simp [intOf]; omega
        · have hkm : k = m := by omega
          subst hkm
          have hnv := Lib.hid (HNN.out hK)
          clear hK
          go_wp2
          go_ret2
          exact ⟨by rw [hnv.out.1, hnv.out.2]; rfl, KB.here⟩
    · have h1' := inB_false h1
      have hnv := Lib.hid (sa_2 hv h1')
      clear hv
      go_wp2_with (go_at_call 78; refine (within_any _ _ _ _).mono ?_; rintro e w2 ⟨rfl, rfl⟩)
      go_ret2
      exact ⟨by rw [hnv.out.1, hnv.out.2]; rfl, KB.here⟩
end Go.Proofs.Ytancboodcnomiaa
