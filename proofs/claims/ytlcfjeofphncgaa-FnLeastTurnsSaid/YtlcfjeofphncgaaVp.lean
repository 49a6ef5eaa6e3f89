/- When a programme is valid for a frame, by the reference and by the program. No conditions. -/
import Derived.Test.YtlcfjeofphncgaaPg
import Derived.Test.YtlcfjeofphncgaaFrame2
import Derived.Outline
namespace Go.Proofs.Ytlcfjeofphncgaa
open Go.RowKit
set_option linter.unusedVariables false
set_option linter.unusedSimpArgs false

/-- where the first k sections end -/
def endTo (F S : Nat → Int) : Nat → Int
  | 0 => 0
  | k + 1 => F k + S k
theorem endTo_zero (F S : Nat → Int) : endTo F S 0 = 0 := rfl
theorem endTo_succ (F S : Nat → Int) (k : Nat) : endTo F S (k + 1) = F k + S k := rfl
theorem endTo_bound {F S : Nat → Int} (hF : I16 F) (hS : I16 S) (k : Nat) : -65536 ≤ endTo F S k ∧ endTo F S k ≤ 65536 := by
  cases k with
  | zero => rw [endTo_zero]; omega
  | succ k => rw [endTo_succ]; have := hF k; have := hS k; omega
attribute [irreducible] endTo
/-- m sections lie one behind the other on s steps -/
def vSecs (s : Int) (m : Nat) (F S : Nat → Int) : Bool := decide (m ≤ 12) && (List.range m).all fun k => decide (endTo F S k ≤ F k ∧ F k < s ∧ 1 ≤ S k ∧ F k + S k ≤ s)
theorem vSecs_iff {s : Int} {m : Nat} {F S : Nat → Int} : vSecs s m F S = true ↔ m ≤ 12 ∧ ∀ k, k < m → endTo F S k ≤ F k ∧ F k < s ∧ 1 ≤ S k ∧ F k + S k ≤ s := by
  simp only [vSecs, Bool.and_eq_true, decide_eq_true_eq, List.all_eq_true, List.mem_range]
theorem vSecs_false {s : Int} {m : Nat} {F S : Nat → Int} (h : ¬ (m ≤ 12 ∧ ∀ k, k < m → endTo F S k ≤ F k ∧ F k < s ∧ 1 ≤ S k ∧ F k + S k ≤ s)) : vSecs s m F S = false := by
  rw [← Bool.not_eq_true, vSecs_iff]; exact h
theorem vSecs_end {s : Int} {m : Nat} {F S : Nat → Int} (hs : 0 ≤ s) (h : ∀ k, k < m → endTo F S k ≤ F k ∧ F k < s ∧ 1 ≤ S k) (he : endTo F S m ≤ s) : ∀ k, k < m → endTo F S k ≤ F k ∧ F k < s ∧ 1 ≤ S k ∧ F k + S k ≤ s := fun k hk => by
  obtain ⟨h1, h2, h3⟩ := h k hk
  refine ⟨h1, h2, h3, ?_⟩
  by_cases hk1 : k + 1 < m
  · have := (h (k + 1) hk1).1
    have := (h (k + 1) hk1).2.1
    rw [endTo_succ] at *
    omega
  · have : m = k + 1 := by omega
    subst this
    rw [endTo_succ] at he
    exact he
/-- an order names sections below m, or -1 -/
def vOrd (m : Nat) (O : Nat → Int) : Bool := (List.range 48).all fun k => decide (-1 ≤ O k ∧ O k ≤ (m : Int) - 1)
theorem vOrd_iff {m : Nat} {O : Nat → Int} : vOrd m O = true ↔ ∀ k, k < 48 → -1 ≤ O k ∧ O k ≤ (m : Int) - 1 := by
  simp only [vOrd, List.all_eq_true, decide_eq_true_eq, List.mem_range]
theorem vOrd_false {m : Nat} {O : Nat → Int} (k : Nat) (hk : k < 48) (h : ¬ (-1 ≤ O k ∧ O k ≤ (m : Int) - 1)) : vOrd m O = false := by
  rw [← Bool.not_eq_true, vOrd_iff]; exact fun H => h (H k hk)
attribute [irreducible] vSecs vOrd
/-- a programme is valid for a frame -/
def vProg (s : Int) (n : Nat) (P R : Nat → Int) (m : Nat) (F S O : Nat → Int) : Bool := vFrame s n P R && (vSecs s m F S && vOrd m O)
theorem vProg_iff {s : Int} {n : Nat} {P R : Nat → Int} {m : Nat} {F S O : Nat → Int} : vProg s n P R m F S O = true ↔ vFrame s n P R = true ∧ vSecs s m F S = true ∧ vOrd m O = true := by
  simp only [vProg, Bool.and_eq_true]
theorem vProg_f1 {s : Int} {n : Nat} {P R : Nat → Int} {m : Nat} {F S O : Nat → Int} (h : vFrame s n P R = false) : vProg s n P R m F S O = false := by simp [vProg, h]
theorem vProg_f2 {s : Int} {n : Nat} {P R : Nat → Int} {m : Nat} {F S O : Nat → Int} (h : vSecs s m F S = false) : vProg s n P R m F S O = false := by simp [vProg, h]
theorem vProg_f3 {s : Int} {n : Nat} {P R : Nat → Int} {m : Nat} {F S O : Nat → Int} (h : vOrd m O = false) : vProg s n P R m F S O = false := by simp [vProg, h]
attribute [irreducible] vProg

set_option maxRecDepth 100000 in
set_option maxHeartbeats 1000000 in
theorem l04Ok_any (gf gp : Nat) (s : Int) (a : Option Addr) (n c : Nat) (P R : Nat → Int) (b : Option Addr) (m d : Nat) (F S O : Nat → Int) (w : World) (hs : -32768 ≤ s ∧ s ≤ 32767) (hn : n ≤ 1048576) (hP : I8 P) (hR : I8 R) (hf : w.heap[gf]? = some (.cells #[.int .i16 s, .slice a n c] 27 (0, 0))) (hh : HamAt w a n P R)
    (hm : m ≤ 1048576) (hF : I16 F) (hS : I16 S) (hO : I8 O) (hp : w.heap[gp]? = some (.cells (pc b m d O) 51 (0, 0))) (hl : SecAt w b m F S) :
    Calls Try.prog 58 #[.pointer (some ⟨gf, 0, none⟩), .pointer (some ⟨gp, 0, none⟩)] w fun e w' => e = .returned (.bool (vProg s n P R m F S O)) ∧ Below w.heap.size w w' := by
  have HP := Lib.hid hP; have HR := Lib.hid hR; have HF := Lib.hid hF; have HS := Lib.hid hS; have HO := Lib.hid hO
  clear hP hR hF hS hO
  have KB := Kp.base w; have KF := kp_row hf; have KP := kp_row hp
  have KH := kp_ham hh; have KL := kp_sec hl; clear hh hl hf hp
  cases hv : vFrame s n P R
  · go_enter Try.func58, Try.ntmps58
    go_wp2_with fail
    refine (l02Frame_any gf s a n c P R w (by omega) hs HP.out HR.out (row_lt KF.here) (row_cell 0 KF.here) (row_cell 1 KF.here) KH.here).mono ?_
    rw [hv]
    rintro e w1 ⟨rfl, hb1⟩
    go_wp2
    go_ret
    exact ⟨ret_bool (vProg_f1 hv).symm, KB.at hb1⟩
  · obtain ⟨hS0, hN, _⟩ := vFrame_iff.1 hv
    by_cases h12 : m ≤ 12
    · go_enter Try.func58, Try.ntmps58
      go_wp2_with fail
      refine (l02Frame_any gf s a n c P R w (by omega) hs HP.out HR.out (row_lt KF.here) (row_cell 0 KF.here) (row_cell 1 KF.here) KH.here).mono ?_
      rw [hv]
      rintro e w1 ⟨rfl, hb1⟩
      have HV := Lib.hid hv; clear hv
      replace KB := KB.on hb1
      replace KF := KF.on hb1
      replace KP := KP.on hb1
      replace KL := KL.on hb1
      have p0 := row_cell 0 KP.here
      rw [pc_get0] at p0
      have P0 := Lib.hid p0
      go_wp2
      clear p0
      go_loopw [5, 6] (fun t i w' => Below w1.heap.size w1 w' ∧ ∃ k : Nat, k ≤ m ∧ i = .int .i64 k ∧ t = .int .i64 (endTo F S k) ∧ ∀ j, j < k → endTo F S j ≤ F j ∧ F j < s ∧ 1 ≤ S j ∧ F j + S j ≤ s) (fun _ i _ => m - (intOf i).toNat)
      case atStart => exact ⟨Below.refl _ _, 0, by omega, rfl, by rw [endTo_zero], fun j hj => by omega⟩
      case round =>
        obtain ⟨hb, k, hk, rfl, rfl, hK⟩ := hrel
        have HK := Lib.hid hK; clear hK
        replace KB := KB.on hb
        replace KF := KF.on hb
        replace KP := KP.on hb
        replace KL := KL.on hb
        have p0 := row_cell 0 KP.here
        rw [pc_get0] at p0
        have heb := endTo_bound HF.out HS.out k
        by_cases hlt : k < m
        · have hx := SecAt.get KL.here (show 0 < m by omega)
          obtain ⟨g, off, rfl, hg, hc⟩ := hx
          have c0 := (hc k hlt).1
          have c1 := (hc k hlt).2
          clear hc
          have d0 := row_cell 0 KF.here
          have hf1 := HF.out k
          have hs1 := HS.out k
          have q1 := i64_id (x := F k) (by omega)
          have q2 := i64_id (x := S k) (by omega)
          have q3 := i64_id (x := s) (by omega)
          have q4 := i64_id (x := F k + S k) (by omega)
          have hk' : (k : Int) < m := by omega
          have hesc := Lib.hid (endTo_succ F S k)
          have hno : ¬ (endTo F S k ≤ F k ∧ F k < s ∧ 1 ≤ S k ∧ F k + S k ≤ s) → vProg s n P R m F S O = false := fun h => vProg_f2 (vSecs_false fun H => h (H.2 k hlt))
          have HNO := Lib.hid hno; clear hno
          by_cases h1 : F k < endTo F S k
          · go_wp2
            go_ret
            exact ⟨ret_bool (HNO.out (by omega)).symm, KB.here⟩
          · by_cases h2 : s ≤ F k
            · go_wp2
              go_ret
              exact ⟨ret_bool (HNO.out (by omega)).symm, KB.here⟩
            · by_cases h3 : S k < 1
              · go_wp2
                go_ret
                exact ⟨ret_bool (HNO.out (by omega)).symm, KB.here⟩
              · by_cases h4 : s < F k + S k
                · go_wp2
                  go_ret
                  exact ⟨ret_bool (HNO.out (by omega)).symm, KB.here⟩
                · go_wp2
                  go_roundw
                  case rel => exact ⟨hb, k + 1, by omega, by go_num, by rw [hesc.out], fun j hj => if e : j = k then e ▸ ⟨by omega, by omega, by omega, by omega⟩ else HK.out j (by omega)⟩
                  case measure => simp [intOf]; omega
        · have hsec := Lib.hid (vSecs_iff.2 ⟨h12, fun j hj => HK.out j (by omega)⟩)
          clear HK
          obtain ⟨U, rfl⟩ : ∃ U, U = wr := ⟨wr, rfl⟩
          go_wp2
          go_loopw [9] (fun i w' => Below U.heap.size U w' ∧ ∃ k : Nat, k ≤ 48 ∧ i = .int .i64 k ∧ ∀ j, j < k → -1 ≤ O j ∧ O j ≤ (m : Int) - 1) (fun i _ => 48 - (intOf i).toNat)
          case atStart => exact ⟨Below.refl _ _, 0, by omega, rfl, fun j hj => by omega⟩
          case round =>
            clear p0
            obtain ⟨hb3, j, hj, rfl, hK⟩ := hrel
            have HK := Lib.hid hK; clear hK
            replace KB := KB.on hb3
            replace KP := KP.on hb3
            by_cases hlj : j < 48
            · have p0 := row_cell 0 KP.here
              rw [pc_get0] at p0
              have e0 : wr.cell? ⟨gp, 1 + j, none⟩ = some (.int .i8 (O j)) := by rw [row_cell (1 + j) KP.here, pc_get _ _ _ _ j hlj]
              have ho := HO.out j
              have q1 := i64_id (x := O j) (by omega)
              have q2 := i64_id (x := (m : Int) - 1) (by omega)
              have hj' : (j : Int) < 48 := by omega
              by_cases hin : -1 ≤ O j ∧ O j ≤ (m : Int) - 1
              · have hin' := inB_true hin
                go_wp2
                go_quiet ((go_at_call 65; exact q_same (l00In_any _ _ _ _)))
                clear hin' q1 q2 p0 e0
                go_wp2
                go_roundw
                case rel => exact ⟨below_drewN hb3 _, j + 1, by omega, by go_num, fun i hi => if e : i = j then e ▸ hin else HK.out i (by omega)⟩
                case measure => simp [intOf]; omega
              · have hin' := inB_false hin
                go_wp2
                go_quiet ((go_at_call 65; exact q_same (l00In_any _ _ _ _)))
                go_wp2
                go_ret
                exact ⟨ret_bool (vProg_f3 (vOrd_false j hlj hin)).symm, below_drewN KB.here _⟩
            · go_wp2
              go_ret
              exact ⟨ret_bool (vProg_iff.2 ⟨HV.out, hsec.out, vOrd_iff.2 fun i hi => HK.out i (by omega)⟩).symm, KB.here⟩
    · go_enter Try.func58, Try.ntmps58
      go_wp2_with fail
      refine (l02Frame_any gf s a n c P R w (by omega) hs HP.out HR.out (row_lt KF.here) (row_cell 0 KF.here) (row_cell 1 KF.here) KH.here).mono ?_
      rw [hv]
      rintro e w1 ⟨rfl, hb1⟩
      replace KB := KB.on hb1
      replace KP := KP.on hb1
      have p0 := row_cell 0 KP.here
      rw [pc_get0] at p0
      go_wp2
      go_ret
      exact ⟨ret_bool (vProg_f2 (vSecs_false fun H => h12 H.1)).symm, KB.here⟩
set_option maxRecDepth 100000 in
set_option maxHeartbeats 1000000 in
theorem areSections_any (s : Int) (a : Option Addr) (n c : Nat) (b : Option Addr) (m d : Nat) (F S : Nat → Int) (w : World) (hs : 2 ≤ s ∧ s ≤ 96) (hm : m ≤ 1048576) (hF : I16 F) (hS : I16 S) (hl : SecAt w b m F S) :
    Calls Try.prog 97 #[.agg #[.int .i16 s, .slice a n c], .slice b m d] w fun e w' => e = .returned (.bool (vSecs s m F S)) ∧ Below w.heap.size w w' := by
  have HF := Lib.hid hF; have HS := Lib.hid hS
  clear hF hS
  have KB := Kp.base w
  have KL := kp_sec hl; clear hl
  replace KB := KB.alloc (.cells #[.int .i16 s, .slice a n c] 27)
  replace KL := KL.alloc (.cells #[.int .i16 s, .slice a n c] 27)
  have KF := kp_new1 w #[.int .i16 s, .slice a n c] 27 (g := w.heap.size) (by simp)
  have HZ := Lib.hid (show (w.alloc (.cells #[.int .i16 s, .slice a n c] 27)).heap.size = w.heap.size + 1 by simp)
  go_enter Try.func97, Try.ntmps97
  go_wp2
  generalize (w.alloc (.cells #[.int .i16 s, .slice a n c] 27)) = W at KB KL KF HZ ⊢
  clear HZ
  go_loopw [5, 10] (fun t i w' => Below W.heap.size W w' ∧ ∃ k : Nat, k ≤ m ∧ i = .int .i64 k ∧ t = .int .i64 (endTo F S k) ∧ ∀ j, j < k → endTo F S j ≤ F j ∧ F j < s ∧ 1 ≤ S j) (fun _ i _ => m - (intOf i).toNat)
  case atStart => exact ⟨Below.refl _ _, 0, by omega, rfl, by rw [endTo_zero], fun j hj => by omega⟩
  case round =>
    obtain ⟨hb, k, hk, rfl, rfl, hK⟩ := hrel
    have HK := Lib.hid hK; clear hK
    replace KB := KB.on hb
    replace KF := KF.on hb
    replace KL := KL.on hb
    have heb := endTo_bound HF.out HS.out k
    have d0 := row_cell 0 KF.here
    have q3 := i64_id (x := s) (by omega)
    by_cases hlt : k < m
    · have hx := SecAt.get KL.here (show 0 < m by omega)
      obtain ⟨g, off, rfl, hg, hc⟩ := hx
      have c0 := (hc k hlt).1
      have c1 := (hc k hlt).2
      clear hc
      have hgf := row_lt KF.here
      have hf1 := HF.out k
      have hs1 := HS.out k
      have q1 := i64_id (x := F k) (by omega)
      have q2 := i64_id (x := S k) (by omega)
      have q4 := i64_id (x := F k + S k) (by omega)
      have q5 := i64_id (x := s - 1) (by omega)
      have hesc := Lib.hid (endTo_succ F S k)
      have hno : ¬ (endTo F S k ≤ F k ∧ F k < s ∧ 1 ≤ S k ∧ F k + S k ≤ s) → vSecs s m F S = false := fun h => vSecs_false fun H => h (H.2 k hlt)
      have HNO := Lib.hid hno; clear hno
      have hba : Below w.heap.size w (wr.alloc (.cells #[.int .i16 (F k), .int .i16 (S k)] 56)) := (KB.alloc _).here
      have hbb : Below W.heap.size W (wr.alloc (.cells #[.int .i16 (F k), .int .i16 (S k)] 56)) := hb.alloc hb.size _
      have HBA := Lib.hid hba; have HBB := Lib.hid hbb; clear hba hbb
      by_cases hin : endTo F S k ≤ F k ∧ F k ≤ s - 1
      · have hin' := inB_true hin
        by_cases h3 : S k < 1
        · go_wp2_with (go_at_call 60; refine (within_any _ _ _ _).mono ?_; rintro e w2 ⟨rfl, rfl⟩)
          go_ret
          exact ⟨ret_bool (HNO.out (by omega)).symm, HBA.out⟩
        · go_wp2_with (go_at_call 60; refine (within_any _ _ _ _).mono ?_; rintro e w2 ⟨rfl, rfl⟩)
          go_roundw
          case rel => exact ⟨HBB.out, k + 1, by omega, by go_num, by rw [hesc.out], fun j hj => if e : j = k then e ▸ ⟨by omega, by omega, by omega⟩ else HK.out j (by omega)⟩
          case measure => simp [intOf]; omega
      · have hin' := inB_false hin
        go_wp2_with (go_at_call 60; refine (within_any _ _ _ _).mono ?_; rintro e w2 ⟨rfl, rfl⟩)
        go_ret
        exact ⟨ret_bool (HNO.out (by omega)).symm, HBA.out⟩
    · have hkm : k = m := by omega
      subst hkm
      by_cases h12 : k ≤ 12
      · by_cases he : endTo F S k ≤ s
        · go_wp2
          go_ret
          exact ⟨ret_bool (by rw [vSecs_iff.2 ⟨h12, vSecs_end (by omega) HK.out he⟩] <;> simp <;> omega), KB.here⟩
        · have hf : vSecs s k F S = false := vSecs_false fun H => he (by
            cases k with
            | zero => rw [endTo_zero]; omega
            | succ i => rw [endTo_succ]; exact (H.2 i (by omega)).2.2.2)
          have HFF := Lib.hid hf; clear hf
          go_wp2
          go_ret
          exact ⟨ret_bool (by rw [HFF.out] <;> simp <;> omega), KB.here⟩
      · have hf : vSecs s k F S = false := vSecs_false fun H => h12 H.1
        have HFF := Lib.hid hf; clear hf
        go_wp2
        go_ret
        exact ⟨ret_bool (by rw [HFF.out] <;> simp <;> omega), KB.here⟩
set_option maxRecDepth 100000 in
theorem validProgramme1_any (gp : Nat) (b : Option Addr) (m d : Nat) (O : Nat → Int) (x : Int) (w : World) (hm : m ≤ 1048576) (hx : -128 ≤ x ∧ x ≤ 127) (hp : w.heap[gp]? = some (.cells (pc b m d O) 51 (0, 0))) :
    Calls Try.prog 99 #[.int .i8 x, .pointer (some ⟨gp, 0, none⟩)] w fun e w' => e = .returned (.bool (!inB x (-1) ((m : Int) - 1))) ∧ Below w.heap.size w w' := by
  have p0 := row_cell 0 hp
  rw [pc_get0] at p0
  have PP := Lib.hid hp; clear hp
  have q1 := i64_id (x := x) (by omega)
  have q2 := i64_id (x := (m : Int) - 1) (by omega)
  go_enter Try.func99, Try.ntmps99
  go_wp2_with (first | (go_at_call 60; refine (within_any _ _ _ _).mono ?_; rintro e w2 ⟨rfl, rfl⟩) | (go_at_call 82; refine (sizeSection_any _ _ _ _ (by omega)).mono ?_; rintro e w2 ⟨rfl, rfl⟩))
  go_ret
  exact ⟨rfl, Below.refl _ _⟩
set_option maxRecDepth 100000 in
theorem indexFuncI8_any (gp : Nat) (b : Option Addr) (m d : Nat) (O : Nat → Int) (w : World) (hm : m ≤ 1048576) (hO : I8 O) (hp : w.heap[gp]? = some (.cells (pc b m d O) 51 (0, 0))) :
    Calls Try.prog 105 #[.slice (some ⟨gp, 1, none⟩) 48 48, .func (.func 99) #[] #[.pointer (some ⟨gp, 0, none⟩)]] w fun e w' => ∃ r, e = .returned (.int .i64 r) ∧ IdxOf (fun k => !inB (O k) (-1) ((m : Int) - 1)) 48 r ∧ Below w.heap.size w w' := by
  have HO := Lib.hid hO; clear hO
  have KP := kp_row hp; clear hp
  go_enter Try.func105, Try.ntmps105
  go_wp2
  go_loopw [8] (fun i w' => Below w.heap.size w w' ∧ ∃ k : Nat, k ≤ 48 ∧ i = .int .i64 k ∧ ∀ j, j < k → (!inB (O j) (-1) ((m : Int) - 1)) = false) (fun i _ => 48 - (intOf i).toNat)
  case atStart => exact ⟨Below.refl _ _, 0, by omega, rfl, fun j hj => by omega⟩
  case round =>
    obtain ⟨hb, k, hk, rfl, hK⟩ := hrel
    have HK := Lib.hid hK; clear hK
    replace KP := KP.on hb
    by_cases hlt : k < 48
    · have c0 : wr.cell? ⟨gp, 1 + k, none⟩ = some (.int .i8 (O k)) := by rw [row_cell (1 + k) KP.here, pc_get _ _ _ _ k hlt]
      have hk' : (k : Int) < 48 := by omega
      cases hp : (!inB (O k) (-1) ((m : Int) - 1))
      · have HPP := Lib.hid hp
        go_wp2_with (go_at_call 99; refine (validProgramme1_any gp b m d O (O k) _ hm (HO.out k) KP.here).mono ?_; rw [hp]; rintro e w1 ⟨rfl, hb1⟩)
        go_roundw
        case rel => exact ⟨hb.trans (hb1.mono hb.size), k + 1, by omega, by go_num, fun j hj => if e : j = k then e ▸ HPP.out else HK.out j (by omega)⟩
        case measure => simp [intOf]; omega
      · have HPP := Lib.hid hp
        go_wp2_with (go_at_call 99; refine (validProgramme1_any gp b m d O (O k) _ hm (HO.out k) KP.here).mono ?_; rw [hp]; rintro e w1 ⟨rfl, hb1⟩)
        go_ret
        exact ⟨_, rfl, .inr ⟨k, rfl, hlt, HPP.out, HK.out⟩, hb.trans (hb1.mono hb.size)⟩
    · go_wp2
      go_ret
      exact ⟨_, rfl, .inl ⟨rfl, fun j hj => HK.out j (by omega)⟩, hb⟩
set_option maxRecDepth 100000 in
theorem containsFuncI8_any (gp : Nat) (b : Option Addr) (m d : Nat) (O : Nat → Int) (w : World) (hm : m ≤ 1048576) (hO : I8 O) (hp : w.heap[gp]? = some (.cells (pc b m d O) 51 (0, 0))) :
    Calls Try.prog 98 #[.slice (some ⟨gp, 1, none⟩) 48 48, .func (.func 99) #[] #[.pointer (some ⟨gp, 0, none⟩)]] w fun e w' => e = .returned (.bool (!vOrd m O)) ∧ Below w.heap.size w w' := by
  have HO := Lib.hid hO; clear hO
  have HP := Lib.hid hp; clear hp
  go_enter Try.func98, Try.ntmps98
  go_wp2_with (go_at_call 105; refine (indexFuncI8_any gp b m d O _ hm HO.out HP.out).mono ?_; rintro e w1 ⟨r, rfl, hr, hb⟩)
  go_ret
  refine ⟨ret_bool ?_, hb⟩
  rw [hr.any]
  cases hv : vOrd m O
  · have hx : ∃ k, k < 48 ∧ ¬ (-1 ≤ O k ∧ O k ≤ (m : Int) - 1) := by
      apply Classical.byContradiction
      intro H
      rw [vOrd_iff.2 fun k hk => Classical.byContradiction fun h => H ⟨k, hk, h⟩] at hv
      exact absurd hv (by simp)
    obtain ⟨k, hk, h⟩ := hx
    rw [anyB_iff.2 ⟨k, hk, by rw [inB_false h]; rfl⟩]
    rfl
  · rw [anyB_false fun k hk => by rw [inB_true (vOrd_iff.1 hv k hk)]; rfl]
    rfl
set_option maxRecDepth 100000 in
theorem validProgramme_any (s : Int) (a : Option Addr) (n c : Nat) (P R : Nat → Int) (b : Option Addr) (m d : Nat) (F S O : Nat → Int) (w : World) (hs : -32768 ≤ s ∧ s ≤ 32767) (hn : n ≤ 1048576) (hP : I8 P) (hR : I8 R) (hh : HamAt w a n P R)
    (hm : m ≤ 1048576) (hF : I16 F) (hS : I16 S) (hO : I8 O) (hl : SecAt w b m F S) :
    Calls Try.prog 77 #[.agg #[.int .i16 s, .slice a n c], .agg (pc b m d O)] w fun e w' => e = .returned (.bool (vProg s n P R m F S O)) ∧ Below w.heap.size w w' := by
  have HP := Lib.hid hP; have HR := Lib.hid hR; have HF := Lib.hid hF; have HS := Lib.hid hS; have HO := Lib.hid hO
  clear hP hR hF hS hO
  have KB := Kp.base w
  have KH := kp_ham hh; have KL := kp_sec hl; clear hh hl
  replace KB := KB.alloc (.cells #[.int .i16 s, .slice a n c] 27)
  replace KH := KH.alloc (.cells #[.int .i16 s, .slice a n c] 27)
  replace KL := KL.alloc (.cells #[.int .i16 s, .slice a n c] 27)
  have KF := kp_new1 w #[.int .i16 s, .slice a n c] 27 (g := w.heap.size) (by simp)
  replace KB := KB.alloc (.cells (pc b m d O) 51)
  replace KH := KH.alloc (.cells (pc b m d O) 51)
  replace KL := KL.alloc (.cells (pc b m d O) 51)
  replace KF := KF.alloc (.cells (pc b m d O) 51)
  have KP := kp_new1 (w.alloc (.cells #[.int .i16 s, .slice a n c] 27)) (pc b m d O) 51 (g := w.heap.size + 1) (by simp)
  have HZ := Lib.hid (show ((w.alloc (.cells #[.int .i16 s, .slice a n c] 27)).alloc (.cells (pc b m d O) 51)).heap.size = w.heap.size + 1 + 1 by simp)
  go_enter Try.func77, Try.ntmps77
  go_wp2_with (with_reducible refine load_iframe rfl _ rfl w.heap.size rfl _ s a n c KF.here ?_)
  generalize ((w.alloc (.cells #[.int .i16 s, .slice a n c] 27)).alloc (.cells (pc b m d O) 51)) = W at KB KH KL KF KP HZ ⊢
  have hz := HZ.out; clear HZ
  refine (validFrame_any s a n c P R W (by omega) hs HP.out HR.out KH.here).mono ?_
  rintro e w1 ⟨rfl, hb1⟩
  replace KB := KB.on hb1
  replace KF := KF.on hb1
  replace KP := KP.on hb1
  replace KL := KL.on hb1
  clear hb1
  have p0 := row_cell 0 KP.here
  rw [pc_get0] at p0
  have d0 := row_cell 0 KF.here
  have d1 := row_cell 1 KF.here
  cases hv : vFrame s n P R
  · go_wp2
    go_ret
    exact ⟨ret_bool (vProg_f1 hv).symm, KB.here⟩
  · obtain ⟨hS0, hN, _⟩ := vFrame_iff.1 hv
    have HV := Lib.hid hv; clear hv
    go_wp2_with fail
    refine (areSections_any s a n c b m d F S w1 hS0 hm HF.out HS.out KL.here).mono ?_
    rintro e w2 ⟨rfl, hb2⟩
    clear p0 d0 d1
    replace KB := KB.on hb2
    replace KF := KF.on hb2
    replace KP := KP.on hb2
    replace KL := KL.on hb2
    clear hb2
    cases hse : vSecs s m F S
    · go_wp2
      go_ret
      exact ⟨ret_bool (vProg_f2 hse).symm, KB.here⟩
    · have HSE := Lib.hid hse; clear hse
      go_wp2_with fail
      refine (containsFuncI8_any (w.heap.size + 1) b m d O w2 hm HO.out KP.here).mono ?_
      rintro e w3 ⟨rfl, hb3⟩
      have KB3 := KB.on hb3
      clear hb3
      cases hvo : vOrd m O
      · go_wp2
        go_ret
        exact ⟨ret_bool (vProg_f3 hvo).symm, KB3.here⟩
      · have HVO := Lib.hid hvo; clear hvo
        go_wp2
        go_ret
        exact ⟨ret_bool (vProg_iff.2 ⟨HV.out, HSE.out, HVO.out⟩).symm, KB3.here⟩
end Go.Proofs.Ytlcfjeofphncgaa
