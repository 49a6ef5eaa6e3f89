/- Changes are made, by the reference and by the program. No conditions. -/
import Derived.Test.YtmmneedmhmppoaaWp
import Derived.Test.YtmmneedmhmppoaaChg
import Derived.Outline
namespace Go.Proofs.Ytmmneedmhmppoaa
open Go.RowKit
set_option linter.unusedVariables false
set_option linter.unusedSimpArgs false

/-- the code of a change -/
def wpC (s : Int) (n : Nat) (P R : Nat → Int) (D : Nat → Nat) (k t : Int) (on : Bool) : Int := if plc s n P R D k t = 0 then (if hasPin D k.toNat t.toNat = on then 4 else 0) else plc s n P R D k t
/-- the drum behind a change -/
def wpD (D : Nat → Nat) (k t : Int) : Nat → Nat := upd D k.toNat (D k.toNat ^^^ 2 ^ t.toNat)
section
variable {s : Int} {n : Nat} {P R : Nat → Int} {D : Nat → Nat} {k t : Int} {on : Bool}
theorem wpC_no (h : ¬ plc s n P R D k t = 0) : wpC s n P R D k t on = plc s n P R D k t := if_neg h
theorem wpC_4 (h : plc s n P R D k t = 0) (h2 : hasPin D k.toNat t.toNat = on) : wpC s n P R D k t on = 4 := by unfold wpC; rw [if_pos h, if_pos h2]
theorem wpC_0 (h : plc s n P R D k t = 0) (h2 : ¬ hasPin D k.toNat t.toNat = on) : wpC s n P R D k t on = 0 := by unfold wpC; rw [if_pos h, if_neg h2]
theorem wpC_zero (h : wpC s n P R D k t on = 0) : plc s n P R D k t = 0 ∧ hasPin D k.toNat t.toNat = !on := by
  by_cases h1 : plc s n P R D k t = 0
  · by_cases h2 : hasPin D k.toNat t.toNat = on
    · rw [wpC_4 h1 h2] at h; simp at h
    · refine ⟨h1, ?_⟩
      cases on <;> simpa using h2
  · rw [wpC_no h1] at h; exact absurd h h1
theorem wpD_32 (hD : D32 D) (ht : t.toNat < 24) : D32 (wpD D k t) := upd_32 hD (xor_lt32 (hD _) (by have := pow24 ht; omega))
theorem okAll_frame (h : okAll s n P R 1 (fun _ => D) = true) : (2 ≤ s ∧ s ≤ 96) ∧ (1 ≤ n ∧ n ≤ 24) := ⟨(vFrame_iff.1 (okAll_iff.1 h).1).1, (vFrame_iff.1 (okAll_iff.1 h).1).2.1⟩
end
def wpR (s : Int) (n : Nat) (P R : Nat → Int) (D : Nat → Nat) (k t : Int) (on : Bool) : Nat → Nat := if wpC s n P R D k t on = 0 then wpD D k t else fun _ => 0
theorem wpR_yes {s : Int} {n : Nat} {P R : Nat → Int} {D : Nat → Nat} {k t : Int} {on : Bool} (h : wpC s n P R D k t on = 0) : wpR s n P R D k t on = wpD D k t := if_pos h
theorem wpR_no {s : Int} {n : Nat} {P R : Nat → Int} {D : Nat → Nat} {k t : Int} {on : Bool} {x : Int} (h : wpC s n P R D k t on = x) (hx : ¬ x = 0) : wpR s n P R D k t on = fun _ => 0 := by subst h; exact if_neg hx
attribute [irreducible] wpC wpD wpR
theorem wpD_def (D : Nat → Nat) (k t : Int) : wpD D k t = upd D k.toNat (D k.toNat ^^^ 2 ^ t.toNat) := by unfold wpD; rfl
/-- the drum behind the first i changes -/
def mkD (D : Nat → Nat) (S K : Nat → Int) : Nat → Nat → Nat
  | 0 => D
  | i + 1 => wpD (mkD D S K i) (S i) (K i)
theorem mkD_zero (D : Nat → Nat) (S K : Nat → Int) : mkD D S K 0 = D := rfl
theorem mkD_succ (D : Nat → Nat) (S K : Nat → Int) (i : Nat) : mkD D S K (i + 1) = wpD (mkD D S K i) (S i) (K i) := rfl
/-- the first one of i changes that has an error, and its code -/
def mkGo (s : Int) (n : Nat) (P R : Nat → Int) (D : Nat → Nat) (S K : Nat → Int) (U : Nat → Bool) : Nat → Option (Nat × Int)
  | 0 => none
  | i + 1 => match mkGo s n P R D S K U i with
    | some r => some r
    | none => if wpC s n P R (mkD D S K i) (S i) (K i) (U i) = 0 then none else some (i, wpC s n P R (mkD D S K i) (S i) (K i) (U i))
section
variable {s : Int} {n : Nat} {P R : Nat → Int} {D : Nat → Nat} {S K : Nat → Int} {U : Nat → Bool} {i m : Nat}
theorem mkGo_zero : mkGo s n P R D S K U 0 = none := rfl
theorem mkGo_no (h : mkGo s n P R D S K U i = none) (h2 : wpC s n P R (mkD D S K i) (S i) (K i) (U i) = 0) : mkGo s n P R D S K U (i + 1) = none := by simp only [mkGo, h, if_pos h2]
theorem mkGo_mono {r : Nat × Int} (h : mkGo s n P R D S K U i = some r) (j : Nat) : mkGo s n P R D S K U (i + j) = some r := by
  induction j with
  | zero => exact h
  | succ j ih => rw [Nat.add_succ]; simp only [mkGo, ih]
theorem mkGo_found (hi : i < m) (h : mkGo s n P R D S K U i = none) {x : Int} (hx : wpC s n P R (mkD D S K i) (S i) (K i) (U i) = x) (h2 : ¬ x = 0) : mkGo s n P R D S K U m = some (i, x) := by
  subst hx
  have h3 : mkGo s n P R D S K U (i + 1) = some (i, wpC s n P R (mkD D S K i) (S i) (K i) (U i)) := by simp only [mkGo, h, if_neg h2]
  have := mkGo_mono h3 (m - (i + 1))
  rwa [show i + 1 + (m - (i + 1)) = m by omega] at this
theorem wpC_track {k t : Int} {on : Bool} (h : wpC s n P R D k t on = 0) : t.toNat < 24 := by
  obtain ⟨h1, _⟩ := wpC_zero h
  obtain ⟨h2, _, h3⟩ := plc_zero h1
  have := (okAll_frame h2).2
  omega
end
attribute [irreducible] mkD mkGo
def mtD (D : Nat → Nat) (S K : Nat → Int) (m : Nat) : Option (Nat × Int) → Nat → Nat
  | some _ => fun _ => 0
  | none => mkD D S K m
def mtI (z : Int) : Option (Nat × Int) → Int
  | some r => r.1
  | none => z
def mtC (z : Int) : Option (Nat × Int) → Int
  | some r => r.2
  | none => z
theorem mtD_some (D : Nat → Nat) (S K : Nat → Int) (m : Nat) (r : Nat × Int) : mtD D S K m (some r) = fun _ => 0 := rfl
theorem mtD_none (D : Nat → Nat) (S K : Nat → Int) (m : Nat) : mtD D S K m none = mkD D S K m := rfl
attribute [irreducible] mtD
section
variable {ops : Array Oper} {rest : List Oper} {o : Oper} {a : Act} {w : World} {Q : Exit → Act → World → Prop}
/-- three results: a drum in its own cell, and two more -/
theorem results_drum3 {fn : Func} {p q r : Tmp} (h : fn.results = #[.cell p 45, .tmp q, .tmp r]) (tmps : Array Value) (w : World) (g T : Nat) (D : Nat → Nat) (v u : Value)
    (hp : tmps.getD p undef = .pointer (some ⟨g, 0, none⟩)) (hg : DrumAt w T g D) (hv : tmps.getD q undef = v) (hu : tmps.getD r undef = u) : (results fn tmps).run Try.prog w = .ok (.tuple #[.agg (dc D), v, u]) w := by
  have hp' : tmps[p]?.getD undef = .pointer (some ⟨g, 0, none⟩) := by simpa using hp
  have hv' : tmps[q]?.getD undef = v := by simpa using hv
  have hu' : tmps[r]?.getD undef = u := by simpa using hu
  simp [results, h, hp', hv', hu', asAddr, run_loadVar_row w g T 45 (dc D) (0, 0) _ hg und_drum rfl (by rw [dc_size]; exact size_drum)]
end
set_option maxRecDepth 100000 in
theorem l02Asked_any (gf gd T : Nat) (s : Int) (a : Option Addr) (n c : Nat) (P R : Nat → Int) (D : Nat → Nat) (w : World) (hs : -32768 ≤ s ∧ s ≤ 32767) (hn : n ≤ 1048576) (hP : I8 P) (hR : I8 R) (hh : HamAt w a n P R) (hf : w.heap[gf]? = some (.cells #[.int .i16 s, .slice a n c] 43 (0, 0))) (hd : DrumAt w T gd D) :
    Calls Try.prog 78 #[.pointer (some ⟨gf, 0, none⟩), .pointer (some ⟨gd, 0, none⟩)] w fun e w' => e = .returned (.int .i64 (unl (okAll s n P R 1 (fun _ => D)) 1)) ∧ Below w.heap.size w w' := by
  have HP := Lib.hid hP; have HR := Lib.hid hR
  clear hP hR
  have KF := kp_row hf; have KD := kp_drum hd; have KH := kp_ham hh; clear hf hd hh
  cases hv : vFrame s n P R
  · go_enter Try.func78, Try.ntmps78
    go_wp2_with fail
    refine (l02Frame_any gf s a n c P R w (by omega) hs HP.out HR.out (row_lt KF.here) (row_cell 0 KF.here) (row_cell 1 KF.here) KH.here).mono ?_
    rw [hv]
    rintro e w1 ⟨rfl, hb1⟩
    have hno : okAll s n P R 1 (fun _ => D) = false := by
      rw [← Bool.not_eq_true, okAll_iff]
      rintro ⟨H, _⟩
      rw [hv] at H
      exact absurd H (by simp)
    have HNO := Lib.hid hno; clear hno hv
    go_wp2
    go_ret
    exact ⟨ret_int (by rw [HNO.out, unl_false]), hb1⟩
  · obtain ⟨hS, hN, _⟩ := vFrame_iff.1 hv
    have hokd : okAll s n P R 1 (fun _ => D) = vDrum s n D := by
      rw [Bool.eq_iff_iff, okAll_iff]
      exact ⟨fun H => H.2 0 (by omega), fun H => ⟨hv, fun i hi => H⟩⟩
    have HOK := Lib.hid hokd; clear hokd
    go_enter Try.func78, Try.ntmps78
    go_wp2_with fail
    refine (l02Frame_any gf s a n c P R w (by omega) hs HP.out HR.out (row_lt KF.here) (row_cell 0 KF.here) (row_cell 1 KF.here) KH.here).mono ?_
    rw [hv]
    clear hv
    rintro e w1 ⟨rfl, hb1⟩
    replace KF := KF.on hb1
    replace KD := KD.on hb1
    go_wp2_with fail
    refine (l02Drum_any gf gd s a n c D w1 hN.2 hS.1 hS.2 (row_cell 0 KF.here) (row_cell 1 KF.here) (DrumAt.cells KD.here)).mono ?_
    rintro e w2 ⟨rfl, q, rfl⟩
    cases hvd : vDrum s n D
    all_goals
      have HVD := Lib.hid hvd; clear hvd
      go_wp2
      go_ret
    · exact ⟨ret_int (by rw [HOK.out, HVD.out, unl_false]), below_drewN hb1 _⟩
    · exact ⟨ret_int (by rw [HOK.out, HVD.out, unl_true]), below_drewN hb1 _⟩
end Go.Proofs.Ytmmneedmhmppoaa
