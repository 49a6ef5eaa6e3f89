/- Changes are made, by the reference and by the program. No conditions. -/
import Derived.Test.YtancboodcnomiaaWp
import Derived.Test.YtancboodcnomiaaChg
import Derived.Outline
namespace Go.Proofs.Ytancboodcnomiaa
open Go.RowKit
set_option linter.unusedVariables false
set_option linter.unusedSimpArgs false

/-- the code of a change -/
def wpC (s : Int) (n : Nat) (P R : Nat → Int) (D : Nat → Nat) (k t : Int) (on : Bool) : Int := if plc s n P R D k t = 0 then (if hasPin D k.toNat t.toNat = on then 4 else 0) else plc s n P R D k t
/-- the drum behind a change -/
def wpD (D : Nat → Nat) (k t : Int) : Nat → Nat := upd D k.toNat (D k.toNat ^^^ 2 ^ t.toNat)
section
variable {s : Int} {n : Nat} {P R : Nat → Int} {D : Nat → Nat} {k t : Int} {on : Bool}
theorem wpC_no (h : ¬ plc s n P R D k t = 0) : wpC s n P R D k t on = plc s n P R D k t := if_neg h
theorem wpC_4 (h : plc s n P R D k t = 0) (h2 : hasPin D k.toNat t.toNat = on) : wpC s n P R D k t on = 4 := by unfold wpC; rw [if_pos h, if_pos h2]
theorem wpC_0 (h : plc s n P R D k t = 0) (h2 : ¬ hasPin D k.toNat t.toNat = on) : wpC s n P R D k t on = 0 := by unfold wpC; rw [if_pos h, if_neg h2]
theorem wpC_zero (h : wpC s n P R D k t on = 0) : plc s n P R D k t = 0 ∧ hasPin D k.toNat t.toNat = !on := by
  by_cases h1 : plc s n P R D k t = 0
  · by_cases h2 : hasPin D k.toNat t.toNat = on
    · rw [wpC_4 h1 h2] at h; simp at h
    · refine ⟨h1, ?_⟩
      cases on <;> simpa using h2
  · rw [wpC_no h1] at h; exact absurd h h1
theorem wpD_32 (hD : D32 D) (ht : t.toNat < 24) : D32 (wpD D k t) := upd_32 hD (xor_lt32 (hD _) (by have := pow24 ht; omega))
theorem okAll_frame (h : okAll s n P R 1 (fun _ => D) = true) : (2 ≤ s ∧ s ≤ 96) ∧ (1 ≤ n ∧ n ≤ 24) := ⟨(vFrame_iff.1 (okAll_iff.1 h).1).1, (vFrame_iff.1 (okAll_iff.1 h).1).2.1⟩
end
def wpR (s : Int) (n : Nat) (P R : Nat → Int) (D : Nat → Nat) (k t : Int) (on : Bool) : Nat → Nat := if wpC s n P R D k t on = 0 then wpD D k t else fun _ => 0
theorem wpR_yes {s : Int} {n : Nat} {P R : Nat → Int} {D : Nat → Nat} {k t : Int} {on : Bool} (h : wpC s n P R D k t on = 0) : wpR s n P R D k t on = wpD D k t := if_pos h
theorem wpR_no {s : Int} {n : Nat} {P R : Nat → Int} {D : Nat → Nat} {k t : Int} {on : Bool} {x : Int} (h : wpC s n P R D k t on = x) (hx : ¬ x = 0) : wpR s n P R D k t on = fun _ => 0 := by subst h; exact if_neg hx
attribute [irreducible] wpC wpD wpR
theorem wpD_def (D : Nat → Nat) (k t : Int) : wpD D k t = upd D k.toNat (D k.toNat ^^^ 2 ^ t.toNat) := by unfold wpD; rfl
set_option maxRecDepth 100000 in
theorem withPut_any (s : Int) (a : Option Addr) (n c : Nat) (P R : Nat → Int) (D : Nat → Nat) (k t : Int) (on : Bool) (w : World) (hs : -32768 ≤ s ∧ s ≤ 32767) (hn : n ≤ 1048576) (hP : I8 P) (hR : I8 R) (hh : HamAt w a n P R) (hD : D32 D) :
    Calls Try.prog 118 #[.agg #[.int .i16 s, .slice a n c], .agg (dc D), .int .i64 k, .int .i64 t, .bool on] w fun e w' => e = .returned (.tuple #[.agg (dc (wpR s n P R D k t on)), .int .i64 (wpC s n P R D k t on)]) ∧ Below w.heap.size w w' := by
  have HP := Lib.hid hP; have HR := Lib.hid hR; have HD := Lib.hid hD
  clear hP hR hD
  have KB := Kp.base w
  have KH := kp_ham hh; clear hh
  replace KB := KB.alloc (.cells #[.int .i16 s, .slice a n c] 33)
  replace KH := KH.alloc (.cells #[.int .i16 s, .slice a n c] 33)
  have KF := kp_new1 w #[.int .i16 s, .slice a n c] 33 (g := w.heap.size) (by simp)
  replace KB := KB.alloc (.cells (dc D) 61)
  replace KH := KH.alloc (.cells (dc D) 61)
  replace KF := KF.alloc (.cells (dc D) 61)
  have K1 := kp_newd (w.alloc (.cells #[.int .i16 s, .slice a n c] 33)) (D) 61 (g := w.heap.size + 1) (by simp)
  replace KB := KB.alloc (.cells (dc fun _ => 0) 61)
  replace KH := KH.alloc (.cells (dc fun _ => 0) 61)
  replace KF := KF.alloc (.cells (dc fun _ => 0) 61)
  replace K1 := K1.alloc (.cells (dc fun _ => 0) 61)
  have K0 := kp_newd ((w.alloc (.cells #[.int .i16 s, .slice a n c] 33)).alloc (.cells (dc D) 61)) (fun _ => 0) 61 (g := w.heap.size + 1 + 1) (by simp)
  have HZ := Lib.hid (show (((w.alloc (.cells #[.int .i16 s, .slice a n c] 33)).alloc (.cells (dc D) 61)).alloc (.cells (dc fun _ => 0) 61)).heap.size = w.heap.size + 1 + 1 + 1 by simp)
  go_enter Try.func118, Try.ntmps118
  go_wp2_with (first | (with_reducible refine load_iframe rfl _ rfl w.heap.size rfl _ s a n c KF.here ?_) | (with_reducible refine load_drum rfl _ rfl (w.heap.size + 1) rfl _ D K1.here ?_) | (with_reducible refine alloc_drum ?_ ?_ ?_; with_reducible rfl; with_reducible rfl))
  generalize (((w.alloc (.cells #[.int .i16 s, .slice a n c] 33)).alloc (.cells (dc D) 61)).alloc (.cells (dc fun _ => 0) 61)) = W at KB KH KF K1 K0 HZ ⊢
  clear HZ
  refine (placeCode_any s a n c P R D k t W hs hn HP.out HR.out KH.here HD.out).mono ?_
  rintro e w1 ⟨rfl, hb1⟩
  replace KB := KB.on hb1
  replace K1 := K1.on hb1
  replace K0 := K0.on hb1
  clear hb1
  obtain ⟨x, hx⟩ : ∃ x, plc s n P R D k t = x := ⟨_, rfl⟩
  rw [hx]
  by_cases h0 : x = 0
  · subst h0
    obtain ⟨hok, hk, ht⟩ := plc_zero hx
    obtain ⟨hs2, hn2⟩ := okAll_frame hok
    clear hok
    obtain ⟨k, rfl⟩ : ∃ i : Nat, k = i := ⟨k.toNat, by omega⟩
    obtain ⟨t, rfl⟩ : ∃ i : Nat, t = i := ⟨t.toNat, by omega⟩
    by_cases hp : hasPin D k t = on
    · have HC := Lib.hid (wpC_4 hx hp)
      have HX := Lib.hid hp; clear hx hp
      have h1 := K0.here
      have h1' := DrumAt.setRow h1 (fun _ => 0)
      go_wp2_with (first | (go_at_call 133; refine (has_any _ _ D k t _ HD.out (by omega) (by omega) K1.here).mono ?_; rw [HX.out]; rintro e w2 ⟨rfl, rfl⟩) | (with_reducible refine build_drum rfl rfl ?_) | (with_reducible refine store_drum rfl _ _ rfl (w.heap.size + 1 + 1) (fun _ => 0) rfl rfl _ _ h1 ?_))
      refine bodyPost_ret (results_drum2 rfl _ _ (w.heap.size + 1 + 1) _ (fun _ => 0) (.int .i64 4) rfl h1' rfl) rfl ⟨by rw [HC.out, wpR_no HC.out (by simp)], below_setRow KB.here (by omega) _⟩
    · have HC := Lib.hid (wpC_0 hx hp)
      have hp2 : hasPin D k t = !on := by cases on <;> simpa using hp
      have hxo := putRow_xor hp2
      have hbeq : ((!on) == on) = false := by cases on <;> rfl
      have HX := Lib.hid hp2; have HXO := Lib.hid hxo; clear hx hp hp2 hxo
      have h0 := K0.here
      go_wp2_with (first | (go_at_call 133; refine (has_any _ _ D k t _ HD.out (by omega) (by omega) K1.here).mono ?_; rw [HX.out]; rintro e w2 ⟨rfl, rfl⟩) | (go_at_call 134; fail))
      refine (put_any (w.heap.size + 1) _ D k t on w1 HD.out (by omega) (by omega) K1.here).mono ?_
      rintro e w2 ⟨⟨v, rfl⟩, hb2, hs2, hg2⟩
      rw [HXO.out] at hg2
      have h0' : DrumAt w2 61 (w.heap.size + 1 + 1) (fun _ => 0) := (hs2 (w.heap.size + 1 + 1) (by omega)).trans h0
      have hbw := KB.here.trans (hb2.mono (by omega))
      have hd : upd D k (D k ^^^ 2 ^ t) = wpD D k t := by rw [wpD_def]; rfl
      rw [hd] at hg2
      have HW := Lib.hid hbw
      clear hb2 hs2 h0 hbw hd
      have h1' := DrumAt.setRow h0' (wpD D k t)
      go_wp2_with (first | (with_reducible refine load_drum rfl _ rfl (w.heap.size + 1) rfl _ (wpD D k t) hg2 ?_) | (with_reducible refine store_drum rfl _ _ rfl (w.heap.size + 1 + 1) (wpD D k t) rfl rfl _ _ h0' ?_))
      refine bodyPost_ret (results_drum2 rfl _ _ (w.heap.size + 1 + 1) _ (wpD D k t) (.int .i64 0) rfl h1' rfl) rfl ⟨by rw [HC.out, wpR_yes HC.out], below_setRow HW.out (by omega) _⟩
  · have hc := wpC_no (on := on) (show ¬ plc s n P R D k t = 0 by rw [hx]; exact h0)
    rw [hx] at hc
    have HC := Lib.hid hc
    clear hc hx
    have h1 := K0.here
    have h1' := DrumAt.setRow h1 (fun _ => 0)
    go_wp2_with (first | (with_reducible refine build_drum rfl rfl ?_) | (with_reducible refine store_drum rfl _ _ rfl (w.heap.size + 1 + 1) (fun _ => 0) rfl rfl _ _ h1 ?_))
    refine bodyPost_ret (results_drum2 rfl _ _ (w.heap.size + 1 + 1) _ (fun _ => 0) (.int .i64 x) rfl h1' rfl) rfl ⟨by rw [HC.out, wpR_no HC.out h0], below_setRow KB.here (by omega) _⟩
/-- the drum behind the first i changes -/
def mkD (D : Nat → Nat) (S K : Nat → Int) : Nat → Nat → Nat
  | 0 => D
  | i + 1 => wpD (mkD D S K i) (S i) (K i)
theorem mkD_zero (D : Nat → Nat) (S K : Nat → Int) : mkD D S K 0 = D := rfl
theorem mkD_succ (D : Nat → Nat) (S K : Nat → Int) (i : Nat) : mkD D S K (i + 1) = wpD (mkD D S K i) (S i) (K i) := rfl
/-- the first one of i changes that has an error, and its code -/
def mkGo (s : Int) (n : Nat) (P R : Nat → Int) (D : Nat → Nat) (S K : Nat → Int) (U : Nat → Bool) : Nat → Option (Nat × Int)
  | 0 => none
  | i + 1 => match mkGo s n P R D S K U i with
    | some r => some r
    | none => if wpC s n P R (mkD D S K i) (S i) (K i) (U i) = 0 then none else some (i, wpC s n P R (mkD D S K i) (S i) (K i) (U i))
section
variable {s : Int} {n : Nat} {P R : Nat → Int} {D : Nat → Nat} {S K : Nat → Int} {U : Nat → Bool} {i m : Nat}
theorem mkGo_zero : mkGo s n P R D S K U 0 = none := rfl
theorem mkGo_no (h : mkGo s n P R D S K U i = none) (h2 : wpC s n P R (mkD D S K i) (S i) (K i) (U i) = 0) : mkGo s n P R D S K U (i + 1) = none := by simp only [mkGo, h, if_pos h2]
theorem mkGo_mono {r : Nat × Int} (h : mkGo s n P R D S K U i = some r) (j : Nat) : mkGo s n P R D S K U (i + j) = some r := by
  induction j with
  | zero => exact h
  | succ j ih => rw [Nat.add_succ]; simp only [mkGo, ih]
theorem mkGo_found (hi : i < m) (h : mkGo s n P R D S K U i = none) {x : Int} (hx : wpC s n P R (mkD D S K i) (S i) (K i) (U i) = x) (h2 : ¬ x = 0) : mkGo s n P R D S K U m = some (i, x) := by
  subst hx
  have h3 : mkGo s n P R D S K U (i + 1) = some (i, wpC s n P R (mkD D S K i) (S i) (K i) (U i)) := by simp only [mkGo, h, if_neg h2]
  have := mkGo_mono h3 (m - (i + 1))
  rwa [show i + 1 + (m - (i + 1)) = m by omega] at this
theorem wpC_track {k t : Int} {on : Bool} (h : wpC s n P R D k t on = 0) : t.toNat < 24 := by
  obtain ⟨h1, _⟩ := wpC_zero h
  obtain ⟨h2, _, h3⟩ := plc_zero h1
  have := (okAll_frame h2).2
  omega
end
attribute [irreducible] mkD mkGo
def mtD (D : Nat → Nat) (S K : Nat → Int) (m : Nat) : Option (Nat × Int) → Nat → Nat
  | some _ => fun _ => 0
  | none => mkD D S K m
def mtI (z : Int) : Option (Nat × Int) → Int
  | some r => r.1
  | none => z
def mtC (z : Int) : Option (Nat × Int) → Int
  | some r => r.2
  | none => z
theorem mtD_some (D : Nat → Nat) (S K : Nat → Int) (m : Nat) (r : Nat × Int) : mtD D S K m (some r) = fun _ => 0 := rfl
theorem mtD_none (D : Nat → Nat) (S K : Nat → Int) (m : Nat) : mtD D S K m none = mkD D S K m := rfl
attribute [irreducible] mtD
section
variable {ops : Array Oper} {rest : List Oper} {o : Oper} {a : Act} {w : World} {Q : Exit → Act → World → Prop}
/-- three results: a drum in its own cell, and two more -/
theorem results_drum3 {fn : Func} {p q r : Tmp} (h : fn.results = #[.cell p 61, .tmp q, .tmp r]) (tmps : Array Value) (w : World) (g T : Nat) (D : Nat → Nat) (v u : Value)
    (hp : tmps.getD p undef = .pointer (some ⟨g, 0, none⟩)) (hg : DrumAt w T g D) (hv : tmps.getD q undef = v) (hu : tmps.getD r undef = u) : (results fn tmps).run Try.prog w = .ok (.tuple #[.agg (dc D), v, u]) w := by
  have hp' : tmps[p]?.getD undef = .pointer (some ⟨g, 0, none⟩) := by simpa using hp
  have hv' : tmps[q]?.getD undef = v := by simpa using hv
  have hu' : tmps[r]?.getD undef = u := by simpa using hu
  simp [results, h, hp', hv', hu', asAddr, run_loadVar_row w g T 61 (dc D) (0, 0) _ hg und_drum rfl (by rw [dc_size]; exact size_drum)]
end
set_option maxRecDepth 100000 in
set_option maxHeartbeats 1000000 in
theorem makeChanges_any (s : Int) (a : Option Addr) (n c : Nat) (P R : Nat → Int) (D : Nat → Nat) (b : Option Addr) (m d : Nat) (S K : Nat → Int) (U : Nat → Bool) (w : World) (hs : -32768 ≤ s ∧ s ≤ 32767) (hn : n ≤ 1048576) (hP : I8 P) (hR : I8 R) (hh : HamAt w a n P R) (hD : D32 D) (hm : m ≤ 1048576) (hS : I16 S) (hK : I8 K) (hl : ChgAt w b m S K U) :
    Calls Try.prog 88 #[.agg #[.int .i16 s, .slice a n c], .agg (dc D), .slice b m d] w fun e w' => e = .returned (.tuple #[.agg (dc (mtD D S K m (mkGo s n P R D S K U m))), .int .i64 (mtI 0 (mkGo s n P R D S K U m)), .int .i64 (mtC 0 (mkGo s n P R D S K U m))]) ∧ Below w.heap.size w w' := by
  have HP := Lib.hid hP; have HR := Lib.hid hR; have HS := Lib.hid hS; have HK := Lib.hid hK
  clear hP hR hS hK
  have KB := Kp.base w
  have KH := kp_ham hh; have KC := kp_chg hl; clear hh hl
  have KHo := KH; have KCo := KC
  replace KB := KB.alloc (.cells #[.int .i16 s, .slice a n c] 33)
  replace KH := KH.alloc (.cells #[.int .i16 s, .slice a n c] 33)
  replace KC := KC.alloc (.cells #[.int .i16 s, .slice a n c] 33)
  have KF := kp_new1 w #[.int .i16 s, .slice a n c] 33 (g := w.heap.size) (by simp)
  replace KB := KB.alloc (.cells (dc D) 61)
  replace KH := KH.alloc (.cells (dc D) 61)
  replace KC := KC.alloc (.cells (dc D) 61)
  replace KF := KF.alloc (.cells (dc D) 61)
  have K1 := kp_newd (w.alloc (.cells #[.int .i16 s, .slice a n c] 33)) (D) 61 (g := w.heap.size + 1) (by simp)
  replace KB := KB.alloc (.cells (dc fun _ => 0) 61)
  replace KH := KH.alloc (.cells (dc fun _ => 0) 61)
  replace KC := KC.alloc (.cells (dc fun _ => 0) 61)
  replace KF := KF.alloc (.cells (dc fun _ => 0) 61)
  replace K1 := K1.alloc (.cells (dc fun _ => 0) 61)
  have K0 := kp_newd ((w.alloc (.cells #[.int .i16 s, .slice a n c] 33)).alloc (.cells (dc D) 61)) (fun _ => 0) 61 (g := w.heap.size + 1 + 1) (by simp)
  have HZ := Lib.hid (show (((w.alloc (.cells #[.int .i16 s, .slice a n c] 33)).alloc (.cells (dc D) 61)).alloc (.cells (dc fun _ => 0) 61)).heap.size = w.heap.size + 1 + 1 + 1 by simp)
  go_enter Try.func88, Try.ntmps88
  go_wp2_with (with_reducible refine alloc_drum ?_ ?_ ?_; with_reducible rfl; with_reducible rfl)
  generalize (((w.alloc (.cells #[.int .i16 s, .slice a n c] 33)).alloc (.cells (dc D) 61)).alloc (.cells (dc fun _ => 0) 61)) = W at KB KH KC KF K1 K0 HZ ⊢
  have hz := HZ.out
  have HBW := Lib.hid KB.here; have HF0 := Lib.hid KF.here; have H1 := Lib.hid K1.here; have H0 := Lib.hid K0.here
  clear KB KH KC KF K1 K0 HZ
  go_loopw [15] (fun i w' => Below (w.heap.size + 1) W w' ∧ ∃ k : Nat, k ≤ m ∧ i = .int .i64 k ∧ W.heap.size ≤ w'.heap.size ∧ DrumAt w' 61 (w.heap.size + 1) (mkD D S K k) ∧ DrumAt w' 61 (w.heap.size + 1 + 1) (fun _ => 0) ∧ D32 (mkD D S K k) ∧ mkGo s n P R D S K U k = none) (fun i _ => m - (intOf i).toNat)
  case atStart => exact ⟨Below.refl _ _, 0, by omega, rfl, Nat.le_refl _, by rw [mkD_zero]; exact H1.out, H0.out, by rw [mkD_zero]; exact hD, mkGo_zero⟩
  case round =>
    clear H1 H0
    obtain ⟨hb, k, hk, rfl, hsz, h1, h0, hD3, hG⟩ := hrel
    have H1 := Lib.hid h1; have H0 := Lib.hid h0; have HD3 := Lib.hid hD3; have HG := Lib.hid hG
    clear h1 h0 hD3 hG
    have hbw := HBW.out.trans (hb.mono (by omega))
    have hfr := (hb.block w.heap.size (by omega)).trans HF0.out
    have HFR := Lib.hid hfr; clear hfr
    by_cases hlt : k < m
    · have hx := ChgAt.get (KCo.at hbw) (show 0 < m by omega)
      obtain ⟨g, off, rfl, hg, hc⟩ := hx
      have c0 := (hc k hlt).1
      have c1 := (hc k hlt).2.1
      have c2 := (hc k hlt).2.2
      clear hc
      have hk' : (k : Int) < m := by omega
      have hs1 := HS.out k
      have hs2 := HK.out k
      have q1 := i64_id (x := S k) (by omega)
      have q2 := i64_id (x := K k) (by omega)
      go_wp2_with (first | (with_reducible refine load_iframe rfl _ rfl w.heap.size rfl _ s a n c ((Below.heap_alloc _ _ _ (row_lt HFR.out)).trans HFR.out) ?_) | (with_reducible refine load_drum rfl _ rfl (w.heap.size + 1) rfl _ (mkD D S K k) (H1.out.alloc _) ?_))
      have A1 := H1.out.alloc (.cells #[.int .i16 (S k), .int .i8 (K k), .bool (U k)] 118)
      have A0 := H0.out.alloc (.cells #[.int .i16 (S k), .int .i8 (K k), .bool (U k)] 118)
      have AB : Below (w.heap.size + 1) W (wr.alloc (.cells #[.int .i16 (S k), .int .i8 (K k), .bool (U k)] 118)) := hb.alloc (by omega) _
      have asz : (wr.alloc (.cells #[.int .i16 (S k), .int .i8 (K k), .bool (U k)] 118)).heap.size = wr.heap.size + 1 := by simp
      clear c0 c1 c2
      generalize wr.alloc (.cells #[.int .i16 (S k), .int .i8 (K k), .bool (U k)] 118) = V at A1 A0 AB asz ⊢
      refine (withPut_any s a n c P R (mkD D S K k) (S k) (K k) (U k) V hs hn HP.out HR.out (KHo.at (HBW.out.trans (AB.mono (by omega)))) HD3.out).mono ?_
      rintro e w2 ⟨rfl, hb2⟩
      have hs2' := hb2.size
      have B1 := Lib.hid (A1.below hb2 A1.lt); have B0 := Lib.hid (A0.below hb2 A0.lt); have BB := Lib.hid (AB.trans (hb2.mono (by omega)))
      clear A1 A0 AB hb2 hb
      obtain ⟨x, hx⟩ : ∃ x, wpC s n P R (mkD D S K k) (S k) (K k) (U k) = x := ⟨_, rfl⟩
      rw [hx]
      by_cases h0 : x = 0
      · subst h0
        have hn1 := Lib.hid (mkGo_no HG.out hx)
        have ht := wpC_track hx
        have hD4 := Lib.hid (wpD_32 (k := S k) HD3.out ht)
        have hsc := Lib.hid (mkD_succ D S K k)
        rw [wpR_yes hx]
        clear hx
        have h1 := B1.out
        go_wp2_with (first | (with_reducible refine copy_drum rfl rfl rfl _ _ rfl (wpD (mkD D S K k) (S k) (K k)) rfl rfl ?_; intro V2 hb3 hz3 hg3; have HG3 := Lib.hid hg3; have HB3 := Lib.hid hb3; have HZ3 := Lib.hid hz3; have h1 := Lib.hid (B1.out.below hb3 B1.out.lt); have h0 := Lib.hid (B0.out.below hb3 B0.out.lt); clear hb3 hz3 hg3) | (with_reducible refine load_drum rfl _ rfl w2.heap.size rfl _ (wpD (mkD D S K k) (S k) (K k)) HG3.out ?_) | (with_reducible refine store_drum rfl _ _ rfl (w.heap.size + 1) (wpD (mkD D S K k) (S k) (K k)) rfl rfl _ _ h1.out ?_))
        go_roundw
        case rel =>
          have hz3 := HZ3.out
          refine ⟨below_setRow (BB.out.trans (HB3.out.mono (by omega))) (Nat.le_refl _) _, k + 1, by omega, by go_num, by simp; omega, ?_, h0.out.setRowOther _ _ (by omega), by rw [hsc.out]; exact hD4.out, hn1.out⟩
          rw [hsc.out]
          exact h1.out.setRow _
        case measure => simp [intOf]; omega
      · have hf1 := Lib.hid (mkGo_found hlt HG.out hx h0)
        clear hx
        have HWB := Lib.hid (HBW.out.trans (BB.out.mono (by omega)))
        go_wp2_with (first | (with_reducible refine copy_drum rfl rfl rfl _ _ rfl _ rfl rfl ?_; intro V2 hb3 hz3 hg3; have HB3 := Lib.hid hb3; have h0 := Lib.hid (B0.out.below hb3 B0.out.lt); clear hb3 hz3 hg3) | (with_reducible refine build_drum rfl rfl ?_) | (with_reducible refine store_drum rfl _ _ rfl (w.heap.size + 1 + 1) (fun _ => 0) rfl rfl _ _ h0.out ?_))
        refine bodyPost_ret (results_drum3 rfl _ _ (w.heap.size + 1 + 1) _ (fun _ => 0) (.int .i64 k) (.int .i64 x) rfl (h0.out.setRow _) rfl rfl) rfl ⟨by rw [hf1.out, mtD_some]; rfl, below_setRow (HWB.out.trans (HB3.out.mono (by omega))) (by omega) _⟩
    · have hkm : k = m := by omega
      subst hkm
      have h1 := H1.out; have h0 := H0.out
      have h0' := DrumAt.setRow h0 (mkD D S K k)
      go_wp2_with (first | (with_reducible refine load_drum rfl _ rfl (w.heap.size + 1) rfl _ (mkD D S K k) h1 ?_) | (with_reducible refine store_drum rfl _ _ rfl (w.heap.size + 1 + 1) (mkD D S K k) rfl rfl _ _ h0 ?_))
      refine bodyPost_ret (results_drum3 rfl _ _ (w.heap.size + 1 + 1) _ (mkD D S K k) (.int .i64 0) (.int .i64 0) rfl h0' rfl rfl) rfl ⟨by rw [HG.out, mtD_none]; rfl, below_setRow hbw (by omega) _⟩
set_option maxRecDepth 100000 in
theorem l02Asked_any (gf gd T : Nat) (s : Int) (a : Option Addr) (n c : Nat) (P R : Nat → Int) (D : Nat → Nat) (w : World) (hs : -32768 ≤ s ∧ s ≤ 32767) (hn : n ≤ 1048576) (hP : I8 P) (hR : I8 R) (hh : HamAt w a n P R) (hf : w.heap[gf]? = some (.cells #[.int .i16 s, .slice a n c] 33 (0, 0))) (hd : DrumAt w T gd D) :
    Calls Try.prog 90 #[.pointer (some ⟨gf, 0, none⟩), .pointer (some ⟨gd, 0, none⟩)] w fun e w' => e = .returned (.int .i64 (unl (okAll s n P R 1 (fun _ => D)) 1)) ∧ Below w.heap.size w w' := by
  have HP := Lib.hid hP; have HR := Lib.hid hR
  clear hP hR
  have KF := kp_row hf; have KD := kp_drum hd; have KH := kp_ham hh; clear hf hd hh
  cases hv : vFrame s n P R
  · go_enter Try.func90, Try.ntmps90
    go_wp2_with fail
    refine (l02Frame_any gf s a n c P R w (by omega) hs HP.out HR.out (row_lt KF.here) (row_cell 0 KF.here) (row_cell 1 KF.here) KH.here).mono ?_
    rw [hv]
    rintro e w1 ⟨rfl, hb1⟩
    have hno : okAll s n P R 1 (fun _ => D) = false := by
      rw [← Bool.not_eq_true, okAll_iff]
      rintro ⟨H, _⟩
      rw [hv] at H
      exact absurd H (by simp)
    have HNO := Lib.hid hno; clear hno hv
    go_wp2
    go_ret
    exact ⟨ret_int (by rw [HNO.out, unl_false]), hb1⟩
  · obtain ⟨hS, hN, _⟩ := vFrame_iff.1 hv
    have hokd : okAll s n P R 1 (fun _ => D) = vDrum s n D := by
      rw [Bool.eq_iff_iff, okAll_iff]
      exact ⟨fun H => H.2 0 (by omega), fun H => ⟨hv, fun i hi => H⟩⟩
    have HOK := Lib.hid hokd; clear hokd
    go_enter Try.func90, Try.ntmps90
    go_wp2_with fail
    refine (l02Frame_any gf s a n c P R w (by omega) hs HP.out HR.out (row_lt KF.here) (row_cell 0 KF.here) (row_cell 1 KF.here) KH.here).mono ?_
    rw [hv]
    clear hv
    rintro e w1 ⟨rfl, hb1⟩
    replace KF := KF.on hb1
    replace KD := KD.on hb1
    go_wp2_with fail
    refine (l02Drum_any gf gd s a n c D w1 hN.2 hS.1 hS.2 (row_cell 0 KF.here) (row_cell 1 KF.here) (DrumAt.cells KD.here)).mono ?_
    rintro e w2 ⟨rfl, q, rfl⟩
    cases hvd : vDrum s n D
    all_goals
      have HVD := Lib.hid hvd; clear hvd
      go_wp2
      go_ret
    · exact ⟨ret_int (by rw [HOK.out, HVD.out, unl_false]), below_drewN hb1 _⟩
    · exact ⟨ret_int (by rw [HOK.out, HVD.out, unl_true]), below_drewN hb1 _⟩
set_option maxRecDepth 100000 in
theorem l02Place_any (gf gd T : Nat) (s : Int) (a : Option Addr) (n c : Nat) (P R : Nat → Int) (D : Nat → Nat) (k t : Int) (w : World) (hs : -32768 ≤ s ∧ s ≤ 32767) (hn : n ≤ 1048576) (hP : I8 P) (hR : I8 R) (hh : HamAt w a n P R) (hf : w.heap[gf]? = some (.cells #[.int .i16 s, .slice a n c] 33 (0, 0))) (hd : DrumAt w T gd D) :
    Calls Try.prog 116 #[.pointer (some ⟨gf, 0, none⟩), .pointer (some ⟨gd, 0, none⟩), .int .i64 k, .int .i64 t] w fun e w' => e = .returned (.int .i64 (plc s n P R D k t)) ∧ Below w.heap.size w w' := by
  have HP := Lib.hid hP; have HR := Lib.hid hR
  clear hP hR
  have KB := Kp.base w
  have KF := kp_row hf; have KD := kp_drum hd; have KH := kp_ham hh; clear hf hd hh
  have q1 := i64_id (x := s) (by omega)
  have q2 := i64_id (x := s - 1) (by omega)
  have q3 := i64_id (x := (n : Int) - 1) (by omega)
  cases hok : okAll s n P R 1 (fun _ => D)
  · have HPL := Lib.hid (plc_1 (k := k) (t := t) hok)
    go_enter Try.func116, Try.ntmps116
    go_wp2_with fail
    refine (l02Asked_any gf gd T s a n c P R D w hs hn HP.out HR.out KH.here KF.here KD.here).mono ?_
    rw [hok, unl_false]
    clear hok
    rintro e w1 ⟨rfl, hb1⟩
    go_wp2
    go_ret
    exact ⟨ret_int HPL.out.symm, hb1⟩
  · cases h1 : inB k 0 (s - 1)
    · have HPL := Lib.hid (plc_2 (k := k) (t := t) hok (by rw [h1]; rfl))
      go_enter Try.func116, Try.ntmps116
      go_wp2_with fail
      refine (l02Asked_any gf gd T s a n c P R D w hs hn HP.out HR.out KH.here KF.here KD.here).mono ?_
      rw [hok, unl_true]
      clear hok
      rintro e w1 ⟨rfl, hb1⟩
      replace KF := KF.on hb1
      replace KB := KB.on hb1
      have d0 := row_cell 0 KF.here
      go_wp2_with (go_at_call 73; refine (l00In_any _ _ _ _).mono ?_; rintro e w2 ⟨rfl, rfl⟩)
      go_ret
      exact ⟨ret_int HPL.out.symm, KB.here⟩
    · cases h2 : inB t 0 ((n : Int) - 1)
      · have HPL := Lib.hid (plc_2 (k := k) (t := t) hok (by rw [h1, h2]; rfl))
        go_enter Try.func116, Try.ntmps116
        go_wp2_with fail
        refine (l02Asked_any gf gd T s a n c P R D w hs hn HP.out HR.out KH.here KF.here KD.here).mono ?_
        rw [hok, unl_true]
        clear hok
        rintro e w1 ⟨rfl, hb1⟩
        replace KF := KF.on hb1
        replace KB := KB.on hb1
        have d0 := row_cell 0 KF.here
        have d1 := row_cell 1 KF.here
        go_wp2_with (go_at_call 73; refine (l00In_any _ _ _ _).mono ?_; rintro e w2 ⟨rfl, rfl⟩)
        go_ret
        exact ⟨ret_int HPL.out.symm, KB.here⟩
      · have HPL := Lib.hid (plc_0 (k := k) (t := t) hok (by rw [h1, h2]; rfl))
        go_enter Try.func116, Try.ntmps116
        go_wp2_with fail
        refine (l02Asked_any gf gd T s a n c P R D w hs hn HP.out HR.out KH.here KF.here KD.here).mono ?_
        rw [hok, unl_true]
        clear hok
        rintro e w1 ⟨rfl, hb1⟩
        replace KF := KF.on hb1
        replace KB := KB.on hb1
        have d0 := row_cell 0 KF.here
        have d1 := row_cell 1 KF.here
        go_wp2_with (go_at_call 73; refine (l00In_any _ _ _ _).mono ?_; rintro e w2 ⟨rfl, rfl⟩)
        go_ret
        exact ⟨ret_int HPL.out.symm, KB.here⟩
end Go.Proofs.Ytancboodcnomiaa
