/- When a drum is valid for a valid frame; the codes of a frame and drums, by the reference and by the program. No conditions. -/
import Derived.Test.YtlcfjeofphncgaaFrame2
import Derived.Test.YtlcfjeofphncgaaDrums
import Derived.Outline
namespace Go.Proofs.Ytlcfjeofphncgaa
open Go.RowKit
set_option linter.unusedVariables false
set_option linter.unusedSimpArgs false

/-- a drum is valid for a valid frame with s steps and n hammers -/
def vDrum (s : Int) (n : Nat) (D : Nat → Nat) : Bool := (List.range 96).all fun k => decide (D k / 2 ^ n = 0 ∧ (s ≤ (k : Int) → D k = 0))
theorem vDrum_iff {s : Int} {n : Nat} {D : Nat → Nat} : vDrum s n D = true ↔ ∀ k, k < 96 → D k / 2 ^ n = 0 ∧ (s ≤ (k : Int) → D k = 0) := by
  simp only [vDrum, List.all_eq_true, List.mem_range, decide_eq_true_eq]
theorem vDrum_false {s : Int} {n : Nat} {D : Nat → Nat} (k : Nat) (hk : k < 96) (h : ¬ (D k / 2 ^ n = 0 ∧ (s ≤ (k : Int) → D k = 0))) : vDrum s n D = false := by
  rw [← Bool.not_eq_true, vDrum_iff]
  exact fun H => h (H k hk)
attribute [irreducible] vDrum
theorem ne0_false {x n : Nat} (h : x / 2 ^ n = 0) : ((x : Int) / 2 ^ n != 0) = false := by rw [bne_eq_false_iff_eq]; exact_mod_cast h
theorem ne0_true {x n : Nat} (h : ¬ x / 2 ^ n = 0) : ((x : Int) / 2 ^ n != 0) = true := by rw [bne_iff_ne]; exact_mod_cast h
theorem z0_false {x : Nat} (h : x = 0) : ((x : Int) != 0) = false := by rw [bne_eq_false_iff_eq]; exact_mod_cast h
theorem z0_true {x : Nat} (h : ¬ x = 0) : ((x : Int) != 0) = true := by rw [bne_iff_ne]; exact_mod_cast h

theorem l02Drum_any (gf gd : Nat) (s : Int) (a : Option Addr) (n c : Nat) (D : Nat → Nat) (w : World) (hn : n ≤ 24) (hs0 : 2 ≤ s) (hs1 : s ≤ 96)
    (h0 : w.cell? ⟨gf, 0, none⟩ = some (.int .i16 s)) (h1 : w.cell? ⟨gf, 1, none⟩ = some (.slice a n c)) (hd : DrumCells w gd 0 D) :
    Calls Try.prog 67 #[.pointer (some ⟨gf, 0, none⟩), .pointer (some ⟨gd, 0, none⟩)] w fun e w' => e = .returned (.bool (vDrum s n D)) ∧ ∃ q, w' = w.drewN q := by
  have Hd := Lib.hid hd; clear hd
  go_enter Try.func67, Try.ntmps67
  go_wp2
  go_loopw [5] (fun i w' => (∃ q, w' = w.drewN q) ∧ ∃ k : Nat, k ≤ 96 ∧ i = .int .i64 k ∧ ∀ j, j < k → D j / 2 ^ n = 0 ∧ (s ≤ (j : Int) → D j = 0)) (fun i _ => 96 - (intOf i).toNat)
  case atStart => exact ⟨⟨0, rfl⟩, 0, by omega, rfl, fun j hj => by omega⟩
  case round =>
    obtain ⟨⟨q, rfl⟩, k, hk, rfl, hP⟩ := hrel
    have HP := Lib.hid hP; clear hP
    by_cases hlt : k < 96
    · have hdk := Hd.out k hlt
      rw [Nat.zero_add] at hdk
      have hw1 := u64_nat n (by omega)
      have hw2 : min n 32 = n := by omega
      by_cases h1 : D k / 2 ^ n = 0
      · have hb1 := ne0_false h1
        have H1 := Lib.hid h1; clear h1
        by_cases h2 : s ≤ k
        · have h2' : decide (s ≤ (k : Int)) = true := by simpa using h2
          by_cases h3 : D k = 0
          · have hb3 := z0_false h3
            have H3 := Lib.hid h3; clear h3
            go_wp2
            go_quiet (fail)
            go_wp2
            go_roundw
            case rel => exact ⟨⟨q + nq, by first | rfl | rw [World.drewN_drewN]⟩, k + 1, by omega, by go_num, fun j hj => if e : j = k then e ▸ ⟨H1.out, fun _ => H3.out⟩ else HP.out j (by omega)⟩
            case measure => simp [intOf]; omega
          · have hb3 := z0_true h3
            have H3 := Lib.hid h3; clear h3
            go_wp2
            go_quiet (fail)
            go_wp2
            go_ret
            exact ⟨ret_bool (vDrum_false k hlt fun H => H3.out (H.2 h2)).symm, q + nq, by first | rfl | rw [World.drewN_drewN]⟩
        · have h2' : decide (s ≤ (k : Int)) = false := by simpa using h2
          have H2 := Lib.hid h2; clear h2
          go_wp2
          go_quiet (fail)
          go_wp2
          go_roundw
          case rel => exact ⟨⟨q + nq, by first | rfl | rw [World.drewN_drewN]⟩, k + 1, by omega, by go_num, fun j hj => if e : j = k then e ▸ ⟨H1.out, fun h => absurd h (by have := H2.out; omega)⟩ else HP.out j (by omega)⟩
          case measure => simp [intOf]; omega
      · have hb1 := ne0_true h1
        have H1 := Lib.hid h1; clear h1
        go_wp2
        go_quiet (fail)
        go_wp2
        go_ret
        exact ⟨ret_bool (vDrum_false k hlt fun H => H1.out H.1).symm, q + nq, by first | rfl | rw [World.drewN_drewN]⟩
    · go_wp2
      go_ret
      exact ⟨ret_bool (vDrum_iff.2 fun j hj => HP.out j (by omega)).symm, _, rfl⟩
theorem isDrum_any (s : Int) (a : Option Addr) (n c : Nat) (D : Nat → Nat) (w : World) (hn : n ≤ 24) (hs0 : 2 ≤ s) (hs1 : s ≤ 96) :
    Calls Try.prog 75 #[.agg #[.int .i16 s, .slice a n c], .agg (dc D)] w fun e w' => e = .returned (.bool (vDrum s n D)) ∧ Below w.heap.size w w' := by
  have hg := DrumAt.new2 w (.cells #[.int .i16 s, .slice a n c] 27) 33 D
  have hb0 : Below w.heap.size w ((w.alloc (.cells #[.int .i16 s, .slice a n c] 27)).alloc (.cells (dc D) 33)) := ((Below.refl _ _).alloc (Nat.le_refl _) _).alloc (by simp) _
  have HB := Lib.hid hb0; clear hb0
  go_enter Try.func75, Try.ntmps75
  go_wp2_with (with_reducible refine load_drum rfl _ rfl (w.heap.size + 1) rfl _ D hg ?_)
  clear hg
  go_loop [8] (fun i => ∃ k : Nat, k ≤ 96 ∧ i = .int .i64 k ∧ ∀ j, j < k → D j / 2 ^ n = 0 ∧ (s ≤ (j : Int) → D j = 0)) (fun i => 96 - (intOf i).toNat)
  case atStart => exact ⟨0, by omega, rfl, fun j hj => by omega⟩
  case round =>
    obtain ⟨k, hk, rfl, hP⟩ := hrel
    have HP := Lib.hid hP; clear hP
    by_cases hlt : k < 96
    · have hix := index_drum D k hlt
      have hw2 : min n 32 = n := by omega
      by_cases h1 : D k / 2 ^ n = 0
      · have hb1 := ne0_false h1
        have H1 := Lib.hid h1; clear h1
        by_cases h2 : s ≤ k
        · have h2' : decide (s ≤ (k : Int)) = true := by simpa using h2
          by_cases h3 : D k = 0
          · have hb3 := z0_false h3
            have H3 := Lib.hid h3; clear h3
            go_wp2
            go_round
            case rel => exact ⟨k + 1, by omega, by go_num, fun j hj => if e : j = k then e ▸ ⟨H1.out, fun _ => H3.out⟩ else HP.out j (by omega)⟩
            case measure => simp [intOf]; omega
          · have hb3 := z0_true h3
            have H3 := Lib.hid h3; clear h3
            go_wp2
            go_ret
            exact ⟨ret_bool (vDrum_false k hlt fun H => H3.out (H.2 h2)).symm, HB.out⟩
        · have h2' : decide (s ≤ (k : Int)) = false := by simpa using h2
          have H2 := Lib.hid h2; clear h2
          go_wp2
          go_round
          case rel => exact ⟨k + 1, by omega, by go_num, fun j hj => if e : j = k then e ▸ ⟨H1.out, fun h => absurd h (by have := H2.out; omega)⟩ else HP.out j (by omega)⟩
          case measure => simp [intOf]; omega
      · have hb1 := ne0_true h1
        have H1 := Lib.hid h1; clear h1
        go_wp2
        go_ret
        exact ⟨ret_bool (vDrum_false k hlt fun H => H1.out H.1).symm, HB.out⟩
    · go_wp2
      go_ret
      exact ⟨ret_bool (vDrum_iff.2 fun j hj => HP.out j (by omega)).symm, HB.out⟩
theorem drumCode1_any (gf : Nat) (s : Int) (a : Option Addr) (n c : Nat) (D : Nat → Nat) (w : World) (hn : n ≤ 24) (hs0 : 2 ≤ s) (hs1 : s ≤ 96) (hgf : gf < w.heap.size)
    (h0 : w.cell? ⟨gf, 0, none⟩ = some (.int .i16 s)) (h1 : w.cell? ⟨gf, 1, none⟩ = some (.slice a n c)) :
    Calls Try.prog 74 #[.agg (dc D), .pointer (some ⟨gf, 0, none⟩)] w fun e w' => e = .returned (.bool (!vDrum s n D)) ∧ Below w.heap.size w w' := by
  have hg := DrumAt.new w 33 D
  have hb0 : Below w.heap.size w (w.alloc (.cells (dc D) 33)) := (Below.refl _ _).alloc (Nat.le_refl _) _
  go_enter Try.func74, Try.ntmps74
  go_wp2_with (first | (with_reducible refine load_drum rfl _ rfl w.heap.size rfl _ D hg ?_) | (go_at_call 75; refine (isDrum_any s a n c D _ hn hs0 hs1).mono ?_; rintro e w1 ⟨rfl, hb1⟩))
  go_ret
  exact ⟨rfl, hb0.trans (hb1.mono (by simp))⟩
theorem indexFuncDrum_any (a : Option Addr) (n c : Nat) (L : Nat → Nat → Nat) (cp : Value) (p : Nat → Bool) (w : World) (hn : n ≤ 1000000000) (hh : DrumsAt w a n L)
    (hcall : ∀ W k, k < n → Below w.heap.size w W → Calls Try.prog 74 #[.agg (dc (L k)), cp] W fun e W' => e = .returned (.bool (p k)) ∧ Below W.heap.size W W') :
    Calls Try.prog 40 #[.slice a n c, .func (.func 74) #[] #[cp]] w fun e w' => ∃ r, e = .returned (.int .i64 r) ∧ IdxOf p n r ∧ Below w.heap.size w w' := by
  have HH := Lib.hid hh; clear hh
  have HC := Lib.hid hcall; clear hcall
  go_enter Try.func40, Try.ntmps40
  go_wp2
  go_loopw [8] (fun i w' => Below w.heap.size w w' ∧ ∃ k : Nat, k ≤ n ∧ i = .int .i64 k ∧ ∀ j, j < k → p j = false) (fun i _ => n - (intOf i).toNat)
  case atStart => exact ⟨Below.refl _ _, 0, by omega, rfl, fun j hj => by omega⟩
  case round =>
    obtain ⟨hb, k, hk, rfl, hK⟩ := hrel
    have HK := Lib.hid hK; clear hK
    by_cases hlt : k < n
    · have hx := DrumsAt.get HH.out (show 0 < n by omega)
      obtain ⟨g, off, rfl, hg, hc⟩ := hx
      have hck := Lib.hid ((hc k hlt).below hb hg)
      clear hc
      cases hp : p k
      · go_wp2_with (first | (with_reducible refine load_drum_mid rfl _ rfl g (off + k * 96) rfl (L k) hck.out ?_) | (go_at_call 74; refine (HC.out _ k hlt hb).mono ?_; rintro e w1 ⟨rfl, hb1⟩))
        go_roundw
        case rel => exact ⟨hb.trans (hb1.mono hb.size), k + 1, by omega, by go_num, fun j hj => if e : j = k then e ▸ hp else HK.out j (by omega)⟩
        case measure => simp [intOf]; omega
      · go_wp2_with (first | (with_reducible refine load_drum_mid rfl _ rfl g (off + k * 96) rfl (L k) hck.out ?_) | (go_at_call 74; refine (HC.out _ k hlt hb).mono ?_; rintro e w1 ⟨rfl, hb1⟩))
        go_ret
        exact ⟨_, rfl, .inr ⟨k, rfl, hlt, hp, HK.out⟩, hb.trans (hb1.mono hb.size)⟩
    · go_wp2
      go_ret
      exact ⟨_, rfl, .inl ⟨rfl, fun j hj => HK.out j (by omega)⟩, hb⟩
theorem containsFuncDrum_any (a : Option Addr) (n c : Nat) (L : Nat → Nat → Nat) (cp : Value) (p : Nat → Bool) (w : World) (hn : n ≤ 1000000000) (hh : DrumsAt w a n L)
    (hcall : ∀ W k, k < n → Below w.heap.size w W → Calls Try.prog 74 #[.agg (dc (L k)), cp] W fun e W' => e = .returned (.bool (p k)) ∧ Below W.heap.size W W') :
    Calls Try.prog 73 #[.slice a n c, .func (.func 74) #[] #[cp]] w fun e w' => e = .returned (.bool (anyB p n)) ∧ Below w.heap.size w w' := by
  have HH := Lib.hid hh; clear hh
  have HC := Lib.hid hcall; clear hcall
  go_enter Try.func73, Try.ntmps73
  go_wp2_with (go_at_call 40; refine (indexFuncDrum_any _ _ _ _ _ _ _ hn HH.out HC.out).mono ?_; rintro e w1 ⟨r, rfl, hr, hb⟩)
  go_ret
  exact ⟨ret_bool hr.any, hb⟩
/-- a frame and drums are valid -/
def okAll (s : Int) (n : Nat) (P R : Nat → Int) (m : Nat) (L : Nat → Nat → Nat) : Bool := vFrame s n P R && (List.range m).all fun i => vDrum s n (L i)
theorem okAll_iff {s : Int} {n : Nat} {P R : Nat → Int} {m : Nat} {L : Nat → Nat → Nat} : okAll s n P R m L = true ↔ vFrame s n P R = true ∧ ∀ i, i < m → vDrum s n (L i) = true := by
  simp only [okAll, Bool.and_eq_true, List.all_eq_true, List.mem_range]
attribute [irreducible] okAll
theorem drumCode_any (s : Int) (a : Option Addr) (n c : Nat) (P R : Nat → Int) (b : Option Addr) (m d : Nat) (L : Nat → Nat → Nat) (w : World) (hn : n ≤ 1000000000) (hm : m ≤ 1000000000) (hs : -32768 ≤ s ∧ s ≤ 32767) (hP : I8 P) (hR : I8 R)
    (hh : HamAt w a n P R) (hl : DrumsAt w b m L) :
    Calls Try.prog 46 #[.agg #[.int .i16 s, .slice a n c], .slice b m d] w fun e w' => e = .returned (.int .i64 (unl (okAll s n P R m L) 1)) ∧ Below w.heap.size w w' := by
  have HP := Lib.hid hP; clear hP
  have HR := Lib.hid hR; clear hR
  have HH := Lib.hid hh; clear hh
  have HL := Lib.hid hl; clear hl
  have hb0 : Below w.heap.size w (w.alloc (.cells #[.int .i16 s, .slice a n c] 27)) := (Below.refl _ _).alloc (Nat.le_refl _) _
  have HB0 := Lib.hid hb0; clear hb0
  cases hv : vFrame s n P R
  · go_enter Try.func46, Try.ntmps46
    go_wp2_with (first | (go_at_call 72; refine (validFrame_any s a n c P R _ hn hs HP.out HR.out (HH.out.below HB0.out)).mono ?_; rintro e w1 ⟨rfl, hb1⟩) | (go_at_call 54; refine (unless_any _ _ _).mono ?_; rintro e w' ⟨rfl, rfl⟩))
    go_ret
    have : okAll s n P R m L = false := by
      rw [← Bool.not_eq_true, okAll_iff]
      rintro ⟨H, _⟩
      rw [hv] at H
      exact absurd H (by simp)
    exact ⟨ret_int (by rw [this]), HB0.out.trans (hb1.mono (by simp))⟩
  · obtain ⟨hS, hN, _⟩ := vFrame_iff.1 hv
    go_enter Try.func46, Try.ntmps46
    go_wp2_with (go_at_call 72; refine (validFrame_any s a n c P R _ hn hs HP.out HR.out (HH.out.below HB0.out)).mono ?_; rintro e w1 ⟨rfl, hb1⟩)
    have hb2 := HB0.out.trans (hb1.mono (by simp))
    have hz : w.heap.size < w1.heap.size := by have := hb1.size; simp at this; omega
    have f0 : w1.cell? ⟨w.heap.size, 0, none⟩ = some (.int .i16 s) := (hb1.cell (p := ⟨w.heap.size, 0, none⟩) (by simp)).trans (by simp)
    have f1 : w1.cell? ⟨w.heap.size, 1, none⟩ = some (.slice a n c) := (hb1.cell (p := ⟨w.heap.size, 1, none⟩) (by simp)).trans (by simp)
    refine (containsFuncDrum_any b m d L _ (fun i => !vDrum s n (L i)) _ hm (HL.out.below hb2) ?_).mono ?_
    · intro W k hk hbW
      exact drumCode1_any _ s a n c (L k) W hN.2 hS.1 hS.2 (by have := hbW.size; omega) ((hbW.cell (p := ⟨w.heap.size, 0, none⟩) hz).trans f0) ((hbW.cell (p := ⟨w.heap.size, 1, none⟩) hz).trans f1)
    · rintro e w2 ⟨rfl, hb3⟩
      have hb4 := hb2.trans (hb3.mono hb2.size)
      go_wp2_with (go_at_call 54; refine (unless_any _ _ _).mono ?_; rintro e w' ⟨rfl, rfl⟩)
      go_ret
      refine ⟨ret_int ?_, hb4⟩
      congr 1
      rw [Bool.eq_iff_iff, okAll_iff, Bool.not_eq_true', ← Bool.not_eq_true, anyB_iff]
      constructor
      · intro h
        refine ⟨hv, fun i hi => ?_⟩
        cases hq : vDrum s n (L i)
        · exact absurd ⟨i, hi, by simp [hq]⟩ h
        · rfl
      · rintro ⟨_, h⟩ ⟨i, hi, hq⟩
        rw [h i hi] at hq
        exact absurd hq (by simp)
end Go.Proofs.Ytlcfjeofphncgaa
