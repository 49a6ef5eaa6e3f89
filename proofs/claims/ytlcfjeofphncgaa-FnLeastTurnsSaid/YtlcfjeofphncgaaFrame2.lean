/- Frames: when they are valid, by the program (a closure handed to slices.ContainsFunc). No conditions. -/
import Derived.Test.YtlcfjeofphncgaaFrame
namespace Go.Proofs.Ytlcfjeofphncgaa
open Go.RowKit
set_option linter.unusedVariables false
set_option linter.unusedSimpArgs false

/-- some index below n -/
def anyB (p : Nat → Bool) (n : Nat) : Bool := (List.range n).any p
theorem anyB_iff {p : Nat → Bool} {n : Nat} : anyB p n = true ↔ ∃ k, k < n ∧ p k = true := by simp [anyB]
theorem anyB_false {p : Nat → Bool} {n : Nat} (h : ∀ k, k < n → p k = false) : anyB p n = false := by
  rw [← Bool.not_eq_true, anyB_iff]
  rintro ⟨k, hk, hp⟩
  rw [h k hk] at hp
  exact absurd hp (by simp)
/-- the first index below n, -1 if there is none -/
def IdxOf (p : Nat → Bool) (n : Nat) (r : Int) : Prop := (r = -1 ∧ ∀ k, k < n → p k = false) ∨ ∃ k : Nat, r = k ∧ k < n ∧ p k = true ∧ ∀ j, j < k → p j = false
theorem IdxOf.any {p : Nat → Bool} {n : Nat} {r : Int} (h : IdxOf p n r) : decide (0 ≤ r) = anyB p n := by
  rcases h with ⟨rfl, h⟩ | ⟨k, rfl, hk, hp, _⟩
  · rw [anyB_false h]; rfl
  · rw [anyB_iff.2 ⟨k, hk, hp⟩]; simp
attribute [irreducible] anyB

theorem indexFuncHammer_any (a : Option Addr) (n c : Nat) (P R : Nat → Int) (cp : Value) (p : Nat → Bool) (w : World) (hn : n ≤ 1000000000) (hh : HamAt w a n P R)
    (hcall : ∀ W k, k < n → Below w.heap.size w W → Calls Try.prog 94 #[.agg #[.int .i8 (P k), .int .i8 (R k)], cp] W fun e W' => e = .returned (.bool (p k)) ∧ Below W.heap.size W W') :
    Calls Try.prog 104 #[.slice a n c, .func (.func 94) #[] #[cp]] w fun e w' => ∃ r, e = .returned (.int .i64 r) ∧ IdxOf p n r ∧ Below w.heap.size w w' := by
  have HH := Lib.hid hh; clear hh
  have HC := Lib.hid hcall; clear hcall
  go_enter Try.func104, Try.ntmps104
  go_wp2
  go_loopw [8] (fun i w' => Below w.heap.size w w' ∧ ∃ k : Nat, k ≤ n ∧ i = .int .i64 k ∧ ∀ j, j < k → p j = false) (fun i _ => n - (intOf i).toNat)
  case atStart => exact ⟨Below.refl _ _, 0, by omega, rfl, fun j hj => by omega⟩
  case round =>
    obtain ⟨hb, k, hk, rfl, hK⟩ := hrel
    have HK := Lib.hid hK; clear hK
    by_cases hlt : k < n
    · have hx := HamAt.get HH.out (show 0 < n by omega)
      obtain ⟨g, off, rfl, hg, hc⟩ := hx
      have c0 := (hb.cell (p := ⟨g, off + k * 2, none⟩) hg).trans (hc k hlt).1
      have c1 := (hb.cell (p := ⟨g, off + k * 2 + 1, none⟩) hg).trans (hc k hlt).2
      clear hc
      cases hp : p k
      · go_wp2_with (go_at_call 94; refine (HC.out _ k hlt hb).mono ?_; rintro e w1 ⟨rfl, hb1⟩)
        go_roundw
        case rel => exact ⟨hb.trans (hb1.mono hb.size), k + 1, by omega, by go_num, fun j hj => if e : j = k then e ▸ hp else HK.out j (by omega)⟩
        case measure => simp [intOf]; omega
      · go_wp2_with (go_at_call 94; refine (HC.out _ k hlt hb).mono ?_; rintro e w1 ⟨rfl, hb1⟩)
        go_ret
        exact ⟨_, rfl, .inr ⟨k, rfl, hlt, hp, HK.out⟩, hb.trans (hb1.mono hb.size)⟩
    · go_wp2
      go_ret
      exact ⟨_, rfl, .inl ⟨rfl, fun j hj => HK.out j (by omega)⟩, hb⟩
theorem containsFuncHammer_any (a : Option Addr) (n c : Nat) (P R : Nat → Int) (cp : Value) (p : Nat → Bool) (w : World) (hn : n ≤ 1000000000) (hh : HamAt w a n P R)
    (hcall : ∀ W k, k < n → Below w.heap.size w W → Calls Try.prog 94 #[.agg #[.int .i8 (P k), .int .i8 (R k)], cp] W fun e W' => e = .returned (.bool (p k)) ∧ Below W.heap.size W W') :
    Calls Try.prog 93 #[.slice a n c, .func (.func 94) #[] #[cp]] w fun e w' => e = .returned (.bool (anyB p n)) ∧ Below w.heap.size w w' := by
  have HH := Lib.hid hh; clear hh
  have HC := Lib.hid hcall; clear hcall
  go_enter Try.func93, Try.ntmps93
  go_wp2_with (go_at_call 104; refine (indexFuncHammer_any _ _ _ _ _ _ _ _ hn HH.out HC.out).mono ?_; rintro e w1 ⟨r, rfl, hr, hb⟩)
  go_ret
  exact ⟨ret_bool hr.any, hb⟩
theorem validFrame1_any (gf : Nat) (s p r : Int) (w : World) (hs : -32768 ≤ s ∧ s ≤ 32767) (hp : -128 ≤ p ∧ p ≤ 127) (hr : -128 ≤ r ∧ r ≤ 127) (hgf : gf < w.heap.size) (h0 : w.cell? ⟨gf, 0, none⟩ = some (.int .i16 s)) :
    Calls Try.prog 94 #[.agg #[.int .i8 p, .int .i8 r], .pointer (some ⟨gf, 0, none⟩)] w fun e w' => e = .returned (.bool (!hamOK s p r)) ∧ Below w.heap.size w w' := by
  by_cases hA : 0 ≤ p ∧ p ≤ 47
  · have hA' := inB_true hA
    go_enter Try.func94, Try.ntmps94
    go_wp2_with (first | (go_at_call 95; refine (isPitch_any _ _).mono ?_; rintro e w' ⟨rfl, rfl⟩) | (go_at_call 60; refine (within_any _ _ _ _).mono ?_; rintro e w' ⟨rfl, rfl⟩))
    · go_ret
      have : s ≤ 20 := by omega
      exact ⟨ret_bool (by rw [hamOK_def, hA', show mn 20 s = s from by rw [mn_def]; split <;> omega]; rfl), (Below.refl _ _).alloc (Nat.le_refl _) _⟩
    · go_ret
      have : 20 ≤ s := by omega
      exact ⟨ret_bool (by rw [hamOK_def, hA', show mn 20 s = 20 from by rw [mn_def]; split <;> omega]; rfl), (Below.refl _ _).alloc (Nat.le_refl _) _⟩
  · have hA' := inB_false hA
    go_enter Try.func94, Try.ntmps94
    go_wp2_with (first | (go_at_call 95; refine (isPitch_any _ _).mono ?_; rintro e w' ⟨rfl, rfl⟩) | (go_at_call 60; refine (within_any _ _ _ _).mono ?_; rintro e w' ⟨rfl, rfl⟩))
    go_ret
    exact ⟨ret_bool (by rw [hamOK_def, hA']; rfl), (Below.refl _ _).alloc (Nat.le_refl _) _⟩
theorem validFrame_any (s : Int) (a : Option Addr) (n c : Nat) (P R : Nat → Int) (w : World) (hn : n ≤ 1000000000) (hs : -32768 ≤ s ∧ s ≤ 32767) (hP : I8 P) (hR : I8 R) (hh : HamAt w a n P R) :
    Calls Try.prog 72 #[.agg #[.int .i16 s, .slice a n c]] w fun e w' => e = .returned (.bool (vFrame s n P R)) ∧ Below w.heap.size w w' := by
  have HP := Lib.hid hP; clear hP
  have HR := Lib.hid hR; clear hR
  have HH := Lib.hid hh; clear hh
  by_cases hS : 2 ≤ s ∧ s ≤ 96
  · have hS' := inB_true hS
    by_cases hN : 1 ≤ n ∧ n ≤ 24
    · have hN' := inB_true (n := n) (lo := 1) (hi := 24) (by omega)
      go_enter Try.func72, Try.ntmps72
      go_wp2_with (first | (go_at_call 60; refine (within_any _ _ _ _).mono ?_; rintro e w' ⟨rfl, rfl⟩) | (go_at_call 90; refine (sizeHammer_any _ _ _ _ (by omega)).mono ?_; rintro e w' ⟨rfl, rfl⟩))
      have hb0 : Below w.heap.size w (w.alloc (.cells #[.int .i16 s, .slice a n c] 27)) := (Below.refl _ _).alloc (Nat.le_refl _) _
      refine (containsFuncHammer_any a n c P R _ (fun k => !hamOK s (P k) (R k)) _ hn (HH.out.below hb0) ?_).mono ?_
      · intro W k hk hbW
        have hz : w.heap.size < W.heap.size := by have := hbW.size; simp at this; omega
        exact validFrame1_any _ s _ _ W hs (HP.out k) (HR.out k) hz ((hbW.cell (p := ⟨w.heap.size, 0, none⟩) (by simp)).trans (by simp))
      · rintro e w1 ⟨rfl, hb1⟩
        have hb2 : Below w.heap.size w w1 := hb0.trans (hb1.mono (by simp))
        go_wp2
        go_ret
        refine ⟨ret_bool ?_, hb2⟩
        cases hv : anyB (fun k => !hamOK s (P k) (R k)) n
        · have : vFrame s n P R = true := vFrame_iff.2 ⟨hS, hN, fun k hk => by
            cases hq : hamOK s (P k) (R k)
            · rw [anyB_iff.2 ⟨k, hk, by simp [hq]⟩] at hv; exact absurd hv (by simp)
            · rfl⟩
          rw [this]; rfl
        · obtain ⟨k, hk, hq⟩ := anyB_iff.1 hv
          have : vFrame s n P R = false := vFrame_false fun H => by rw [H.2.2 k hk] at hq; exact absurd hq (by simp)
          rw [this]; rfl
    · have hN' := inB_false (n := n) (lo := 1) (hi := 24) (by omega)
      go_enter Try.func72, Try.ntmps72
      go_wp2_with (first | (go_at_call 60; refine (within_any _ _ _ _).mono ?_; rintro e w' ⟨rfl, rfl⟩) | (go_at_call 90; refine (sizeHammer_any _ _ _ _ (by omega)).mono ?_; rintro e w' ⟨rfl, rfl⟩))
      go_ret
      exact ⟨ret_bool (vFrame_false fun H => hN H.2.1).symm, (Below.refl _ _).alloc (Nat.le_refl _) _⟩
  · have hS' := inB_false hS
    go_enter Try.func72, Try.ntmps72
    go_wp2_with (first | (go_at_call 60; refine (within_any _ _ _ _).mono ?_; rintro e w' ⟨rfl, rfl⟩) | (go_at_call 90; refine (sizeHammer_any _ _ _ _ (by omega)).mono ?_; rintro e w' ⟨rfl, rfl⟩))
    go_ret
    exact ⟨ret_bool (vFrame_false fun H => hS H.1).symm, (Below.refl _ _).alloc (Nat.le_refl _) _⟩
end Go.Proofs.Ytlcfjeofphncgaa
