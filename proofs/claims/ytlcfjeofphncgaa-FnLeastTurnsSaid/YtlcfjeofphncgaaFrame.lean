/- Frames: when they are valid, by the reference and by the program. No conditions. -/
import Derived.Test.YtlcfjeofphncgaaSmall
import Derived.Outline
namespace Go.Proofs.Ytlcfjeofphncgaa
open Go.RowKit
set_option linter.unusedVariables false
set_option linter.unusedSimpArgs false

/-- a hammer is as told -/
def hamOK (s p r : Int) : Bool := decide ((0 ≤ p ∧ p ≤ 47) ∧ 1 ≤ r ∧ r ≤ mn 20 s)
theorem hamOK_iff {s p r : Int} : hamOK s p r = true ↔ (0 ≤ p ∧ p ≤ 47) ∧ 1 ≤ r ∧ r ≤ mn 20 s := by simp only [hamOK, decide_eq_true_eq]
/-- a frame is valid -/
def vFrame (s : Int) (n : Nat) (P R : Nat → Int) : Bool := decide (2 ≤ s ∧ s ≤ 96) && decide (1 ≤ n ∧ n ≤ 24) && (List.range n).all fun k => hamOK s (P k) (R k)
theorem vFrame_iff {s : Int} {n : Nat} {P R : Nat → Int} : vFrame s n P R = true ↔ (2 ≤ s ∧ s ≤ 96) ∧ (1 ≤ n ∧ n ≤ 24) ∧ ∀ k, k < n → hamOK s (P k) (R k) = true := by
  simp only [vFrame, Bool.and_eq_true, decide_eq_true_eq, List.all_eq_true, List.mem_range]
  exact ⟨fun ⟨⟨a, b⟩, c⟩ => ⟨a, b, c⟩, fun ⟨a, b, c⟩ => ⟨⟨a, b⟩, c⟩⟩
theorem vFrame_false {s : Int} {n : Nat} {P R : Nat → Int} (h : ¬ ((2 ≤ s ∧ s ≤ 96) ∧ (1 ≤ n ∧ n ≤ 24) ∧ ∀ k, k < n → hamOK s (P k) (R k) = true)) : vFrame s n P R = false := by
  rw [← Bool.not_eq_true, vFrame_iff]; exact h
theorem hamOK_def (s p r : Int) : hamOK s p r = (inB p 0 47 && inB r 1 (mn 20 s)) := by rw [hamOK, inB_def, inB_def, Bool.decide_and]
attribute [irreducible] hamOK vFrame

/-- numbers of 8 bits -/
def I8 (P : Nat → Int) : Prop := ∀ i, -128 ≤ P i ∧ P i ≤ 127
/-- a slice at the address a reads as n hammers -/
def HamAt (w : World) (a : Option Addr) (n : Nat) (P R : Nat → Int) : Prop :=
  0 < n → ∃ g off, a = some ⟨g, off, none⟩ ∧ g < w.heap.size ∧
    ∀ i, i < n → w.cell? ⟨g, off + i * 2, none⟩ = some (.int .i8 (P i)) ∧ w.cell? ⟨g, off + i * 2 + 1, none⟩ = some (.int .i8 (R i))
theorem HamAt.get {w : World} {a : Option Addr} {n : Nat} {P R : Nat → Int} (h : HamAt w a n P R) (hn : 0 < n) : ∃ g off, a = some ⟨g, off, none⟩ ∧ g < w.heap.size ∧
    ∀ i, i < n → w.cell? ⟨g, off + i * 2, none⟩ = some (.int .i8 (P i)) ∧ w.cell? ⟨g, off + i * 2 + 1, none⟩ = some (.int .i8 (R i)) := h hn
theorem HamAt.below {w w' : World} {a : Option Addr} {n : Nat} {P R : Nat → Int} (h : HamAt w a n P R) (hb : Below w.heap.size w w') : HamAt w' a n P R := by
  intro hn
  obtain ⟨g, off, rfl, hg, hc⟩ := h hn
  refine ⟨g, off, rfl, Nat.lt_of_lt_of_le hg hb.size, fun i hi => ?_⟩
  rw [hb.cell (p := ⟨g, off + i * 2, none⟩) hg, hb.cell (p := ⟨g, off + i * 2 + 1, none⟩) hg]
  exact hc i hi

/-- the block g holds a frame -/
def FrameAt (w : World) (g : Nat) (s : Int) (a : Option Addr) (n c : Nat) : Prop := w.heap[g]? = some (.cells #[.int .i16 s, .slice a n c] 27 (0, 0))
theorem FrameAt.lt {w : World} {g : Nat} {s : Int} {a : Option Addr} {n c : Nat} (h : FrameAt w g s a n c) : g < w.heap.size := (Array.getElem?_eq_some_iff.1 h).1
theorem FrameAt.c0 {w : World} {g : Nat} {s : Int} {a : Option Addr} {n c : Nat} (h : FrameAt w g s a n c) : w.cell? ⟨g, 0, none⟩ = some (.int .i16 s) := by rw [cell_of_row w g 0 _ _ _ h]; rfl
theorem FrameAt.c1 {w : World} {g : Nat} {s : Int} {a : Option Addr} {n c : Nat} (h : FrameAt w g s a n c) : w.cell? ⟨g, 1, none⟩ = some (.slice a n c) := by rw [cell_of_row w g 1 _ _ _ h]; rfl
theorem FrameAt.new (w : World) (s : Int) (a : Option Addr) (n c : Nat) : FrameAt (w.alloc (.cells #[.int .i16 s, .slice a n c] 27)) w.heap.size s a n c := heap_alloc_new w _
theorem FrameAt.alloc {w : World} {g : Nat} {s : Int} {a : Option Addr} {n c : Nat} (h : FrameAt w g s a n c) (o : Obj) : FrameAt (w.alloc o) g s a n c := (Below.heap_alloc w o g h.lt).trans h
theorem FrameAt.below {B : Nat} {w w' : World} {g : Nat} {s : Int} {a : Option Addr} {n c : Nat} (h : FrameAt w g s a n c) (hb : Below B w w') (hg : g < B) : FrameAt w' g s a n c := (hb.block g hg).trans h
theorem FrameAt.frozen {w : World} {g : Nat} {s : Int} {a : Option Addr} {n c : Nat} (h : FrameAt w g s a n c) (k : Nat) : w.frozen? ⟨g, k, none⟩ = false := frozen_of_row w g k _ _ h
theorem FrameAt.new2 (w : World) (x : Obj) (s : Int) (a : Option Addr) (n c : Nat) : FrameAt ((w.alloc x).alloc (.cells #[.int .i16 s, .slice a n c] 27)) (w.heap.size + 1) s a n c := by
  have h := FrameAt.new (w.alloc x) s a n c
  rw [show (w.alloc x).heap.size = w.heap.size + 1 by simp] at h
  exact h
theorem FrameAt.new3 (w : World) (x y : Obj) (s : Int) (a : Option Addr) (n c : Nat) : FrameAt (((w.alloc x).alloc y).alloc (.cells #[.int .i16 s, .slice a n c] 27)) (w.heap.size + 1 + 1) s a n c := by
  have h := FrameAt.new2 (w.alloc x) y s a n c
  rw [show (w.alloc x).heap.size = w.heap.size + 1 by simp] at h
  exact h
theorem l02Frame_any (gf : Nat) (s : Int) (a : Option Addr) (n c : Nat) (P R : Nat → Int) (w : World) (hn : n ≤ 9223372036854775807) (hs : -32768 ≤ s ∧ s ≤ 32767) (hP : I8 P) (hR : I8 R)
    (hgf : gf < w.heap.size) (h0 : w.cell? ⟨gf, 0, none⟩ = some (.int .i16 s)) (h1 : w.cell? ⟨gf, 1, none⟩ = some (.slice a n c)) (hh : HamAt w a n P R) :
    Calls Try.prog 66 #[.pointer (some ⟨gf, 0, none⟩)] w fun e w' => e = .returned (.bool (vFrame s n P R)) ∧ Below w.heap.size w w' := by
  by_cases hS : 2 ≤ s ∧ s ≤ 96
  · have hS' := inB_true hS
    by_cases hN : 1 ≤ n ∧ n ≤ 24
    · have hN' := inB_true (n := n) (lo := 1) (hi := 24) (by omega)
      have HH := Lib.hid hh; clear hh
      have HP := Lib.hid hP; clear hP
      have HR := Lib.hid hR; clear hR
      have HS := Lib.hid h0; have HL := Lib.hid h1
      go_enter Try.func66, Try.ntmps66
      go_wp2_with (go_at_call 65; refine (l00In_any _ _ _ _).mono ?_; rintro e w' ⟨rfl, rfl⟩)
      clear hS' hN'
      go_loopw [3] (fun i w' => Below w.heap.size w w' ∧ ∃ k : Nat, k ≤ n ∧ i = .int .i64 k ∧ ∀ j, j < k → hamOK s (P j) (R j) = true) (fun i _ => n - (intOf i).toNat)
      case atStart => exact ⟨Below.refl _ _, 0, by omega, rfl, fun j hj => by omega⟩
      case round =>
        obtain ⟨hb, k, hk, rfl, hK⟩ := hrel
        have HK := Lib.hid hK; clear hK h0 h1
        have h0 := (hb.cell (p := ⟨gf, 0, none⟩) hgf).trans HS.out
        have h1 := (hb.cell (p := ⟨gf, 1, none⟩) hgf).trans HL.out
        by_cases hlt : k < n
        · have hx := HamAt.get HH.out (show 0 < n by omega)
          obtain ⟨g, off, rfl, hg, hc⟩ := hx
          have c0 := (hb.cell (p := ⟨g, off + k * 2, none⟩) hg).trans (hc k hlt).1
          have c1 := (hb.cell (p := ⟨g, off + k * 2 + 1, none⟩) hg).trans (hc k hlt).2
          clear hc
          have hgf' : gf < wr.heap.size := by have := hb.size; omega
          have hp := HP.out k
          have hr := HR.out k
          have q1 := i64_id (x := P k) (by omega)
          have q2 := i64_id (x := R k) (by omega)
          have q3 := i64_id (x := s) (by omega)
          by_cases hA : 0 ≤ P k ∧ P k ≤ 47
          · have hA' := inB_true hA
            by_cases hB : 1 ≤ R k ∧ R k ≤ mn 20 s
            · have hB' := inB_true hB
              go_wp2
              go_quiet (first | (go_at_call 65; exact q_same (l00In_any _ _ _ _)) | (go_at_call 88; exact q_same (l00Min_any _ _ _)))
              clear hA' hB' q1 q2 q3
              go_wp2
              go_roundw
              case rel => exact ⟨below_drewN (hb.alloc (by have := hb.size; omega) _) _, k + 1, by omega, by go_num, fun j hj => if e : j = k then e ▸ hamOK_iff.2 ⟨hA, hB⟩ else HK.out j (by omega)⟩
              case measure => simp [intOf]; omega
            · have hB' := inB_false hB
              go_wp2
              go_quiet (first | (go_at_call 65; exact q_same (l00In_any _ _ _ _)) | (go_at_call 88; exact q_same (l00Min_any _ _ _)))
              go_wp2
              go_ret
              exact ⟨ret_bool (vFrame_false fun H => hB (hamOK_iff.1 (H.2.2 k hlt)).2).symm, below_drewN (hb.alloc (by have := hb.size; omega) _) _⟩
          · have hA' := inB_false hA
            go_wp2
            go_quiet (first | (go_at_call 65; exact q_same (l00In_any _ _ _ _)) | (go_at_call 88; exact q_same (l00Min_any _ _ _)))
            go_wp2
            go_ret
            exact ⟨ret_bool (vFrame_false fun H => hA (hamOK_iff.1 (H.2.2 k hlt)).1).symm, below_drewN (hb.alloc (by have := hb.size; omega) _) _⟩
        · go_wp2
          go_ret
          exact ⟨ret_bool (vFrame_iff.2 ⟨hS, hN, fun j hj => HK.out j (by omega)⟩).symm, hb⟩
    · have hN' := inB_false (n := n) (lo := 1) (hi := 24) (by omega)
      go_enter Try.func66, Try.ntmps66
      go_wp2_with (go_at_call 65; refine (l00In_any _ _ _ _).mono ?_; rintro e w' ⟨rfl, rfl⟩)
      go_ret
      exact ⟨ret_bool (vFrame_false fun H => hN H.2.1).symm, Below.refl _ _⟩
  · have hS' := inB_false hS
    go_enter Try.func66, Try.ntmps66
    go_wp2_with (go_at_call 65; refine (l00In_any _ _ _ _).mono ?_; rintro e w' ⟨rfl, rfl⟩)
    go_ret
    exact ⟨ret_bool (vFrame_false fun H => hS H.1).symm, Below.refl _ _⟩
end Go.Proofs.Ytlcfjeofphncgaa
