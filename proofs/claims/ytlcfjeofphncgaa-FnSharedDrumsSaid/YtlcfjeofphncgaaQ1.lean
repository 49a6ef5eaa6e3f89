/- Texts of this claim, put together in their order of building. No conditions. -/
import Derived.Test.YtlcfjeofphncgaaProg
import Derived.WalkKit
import Derived.WalkLawsBesides
import Derived.Deep.QuietTactic
import Derived.BigQuiet
import Derived.Lib.Hide
import Derived.Laws.Rows
import Derived.Laws.BitsLemmas
import Derived.Shelf.Abstract
import Derived.StillTailTactics
import Derived.Outline
import Derived.Deep.MidRow
import Derived.ProofKit
import Derived.OpenShut
import Derived.Deep.Slices
import Derived.Lib.SmallJoins
import Derived.Deep.RegionHeld
import Derived.Laws.AppendOwn
import Derived.Deep.Strs
import Derived.ChangeArms
namespace Go.Proofs.Ytlcfjeofphncgaa
open Go.RowKit
set_option linter.unusedVariables false
set_option linter.unusedSimpArgs false

theorem ret_bool {a b : Bool} (h : a = b) : Ending.returned (.bool a) = .returned (.bool b) := by rw [h]
theorem ret_int {k : IntKind} {a b : Int} (h : a = b) : Ending.returned (.int k a) = .returned (.int k b) := by rw [h]

theorem below_drewN {B : Nat} {a w : World} (h : Below B a w) (n : Nat) : Below B a (w.drewN n) := h.trans ⟨rfl, rfl, rfl, Nat.le_refl _, fun _ _ => rfl⟩

/-- A contract that leaves the world alone, met in a region that draws. -/
theorem q_same {P : Program} {f : FuncId} {args : Array Value} {w : World} {n : Nat} {v : Value}
    (h : Calls P f args (w.drewN n) fun e w' => e = .returned v ∧ w.drewN n = w') : Calls P f args (w.drewN n) fun e w'' => e = .returned v ∧ ∃ m, w'' = w.drewN m :=
  h.mono fun _ _ ⟨he, hm⟩ => ⟨he, n, hm.symm⟩

/-! ### numbers -/
theorem u64_nat (n : Nat) (h : n ≤ 1000000) : IntKind.u64.wrap (n : Int) = n := by
  simp [IntKind.wrap, IntKind.bits, IntKind.signed]; omega
theorem i64_id {x : Int} (h : -9223372036854775808 ≤ x ∧ x ≤ 9223372036854775807) : IntKind.i64.wrap x = x := by rw [IntKind.wrap_i64]; omega
theorem wraps_u32 (n : Int) (h₀ : 0 ≤ n) (h₁ : n < 2 ^ 32) : IntKind.u32.wrap n = n := by rw [IntKind.wrap_u32]; omega

/-- the bits of a that b has not -/
def andn (a b : Nat) : Nat := a ^^^ (a &&& b)
theorem andn_testBit (a b i : Nat) : (andn a b).testBit i = (a.testBit i && !b.testBit i) := by
  unfold andn
  rw [Nat.testBit_xor, Nat.testBit_and]
  cases a.testBit i <;> cases b.testBit i <;> rfl
theorem and_lt32 {a b : Nat} (hb : b < 4294967296) : a &&& b < 4294967296 := Nat.and_lt_two_pow (n := 32) a hb
theorem or_lt32 {a b : Nat} (ha : a < 4294967296) (hb : b < 4294967296) : a ||| b < 4294967296 := Nat.or_lt_two_pow (n := 32) ha hb
theorem xor_lt32 {a b : Nat} (ha : a < 4294967296) (hb : b < 4294967296) : a ^^^ b < 4294967296 := Nat.xor_lt_two_pow (n := 32) ha hb
theorem andn_lt32 {a b : Nat} (ha : a < 4294967296) : andn a b < 4294967296 := by
  refine Nat.xor_lt_two_pow (n := 32) ha ?_
  rw [Nat.and_comm]
  exact Nat.and_lt_two_pow (n := 32) b ha
theorem bits_and_u32 {a b : Nat} (ha : a < 4294967296) (hb : b < 4294967296) : bits .and .u32 (a : Int) (b : Int) = ((a &&& b : Nat) : Int) :=
  (bits_nat .u32 32 (by decide) wraps_u32 a b ha hb).1
theorem bits_or_u32 {a b : Nat} (ha : a < 4294967296) (hb : b < 4294967296) : bits .or .u32 (a : Int) (b : Int) = ((a ||| b : Nat) : Int) :=
  (bits_nat .u32 32 (by decide) wraps_u32 a b ha hb).2
theorem bits_andNot_u32 {a b : Nat} (ha : a < 4294967296) (hb : b < 4294967296) : bits .andNot .u32 (a : Int) (b : Int) = ((andn a b : Nat) : Int) := by
  have e : (BitVec.ofNat 32 a &&& ~~~BitVec.ofNat 32 b).toNat = andn a b := by
    apply Nat.eq_of_testBit_eq
    intro i
    rw [andn_testBit, BitVec.testBit_toNat, BitVec.getLsbD_and, BitVec.getLsbD_not, BitVec.getLsbD_ofNat, BitVec.getLsbD_ofNat]
    by_cases hi : i < 32
    · simp [hi]
    · have : a.testBit i = false := Nat.testBit_lt_two_pow (Nat.lt_of_lt_of_le ha (Nat.pow_le_pow_right (by decide) (Nat.le_of_not_lt hi) : 2 ^ 32 ≤ 2 ^ i))
      simp [hi, this]
  show IntKind.u32.wrap ((BitVec.ofInt 32 (a : Int) &&& ~~~BitVec.ofInt 32 (b : Int)).toNat : Int) = _
  rw [BitVec.ofInt_natCast, BitVec.ofInt_natCast, e]
  have := andn_lt32 (b := b) ha
  exact wraps_u32 _ (by omega) (by omega)
theorem bits_xor_u32 {a b : Nat} (ha : a < 4294967296) (hb : b < 4294967296) : bits .xor .u32 (a : Int) (b : Int) = ((a ^^^ b : Nat) : Int) := by
  show IntKind.u32.wrap ((BitVec.ofInt 32 (a : Int) ^^^ BitVec.ofInt 32 (b : Int)).toNat : Int) = _
  rw [BitVec.ofInt_natCast, BitVec.ofInt_natCast, BitVec.toNat_xor, BitVec.toNat_ofNat, BitVec.toNat_ofNat, Nat.mod_eq_of_lt (by simpa using ha), Nat.mod_eq_of_lt (by simpa using hb)]
  have := xor_lt32 ha hb
  exact wraps_u32 _ (by omega) (by omega)

/-! ### drums -/
/-- all rows are numbers of 32 bits -/
def D32 (D : Nat → Nat) : Prop := ∀ k, D k < 4294967296
/-- the 96 cells of a drum -/
def dc (D : Nat → Nat) : Array Value := Array.ofFn (n := 96) fun i => .int .u32 (D i.val)
theorem dc_size (D : Nat → Nat) : (dc D).size = 96 := by simp [dc]
theorem dc_get (D : Nat → Nat) (k : Nat) (h : k < 96) : (dc D)[k]? = some (.int .u32 (D k)) := by simp [dc, h]
theorem dc_getD (D : Nat → Nat) (k : Nat) (h : k < 96) : (dc D).getD k undef = .int .u32 (D k) := by simp [dc, h]
/-- a drum with a row changed -/
def upd (D : Nat → Nat) (k v : Nat) : Nat → Nat := fun j => if j = k then v else D j
theorem dc_set (D : Nat → Nat) (k v : Nat) (h : k < 96) : (dc D).setIfInBounds k (.int .u32 v) = dc (upd D k v) := by
  apply Array.ext
  · simp [dc]
  · intro i h1 h2
    have hi : i < 96 := by simpa [dc] using h2
    rw [Array.getElem_setIfInBounds (by simpa [dc] using hi)]
    by_cases e : k = i
    · subst e; simp [dc, upd]
    · rw [if_neg e]; simp [dc, upd, Ne.symm e]
theorem dc_congr {D E : Nat → Nat} (h : ∀ k, k < 96 → D k = E k) : dc D = dc E := by
  unfold dc
  congr 1
  funext i
  rw [h i.val i.isLt]
theorem dc_inj {D E : Nat → Nat} (h : dc D = dc E) (k : Nat) (hk : k < 96) : D k = E k := by
  have h1 := dc_get D k hk
  rw [h, dc_get E k hk] at h1
  simp at h1
  omega
theorem dc_zero : dc (fun _ => 0) = (Array.replicate 96 (Value.int .u32 0)) := by
  apply Array.ext
  · simp [dc]
  · intro i h1 h2; simp [dc]
theorem upd_32 {D : Nat → Nat} (h : D32 D) {k v : Nat} (hv : v < 4294967296) : D32 (upd D k v) := fun j => by
  unfold upd; split
  · exact hv
  · exact h j

end Go.Proofs.Ytlcfjeofphncgaa
namespace Go.Proofs.Ytlcfjeofphncgaa
open Go.RowKit
set_option linter.unusedVariables false
set_option linter.unusedSimpArgs false

/-- n lies in lo..hi -/
def inB (n lo hi : Int) : Bool := decide (lo ≤ n ∧ n ≤ hi)
theorem inB_iff {n lo hi : Int} : inB n lo hi = true ↔ lo ≤ n ∧ n ≤ hi := by simp [inB]
theorem inB_true {n lo hi : Int} (h : lo ≤ n ∧ n ≤ hi) : inB n lo hi = true := inB_iff.2 h
theorem inB_false {n lo hi : Int} (h : ¬ (lo ≤ n ∧ n ≤ hi)) : inB n lo hi = false := by
  rw [← Bool.not_eq_true, inB_iff]; exact h
theorem inB_def (n lo hi : Int) : inB n lo hi = decide (lo ≤ n ∧ n ≤ hi) := rfl
attribute [irreducible] inB

theorem within_any (n lo hi : Int) (w : World) :
    Calls Try.prog 60 #[.int .i64 n, .int .i64 lo, .int .i64 hi] w fun e w' => e = .returned (.bool (inB n lo hi)) ∧ w = w' := by
  go_enter Try.func60, Try.ntmps60
  go_wp2
  all_goals go_ret
  all_goals exact ⟨ret_bool (by rw [inB_def]; simp; try omega), rfl⟩
theorem l00In_any (n lo hi : Int) (w : World) :
    Calls Try.prog 65 #[.int .i64 n, .int .i64 lo, .int .i64 hi] w fun e w' => e = .returned (.bool (inB n lo hi)) ∧ w = w' := by
  go_enter Try.func65, Try.ntmps65
  go_wp2
  all_goals go_ret
  all_goals exact ⟨ret_bool (by rw [inB_def]; simp; try omega), rfl⟩
theorem isPitch_any (n : Int) (w : World) :
    Calls Try.prog 95 #[.int .i64 n] w fun e w' => e = .returned (.bool (inB n 0 47)) ∧ w = w' := by
  go_enter Try.func95, Try.ntmps95
  go_wp2_with (go_at_call 60; refine (within_any _ _ _ _).mono ?_; rintro e w' ⟨rfl, rfl⟩)
  go_ret
  exact ⟨rfl, rfl⟩
/-- the smaller one -/
def mn (a b : Int) : Int := if a < b then a else b
theorem mn_def (a b : Int) : mn a b = if a < b then a else b := rfl
theorem mn_le (a b : Int) : mn a b ≤ a ∧ mn a b ≤ b := by unfold mn; split <;> omega
theorem mn_eq_min (a b : Int) : mn a b = min a b := by unfold mn; split <;> omega
attribute [irreducible] mn
theorem l00Min_any (a b : Int) (w : World) :
    Calls Try.prog 88 #[.int .i64 a, .int .i64 b] w fun e w' => e = .returned (.int .i64 (mn a b)) ∧ w = w' := by
  go_enter Try.func88, Try.ntmps88
  go_wp2
  all_goals go_ret
  all_goals exact ⟨ret_int (by rw [mn_def]; split <;> omega), rfl⟩
/-- OK if something is so, and a code otherwise -/
def unl (b : Bool) (c : Int) : Int := if b then 0 else c
theorem unl_true (c : Int) : unl true c = 0 := rfl
theorem unl_false (c : Int) : unl false c = c := rfl
attribute [irreducible] unl
/-- x if something is so, and 0 otherwise -/
def sel (b : Bool) (x : Int) : Int := if b then x else 0
theorem sel_true (x : Int) : sel true x = x := rfl
theorem sel_false (x : Int) : sel false x = 0 := rfl
attribute [irreducible] sel
theorem unless_any (b : Bool) (c : Int) (w : World) :
    Calls Try.prog 54 #[.bool b, .int .i64 c] w fun e w' => e = .returned (.int .i64 (unl b c)) ∧ w = w' := by
  cases b
  all_goals
    go_enter Try.func54, Try.ntmps54
    go_wp2
    go_ret
    exact ⟨ret_int (by first | rw [unl_true] | rw [unl_false]), rfl⟩
theorem sizeHammer_any (a : Option Addr) (n c : Nat) (w : World) (hn : n ≤ 9223372036854775807) :
    Calls Try.prog 90 #[.slice a n c] w fun e w' => e = .returned (.int .i64 n) ∧ w = w' := by
  go_enter Try.func90, Try.ntmps90
  go_wp2
  go_ret
  exact ⟨rfl, rfl⟩
theorem sizeSection_any (a : Option Addr) (n c : Nat) (w : World) (hn : n ≤ 9223372036854775807) :
    Calls Try.prog 82 #[.slice a n c] w fun e w' => e = .returned (.int .i64 n) ∧ w = w' := by
  go_enter Try.func82, Try.ntmps82
  go_wp2
  go_ret
  exact ⟨rfl, rfl⟩
theorem sizeDrum_any (a : Option Addr) (n c : Nat) (w : World) (hn : n ≤ 9223372036854775807) :
    Calls Try.prog 43 #[.slice a n c] w fun e w' => e = .returned (.int .i64 n) ∧ w = w' := by
  go_enter Try.func43, Try.ntmps43
  go_wp2
  go_ret
  exact ⟨rfl, rfl⟩
end Go.Proofs.Ytlcfjeofphncgaa
namespace Go.Proofs.Ytlcfjeofphncgaa
open Go.RowKit
set_option linter.unusedVariables false
set_option linter.unusedSimpArgs false

/-- a hammer is as told -/
def hamOK (s p r : Int) : Bool := decide ((0 ≤ p ∧ p ≤ 47) ∧ 1 ≤ r ∧ r ≤ mn 20 s)
theorem hamOK_iff {s p r : Int} : hamOK s p r = true ↔ (0 ≤ p ∧ p ≤ 47) ∧ 1 ≤ r ∧ r ≤ mn 20 s := by simp only [hamOK, decide_eq_true_eq]
/-- a frame is valid -/
def vFrame (s : Int) (n : Nat) (P R : Nat → Int) : Bool := decide (2 ≤ s ∧ s ≤ 96) && decide (1 ≤ n ∧ n ≤ 24) && (List.range n).all fun k => hamOK s (P k) (R k)
theorem vFrame_iff {s : Int} {n : Nat} {P R : Nat → Int} : vFrame s n P R = true ↔ (2 ≤ s ∧ s ≤ 96) ∧ (1 ≤ n ∧ n ≤ 24) ∧ ∀ k, k < n → hamOK s (P k) (R k) = true := by
  simp only [vFrame, Bool.and_eq_true, decide_eq_true_eq, List.all_eq_true, List.mem_range]
  exact ⟨fun ⟨⟨a, b⟩, c⟩ => ⟨a, b, c⟩, fun ⟨a, b, c⟩ => ⟨⟨a, b⟩, c⟩⟩
theorem vFrame_false {s : Int} {n : Nat} {P R : Nat → Int} (h : ¬ ((2 ≤ s ∧ s ≤ 96) ∧ (1 ≤ n ∧ n ≤ 24) ∧ ∀ k, k < n → hamOK s (P k) (R k) = true)) : vFrame s n P R = false := by
  rw [← Bool.not_eq_true, vFrame_iff]; exact h
theorem hamOK_def (s p r : Int) : hamOK s p r = (inB p 0 47 && inB r 1 (mn 20 s)) := by rw [hamOK, inB_def, inB_def, Bool.decide_and]
attribute [irreducible] hamOK vFrame

/-- numbers of 8 bits -/
def I8 (P : Nat → Int) : Prop := ∀ i, -128 ≤ P i ∧ P i ≤ 127
/-- a slice at the address a reads as n hammers -/
def HamAt (w : World) (a : Option Addr) (n : Nat) (P R : Nat → Int) : Prop :=
  0 < n → ∃ g off, a = some ⟨g, off, none⟩ ∧ g < w.heap.size ∧
    ∀ i, i < n → w.cell? ⟨g, off + i * 2, none⟩ = some (.int .i8 (P i)) ∧ w.cell? ⟨g, off + i * 2 + 1, none⟩ = some (.int .i8 (R i))
theorem HamAt.get {w : World} {a : Option Addr} {n : Nat} {P R : Nat → Int} (h : HamAt w a n P R) (hn : 0 < n) : ∃ g off, a = some ⟨g, off, none⟩ ∧ g < w.heap.size ∧
    ∀ i, i < n → w.cell? ⟨g, off + i * 2, none⟩ = some (.int .i8 (P i)) ∧ w.cell? ⟨g, off + i * 2 + 1, none⟩ = some (.int .i8 (R i)) := h hn
theorem HamAt.below {w w' : World} {a : Option Addr} {n : Nat} {P R : Nat → Int} (h : HamAt w a n P R) (hb : Below w.heap.size w w') : HamAt w' a n P R := by
  intro hn
  obtain ⟨g, off, rfl, hg, hc⟩ := h hn
  refine ⟨g, off, rfl, Nat.lt_of_lt_of_le hg hb.size, fun i hi => ?_⟩
  rw [hb.cell (p := ⟨g, off + i * 2, none⟩) hg, hb.cell (p := ⟨g, off + i * 2 + 1, none⟩) hg]
  exact hc i hi

/-- the block g holds a frame -/
def FrameAt (w : World) (g : Nat) (s : Int) (a : Option Addr) (n c : Nat) : Prop := w.heap[g]? = some (.cells #[.int .i16 s, .slice a n c] 27 (0, 0))
theorem FrameAt.lt {w : World} {g : Nat} {s : Int} {a : Option Addr} {n c : Nat} (h : FrameAt w g s a n c) : g < w.heap.size := (Array.getElem?_eq_some_iff.1 h).1
theorem FrameAt.c0 {w : World} {g : Nat} {s : Int} {a : Option Addr} {n c : Nat} (h : FrameAt w g s a n c) : w.cell? ⟨g, 0, none⟩ = some (.int .i16 s) := by rw [cell_of_row w g 0 _ _ _ h]; rfl
theorem FrameAt.c1 {w : World} {g : Nat} {s : Int} {a : Option Addr} {n c : Nat} (h : FrameAt w g s a n c) : w.cell? ⟨g, 1, none⟩ = some (.slice a n c) := by rw [cell_of_row w g 1 _ _ _ h]; rfl
theorem FrameAt.new (w : World) (s : Int) (a : Option Addr) (n c : Nat) : FrameAt (w.alloc (.cells #[.int .i16 s, .slice a n c] 27)) w.heap.size s a n c := heap_alloc_new w _
theorem FrameAt.alloc {w : World} {g : Nat} {s : Int} {a : Option Addr} {n c : Nat} (h : FrameAt w g s a n c) (o : Obj) : FrameAt (w.alloc o) g s a n c := (Below.heap_alloc w o g h.lt).trans h
theorem FrameAt.below {B : Nat} {w w' : World} {g : Nat} {s : Int} {a : Option Addr} {n c : Nat} (h : FrameAt w g s a n c) (hb : Below B w w') (hg : g < B) : FrameAt w' g s a n c := (hb.block g hg).trans h
theorem FrameAt.frozen {w : World} {g : Nat} {s : Int} {a : Option Addr} {n c : Nat} (h : FrameAt w g s a n c) (k : Nat) : w.frozen? ⟨g, k, none⟩ = false := frozen_of_row w g k _ _ h
theorem FrameAt.new2 (w : World) (x : Obj) (s : Int) (a : Option Addr) (n c : Nat) : FrameAt ((w.alloc x).alloc (.cells #[.int .i16 s, .slice a n c] 27)) (w.heap.size + 1) s a n c := by
  have h := FrameAt.new (w.alloc x) s a n c
  rw [show (w.alloc x).heap.size = w.heap.size + 1 by simp] at h
  exact h
theorem FrameAt.new3 (w : World) (x y : Obj) (s : Int) (a : Option Addr) (n c : Nat) : FrameAt (((w.alloc x).alloc y).alloc (.cells #[.int .i16 s, .slice a n c] 27)) (w.heap.size + 1 + 1) s a n c := by
  have h := FrameAt.new2 (w.alloc x) y s a n c
  rw [show (w.alloc x).heap.size = w.heap.size + 1 by simp] at h
  exact h
theorem l02Frame_any (gf : Nat) (s : Int) (a : Option Addr) (n c : Nat) (P R : Nat → Int) (w : World) (hn : n ≤ 9223372036854775807) (hs : -32768 ≤ s ∧ s ≤ 32767) (hP : I8 P) (hR : I8 R)
    (hgf : gf < w.heap.size) (h0 : w.cell? ⟨gf, 0, none⟩ = some (.int .i16 s)) (h1 : w.cell? ⟨gf, 1, none⟩ = some (.slice a n c)) (hh : HamAt w a n P R) :
    Calls Try.prog 66 #[.pointer (some ⟨gf, 0, none⟩)] w fun e w' => e = .returned (.bool (vFrame s n P R)) ∧ Below w.heap.size w w' := by
  by_cases hS : 2 ≤ s ∧ s ≤ 96
  · have hS' := inB_true hS
    by_cases hN : 1 ≤ n ∧ n ≤ 24
    · have hN' := inB_true (n := n) (lo := 1) (hi := 24) (by omega)
      have HH := Lib.hid hh; clear hh
      have HP := Lib.hid hP; clear hP
      have HR := Lib.hid hR; clear hR
      have HS := Lib.hid h0; have HL := Lib.hid h1
      go_enter Try.func66, Try.ntmps66
      go_wp2_with (go_at_call 65; refine (l00In_any _ _ _ _).mono ?_; rintro e w' ⟨rfl, rfl⟩)
      clear hS' hN'
      go_loopw [3] (fun i w' => Below w.heap.size w w' ∧ ∃ k : Nat, k ≤ n ∧ i = .int .i64 k ∧ ∀ j, j < k → hamOK s (P j) (R j) = true) (fun i _ => n - (intOf i).toNat)
      case atStart => exact ⟨Below.refl _ _, 0, by omega, rfl, fun j hj => by omega⟩
      case round =>
        obtain ⟨hb, k, hk, rfl, hK⟩ := hrel
        have HK := Lib.hid hK; clear hK h0 h1
        have h0 := (hb.cell (p := ⟨gf, 0, none⟩) hgf).trans HS.out
        have h1 := (hb.cell (p := ⟨gf, 1, none⟩) hgf).trans HL.out
        by_cases hlt : k < n
        · have hx := HamAt.get HH.out (show 0 < n by omega)
          obtain ⟨g, off, rfl, hg, hc⟩ := hx
          have c0 := (hb.cell (p := ⟨g, off + k * 2, none⟩) hg).trans (hc k hlt).1
          have c1 := (hb.cell (p := ⟨g, off + k * 2 + 1, none⟩) hg).trans (hc k hlt).2
          clear hc
          have hgf' : gf < wr.heap.size := by have := hb.size; omega
          have hp := HP.out k
          have hr := HR.out k
          have q1 := i64_id (x := P k) (by omega)
          have q2 := i64_id (x := R k) (by omega)
          have q3 := i64_id (x := s) (by omega)
          by_cases hA : 0 ≤ P k ∧ P k ≤ 47
          · have hA' := inB_true hA
            by_cases hB : 1 ≤ R k ∧ R k ≤ mn 20 s
            · have hB' := inB_true hB
              go_wp2
              go_quiet (first | (go_at_call 65; exact q_same (l00In_any _ _ _ _)) | (go_at_call 88; exact q_same (l00Min_any _ _ _)))
              clear hA' hB' q1 q2 q3
              go_wp2
              go_roundw
              case rel => exact ⟨below_drewN (hb.alloc (by have := hb.size; omega) _) _, k + 1, by omega, by go_num, fun j hj => if e : j = k then e ▸ hamOK_iff.2 ⟨hA, hB⟩ else HK.out j (by omega)⟩
              case measure => simp [intOf]; omega
            · have hB' := inB_false hB
              go_wp2
              go_quiet (first | (go_at_call 65; exact q_same (l00In_any _ _ _ _)) | (go_at_call 88; exact q_same (l00Min_any _ _ _)))
              go_wp2
              go_ret
              exact ⟨ret_bool (vFrame_false fun H => hB (hamOK_iff.1 (H.2.2 k hlt)).2).symm, below_drewN (hb.alloc (by have := hb.size; omega) _) _⟩
          · have hA' := inB_false hA
            go_wp2
            go_quiet (first | (go_at_call 65; exact q_same (l00In_any _ _ _ _)) | (go_at_call 88; exact q_same (l00Min_any _ _ _)))
            go_wp2
            go_ret
            exact ⟨ret_bool (vFrame_false fun H => hA (hamOK_iff.1 (H.2.2 k hlt)).1).symm, below_drewN (hb.alloc (by have := hb.size; omega) _) _⟩
        · go_wp2
          go_ret
          exact ⟨ret_bool (vFrame_iff.2 ⟨hS, hN, fun j hj => HK.out j (by omega)⟩).symm, hb⟩
    · have hN' := inB_false (n := n) (lo := 1) (hi := 24) (by omega)
      go_enter Try.func66, Try.ntmps66
      go_wp2_with (go_at_call 65; refine (l00In_any _ _ _ _).mono ?_; rintro e w' ⟨rfl, rfl⟩)
      go_ret
      exact ⟨ret_bool (vFrame_false fun H => hN H.2.1).symm, Below.refl _ _⟩
  · have hS' := inB_false hS
    go_enter Try.func66, Try.ntmps66
    go_wp2_with (go_at_call 65; refine (l00In_any _ _ _ _).mono ?_; rintro e w' ⟨rfl, rfl⟩)
    go_ret
    exact ⟨ret_bool (vFrame_false fun H => hS H.1).symm, Below.refl _ _⟩
end Go.Proofs.Ytlcfjeofphncgaa
namespace Go.Proofs.Ytlcfjeofphncgaa
open Go.RowKit
set_option linter.unusedVariables false
set_option linter.unusedSimpArgs false

/-- some index below n -/
def anyB (p : Nat → Bool) (n : Nat) : Bool := (List.range n).any p
theorem anyB_iff {p : Nat → Bool} {n : Nat} : anyB p n = true ↔ ∃ k, k < n ∧ p k = true := by simp [anyB]
theorem anyB_false {p : Nat → Bool} {n : Nat} (h : ∀ k, k < n → p k = false) : anyB p n = false := by
  rw [← Bool.not_eq_true, anyB_iff]
  rintro ⟨k, hk, hp⟩
  rw [h k hk] at hp
  exact absurd hp (by simp)
/-- the first index below n, -1 if there is none -/
def IdxOf (p : Nat → Bool) (n : Nat) (r : Int) : Prop := (r = -1 ∧ ∀ k, k < n → p k = false) ∨ ∃ k : Nat, r = k ∧ k < n ∧ p k = true ∧ ∀ j, j < k → p j = false
theorem IdxOf.any {p : Nat → Bool} {n : Nat} {r : Int} (h : IdxOf p n r) : decide (0 ≤ r) = anyB p n := by
  rcases h with ⟨rfl, h⟩ | ⟨k, rfl, hk, hp, _⟩
  · rw [anyB_false h]; rfl
  · rw [anyB_iff.2 ⟨k, hk, hp⟩]; simp
attribute [irreducible] anyB

theorem indexFuncHammer_any (a : Option Addr) (n c : Nat) (P R : Nat → Int) (cp : Value) (p : Nat → Bool) (w : World) (hn : n ≤ 1000000000) (hh : HamAt w a n P R)
    (hcall : ∀ W k, k < n → Below w.heap.size w W → Calls Try.prog 94 #[.agg #[.int .i8 (P k), .int .i8 (R k)], cp] W fun e W' => e = .returned (.bool (p k)) ∧ Below W.heap.size W W') :
    Calls Try.prog 104 #[.slice a n c, .func (.func 94) #[] #[cp]] w fun e w' => ∃ r, e = .returned (.int .i64 r) ∧ IdxOf p n r ∧ Below w.heap.size w w' := by
  have HH := Lib.hid hh; clear hh
  have HC := Lib.hid hcall; clear hcall
  go_enter Try.func104, Try.ntmps104
  go_wp2
  go_loopw [8] (fun i w' => Below w.heap.size w w' ∧ ∃ k : Nat, k ≤ n ∧ i = .int .i64 k ∧ ∀ j, j < k → p j = false) (fun i _ => n - (intOf i).toNat)
  case atStart => exact ⟨Below.refl _ _, 0, by omega, rfl, fun j hj => by omega⟩
  case round =>
    obtain ⟨hb, k, hk, rfl, hK⟩ := hrel
    have HK := Lib.hid hK; clear hK
    by_cases hlt : k < n
    · have hx := HamAt.get HH.out (show 0 < n by omega)
      obtain ⟨g, off, rfl, hg, hc⟩ := hx
      have c0 := (hb.cell (p := ⟨g, off + k * 2, none⟩) hg).trans (hc k hlt).1
      have c1 := (hb.cell (p := ⟨g, off + k * 2 + 1, none⟩) hg).trans (hc k hlt).2
      clear hc
      cases hp : p k
      · go_wp2_with (go_at_call 94; refine (HC.out _ k hlt hb).mono ?_; rintro e w1 ⟨rfl, hb1⟩)
        go_roundw
        case rel => exact ⟨hb.trans (hb1.mono hb.size), k + 1, by omega, by go_num, fun j hj => if e : j = k then e ▸ hp else HK.out j (by omega)⟩
        case measure => simp [intOf]; omega
      · go_wp2_with (go_at_call 94; refine (HC.out _ k hlt hb).mono ?_; rintro e w1 ⟨rfl, hb1⟩)
        go_ret
        exact ⟨_, rfl, .inr ⟨k, rfl, hlt, hp, HK.out⟩, hb.trans (hb1.mono hb.size)⟩
    · go_wp2
      go_ret
      exact ⟨_, rfl, .inl ⟨rfl, fun j hj => HK.out j (by omega)⟩, hb⟩
theorem containsFuncHammer_any (a : Option Addr) (n c : Nat) (P R : Nat → Int) (cp : Value) (p : Nat → Bool) (w : World) (hn : n ≤ 1000000000) (hh : HamAt w a n P R)
    (hcall : ∀ W k, k < n → Below w.heap.size w W → Calls Try.prog 94 #[.agg #[.int .i8 (P k), .int .i8 (R k)], cp] W fun e W' => e = .returned (.bool (p k)) ∧ Below W.heap.size W W') :
    Calls Try.prog 93 #[.slice a n c, .func (.func 94) #[] #[cp]] w fun e w' => e = .returned (.bool (anyB p n)) ∧ Below w.heap.size w w' := by
  have HH := Lib.hid hh; clear hh
  have HC := Lib.hid hcall; clear hcall
  go_enter Try.func93, Try.ntmps93
  go_wp2_with (go_at_call 104; refine (indexFuncHammer_any _ _ _ _ _ _ _ _ hn HH.out HC.out).mono ?_; rintro e w1 ⟨r, rfl, hr, hb⟩)
  go_ret
  exact ⟨ret_bool hr.any, hb⟩
theorem validFrame1_any (gf : Nat) (s p r : Int) (w : World) (hs : -32768 ≤ s ∧ s ≤ 32767) (hp : -128 ≤ p ∧ p ≤ 127) (hr : -128 ≤ r ∧ r ≤ 127) (hgf : gf < w.heap.size) (h0 : w.cell? ⟨gf, 0, none⟩ = some (.int .i16 s)) :
    Calls Try.prog 94 #[.agg #[.int .i8 p, .int .i8 r], .pointer (some ⟨gf, 0, none⟩)] w fun e w' => e = .returned (.bool (!hamOK s p r)) ∧ Below w.heap.size w w' := by
  by_cases hA : 0 ≤ p ∧ p ≤ 47
  · have hA' := inB_true hA
    go_enter Try.func94, Try.ntmps94
    go_wp2_with (first | (go_at_call 95; refine (isPitch_any _ _).mono ?_; rintro e w' ⟨rfl, rfl⟩) | (go_at_call 60; refine (within_any _ _ _ _).mono ?_; rintro e w' ⟨rfl, rfl⟩))
    · go_ret
      have : s ≤ 20 := by omega
      exact ⟨ret_bool (by rw [hamOK_def, hA', show mn 20 s = s from by rw [mn_def]; split <;> omega]; rfl), (Below.refl _ _).alloc (Nat.le_refl _) _⟩
    · go_ret
      have : 20 ≤ s := by omega
      exact ⟨ret_bool (by rw [hamOK_def, hA', show mn 20 s = 20 from by rw [mn_def]; split <;> omega]; rfl), (Below.refl _ _).alloc (Nat.le_refl _) _⟩
  · have hA' := inB_false hA
    go_enter Try.func94, Try.ntmps94
    go_wp2_with (first | (go_at_call 95; refine (isPitch_any _ _).mono ?_; rintro e w' ⟨rfl, rfl⟩) | (go_at_call 60; refine (within_any _ _ _ _).mono ?_; rintro e w' ⟨rfl, rfl⟩))
    go_ret
    exact ⟨ret_bool (by rw [hamOK_def, hA']; rfl), (Below.refl _ _).alloc (Nat.le_refl _) _⟩
theorem validFrame_any (s : Int) (a : Option Addr) (n c : Nat) (P R : Nat → Int) (w : World) (hn : n ≤ 1000000000) (hs : -32768 ≤ s ∧ s ≤ 32767) (hP : I8 P) (hR : I8 R) (hh : HamAt w a n P R) :
    Calls Try.prog 72 #[.agg #[.int .i16 s, .slice a n c]] w fun e w' => e = .returned (.bool (vFrame s n P R)) ∧ Below w.heap.size w w' := by
  have HP := Lib.hid hP; clear hP
  have HR := Lib.hid hR; clear hR
  have HH := Lib.hid hh; clear hh
  by_cases hS : 2 ≤ s ∧ s ≤ 96
  · have hS' := inB_true hS
    by_cases hN : 1 ≤ n ∧ n ≤ 24
    · have hN' := inB_true (n := n) (lo := 1) (hi := 24) (by omega)
      go_enter Try.func72, Try.ntmps72
      go_wp2_with (first | (go_at_call 60; refine (within_any _ _ _ _).mono ?_; rintro e w' ⟨rfl, rfl⟩) | (go_at_call 90; refine (sizeHammer_any _ _ _ _ (by omega)).mono ?_; rintro e w' ⟨rfl, rfl⟩))
      have hb0 : Below w.heap.size w (w.alloc (.cells #[.int .i16 s, .slice a n c] 27)) := (Below.refl _ _).alloc (Nat.le_refl _) _
      refine (containsFuncHammer_any a n c P R _ (fun k => !hamOK s (P k) (R k)) _ hn (HH.out.below hb0) ?_).mono ?_
      · intro W k hk hbW
        have hz : w.heap.size < W.heap.size := by have := hbW.size; simp at this; omega
        exact validFrame1_any _ s _ _ W hs (HP.out k) (HR.out k) hz ((hbW.cell (p := ⟨w.heap.size, 0, none⟩) (by simp)).trans (by simp))
      · rintro e w1 ⟨rfl, hb1⟩
        have hb2 : Below w.heap.size w w1 := hb0.trans (hb1.mono (by simp))
        go_wp2
        go_ret
        refine ⟨ret_bool ?_, hb2⟩
        cases hv : anyB (fun k => !hamOK s (P k) (R k)) n
        · have : vFrame s n P R = true := vFrame_iff.2 ⟨hS, hN, fun k hk => by
            cases hq : hamOK s (P k) (R k)
            · rw [anyB_iff.2 ⟨k, hk, by simp [hq]⟩] at hv; exact absurd hv (by simp)
            · rfl⟩
          rw [this]; rfl
        · obtain ⟨k, hk, hq⟩ := anyB_iff.1 hv
          have : vFrame s n P R = false := vFrame_false fun H => by rw [H.2.2 k hk] at hq; exact absurd hq (by simp)
          rw [this]; rfl
    · have hN' := inB_false (n := n) (lo := 1) (hi := 24) (by omega)
      go_enter Try.func72, Try.ntmps72
      go_wp2_with (first | (go_at_call 60; refine (within_any _ _ _ _).mono ?_; rintro e w' ⟨rfl, rfl⟩) | (go_at_call 90; refine (sizeHammer_any _ _ _ _ (by omega)).mono ?_; rintro e w' ⟨rfl, rfl⟩))
      go_ret
      exact ⟨ret_bool (vFrame_false fun H => hN H.2.1).symm, (Below.refl _ _).alloc (Nat.le_refl _) _⟩
  · have hS' := inB_false hS
    go_enter Try.func72, Try.ntmps72
    go_wp2_with (first | (go_at_call 60; refine (within_any _ _ _ _).mono ?_; rintro e w' ⟨rfl, rfl⟩) | (go_at_call 90; refine (sizeHammer_any _ _ _ _ (by omega)).mono ?_; rintro e w' ⟨rfl, rfl⟩))
    go_ret
    exact ⟨ret_bool (vFrame_false fun H => hS H.1).symm, (Below.refl _ _).alloc (Nat.le_refl _) _⟩
end Go.Proofs.Ytlcfjeofphncgaa
namespace Go.Proofs.Ytlcfjeofphncgaa
open Go.RowKit
set_option linter.unusedVariables false
set_option linter.unusedSimpArgs false

theorem und_drum : Try.prog.underlying 33 = some (.array 96 31) := by kernel_rfl
theorem size_drum : (Try.prog.info? 33).map (·.size) = some 96 := by kernel_rfl
theorem und_arr : Try.prog.underlying 32 = some (.array 96 31) := by kernel_rfl
theorem size_arr : (Try.prog.info? 32).map (·.size) = some 96 := by kernel_rfl
theorem zero_drum (w : World) : (zeroValue 33).run Try.prog w = .ok (.agg (Array.replicate 96 (.int .u32 0))) w := by kernel_rfl

/-- the block g holds the drum D (T: the type that it was laid with) -/
def DrumAt (w : World) (T g : Nat) (D : Nat → Nat) : Prop := w.heap[g]? = some (.cells (dc D) T (0, 0))
theorem DrumAt.lt {w : World} {T g : Nat} {D : Nat → Nat} (h : DrumAt w T g D) : g < w.heap.size := by
  unfold DrumAt at h
  exact (Array.getElem?_eq_some_iff.1 h).1
theorem DrumAt.cell {w : World} {T g : Nat} {D : Nat → Nat} (h : DrumAt w T g D) (k : Nat) (hk : k < 96) : w.cell? ⟨g, k, none⟩ = some (.int .u32 (D k)) := by
  rw [cell_of_row w g k _ _ _ h, dc_get D k hk]
theorem DrumAt.frozen {w : World} {T g : Nat} {D : Nat → Nat} (h : DrumAt w T g D) (k : Nat) : w.frozen? ⟨g, k, none⟩ = false := frozen_of_row w g k _ _ h
theorem DrumAt.new (w : World) (T : Nat) (D : Nat → Nat) : DrumAt (w.alloc (.cells (dc D) T)) T w.heap.size D := heap_alloc_new w _
theorem DrumAt.alloc {w : World} {T g : Nat} {D : Nat → Nat} (h : DrumAt w T g D) (o : Obj) : DrumAt (w.alloc o) T g D := (Below.heap_alloc w o g h.lt).trans h
theorem DrumAt.drewN {w : World} {T g : Nat} {D : Nat → Nat} (h : DrumAt w T g D) (n : Nat) : DrumAt (w.drewN n) T g D := h
theorem DrumAt.below {B : Nat} {w w' : World} {T g : Nat} {D : Nat → Nat} (h : DrumAt w T g D) (hb : Below B w w') (hg : g < B) : DrumAt w' T g D := (hb.block g hg).trans h
theorem DrumAt.setCell {w : World} {T g : Nat} {D : Nat → Nat} (h : DrumAt w T g D) (k v : Nat) (hk : k < 96) : DrumAt (w.setCell ⟨g, k, none⟩ (.int .u32 v)) T g (upd D k v) := by
  unfold DrumAt
  rw [heap_setCell_same w g k _ _ _ h, dc_set D k v hk]
theorem DrumAt.setOther {w : World} {T g : Nat} {D : Nat → Nat} (h : DrumAt w T g D) (a : Addr) (v : Value) (hne : g ≠ a.block) : DrumAt (w.setCell a v) T g D := (heap_setCell_other w a g v hne).trans h
theorem DrumAt.setRow {w : World} {T g : Nat} {D : Nat → Nat} (h : DrumAt w T g D) (E : Nat → Nat) : DrumAt (w.setRow g (dc E)) T g E := setRow_heap w g _ _ _ _ h
theorem DrumAt.setRowOther {w : World} {T g : Nat} {D : Nat → Nat} (h : DrumAt w T g D) (j : Nat) (cs : Array Value) (hne : g ≠ j) : DrumAt (w.setRow j cs) T g D := (setRow_other w j g cs hne).trans h
theorem below_setRow {B : Nat} {a w : World} (h : Below B a w) {g : Nat} (hg : B ≤ g) (cs : Array Value) : Below B a (w.setRow g cs) :=
  h.trans ⟨rfl, rfl, rfl, by simp, fun k hk => setRow_other w g k cs (by omega)⟩
theorem dc_one (D : Nat → Nat) : (dc D).all (·.oneCell') = true := by
  rw [Array.all_eq_true]
  intro i h
  simp [dc, Value.oneCell']

section
variable {ops : Array Oper} {rest : List Oper} {o : Oper} {a : Act} {w : World} {Q : Exit → Act → World → Prop}
/-- a whole drum is loaded -/
theorem load_drum (hgd : o.guard = none) (x : Operand) (ho : o.op = .load 33 x) (g : Nat) (hx : a.eval x = .pointer (some ⟨g, 0, none⟩)) (T : Nat) (D : Nat → Nat) (hg : DrumAt w T g D)
    (h : wpList Try.prog ops Q rest (a.put o.dst (.agg (dc D))) w) : wpList Try.prog ops Q (o :: rest) a w :=
  wpList_load_row hgd _ x ho g hx T (dc D) (0, 0) _ hg und_drum rfl (by rw [dc_size]; exact size_drum) h
theorem load_arr (hgd : o.guard = none) (x : Operand) (ho : o.op = .load 32 x) (g : Nat) (hx : a.eval x = .pointer (some ⟨g, 0, none⟩)) (T : Nat) (D : Nat → Nat) (hg : DrumAt w T g D)
    (h : wpList Try.prog ops Q rest (a.put o.dst (.agg (dc D))) w) : wpList Try.prog ops Q (o :: rest) a w :=
  wpList_load_row hgd _ x ho g hx T (dc D) (0, 0) _ hg und_arr rfl (by rw [dc_size]; exact size_arr) h
/-- a whole drum is stored -/
theorem store_drum (hgd : o.guard = none) (x y : Operand) (ho : o.op = .store 33 x y) (g : Nat) (E : Nat → Nat) (hx : a.eval x = .pointer (some ⟨g, 0, none⟩)) (hy : a.eval y = .agg (dc E)) (T : Nat) (D : Nat → Nat) (hg : DrumAt w T g D)
    (h : wpList Try.prog ops Q rest (a.put o.dst undef) (w.setRow g (dc E))) : wpList Try.prog ops Q (o :: rest) a w :=
  wpList_store_row hgd _ x y ho g (dc E) hx hy T (dc D) hg (by rw [dc_size]; exact size_drum) (by rw [dc_size, dc_size]) (dc_one E) h
/-- a drum without pins is laid -/
theorem alloc_drum (hgd : o.guard = none) (ho : o.op = .alloc 33)
    (h : wpList Try.prog ops Q rest (a.put o.dst (.pointer (some ⟨w.heap.size, 0, none⟩))) (w.alloc (.cells (dc fun _ => 0) 33))) : wpList Try.prog ops Q (o :: rest) a w := by
  refine wpList_plain hgd fun K hK => ?_
  unfold Oper.wp
  have e : (execOp a.eval o).run Try.prog w = .ok (.value (.pointer (some ⟨w.heap.size, 0, none⟩))) (w.alloc (.cells (dc fun _ => 0) 33)) := by
    simp only [execOp, ho, Instr.alloc, Sem.run_bind, zero_drum, Result.andThen_ok, newVar, Value.cells, ← dc_zero]
    rfl
  rw [e]
  exact hK _ _ h
end
theorem index_drum (D : Nat → Nat) (k : Nat) (hk : k < 96) (w : World) : (Instr.index 33 (.agg (dc D)) (.int .i64 k)).run Try.prog w = .ok (.int .u32 (D k)) w := by
  have hs : (sizeOf 31).run Try.prog w = .ok 1 w := by kernel_rfl
  have ha : (isAgg 31).run Try.prog w = .ok false w := by kernel_rfl
  simp only [Instr.index, asIntOf, Sem.run_bind, Sem.run_pure, Result.andThen_ok, run_underlying und_drum]
  rw [if_pos ⟨by omega, by omega⟩]
  simp only [Sem.run_bind, hs, Result.andThen_ok, part, ha, Int.toNat_natCast, Nat.mul_one, dc_get D k hk]
  rfl
theorem index_arr (D : Nat → Nat) (k : Nat) (hk : k < 96) (w : World) : (Instr.index 32 (.agg (dc D)) (.int .i64 k)).run Try.prog w = .ok (.int .u32 (D k)) w := by
  have hs : (sizeOf 31).run Try.prog w = .ok 1 w := by kernel_rfl
  have ha : (isAgg 31).run Try.prog w = .ok false w := by kernel_rfl
  simp only [Instr.index, asIntOf, Sem.run_bind, Sem.run_pure, Result.andThen_ok, run_underlying und_arr]
  rw [if_pos ⟨by omega, by omega⟩]
  simp only [Sem.run_bind, hs, Result.andThen_ok, part, ha, Int.toNat_natCast, Nat.mul_one, dc_get D k hk]
  rfl
/-- a function's result is a drum in its own cell -/
theorem results_drum {fn : Func} {p : Tmp} (h : fn.results = #[.cell p 33]) (tmps : Array Value) (w : World) (g T : Nat) (D : Nat → Nat)
    (hp : tmps.getD p undef = .pointer (some ⟨g, 0, none⟩)) (hg : DrumAt w T g D) : (results fn tmps).run Try.prog w = .ok (.agg (dc D)) w :=
  results_cell_row h tmps w g T (dc D) (0, 0) _ hp hg und_drum rfl (by rw [dc_size]; exact size_drum)

/-! ### a region that draws its order, whose operations read old memory and call what lays new memory -/
section
variable {P : Program} {ops : Array Oper} {C : World → Prop} {QQ : Act → Prop} {a : Act} {o : Oper} {rest : List Oper}
theorem wp_region_below {id B : Nat} {Q : Exit → Act → World → Prop} {w0 w : World} {l : List Oper} (hm : P.follows .mixedOrders = true) (hB : Region.lexB .any l.toArray = true) (hw : Below B w0 w)
    (h : wpQuiet P l.toArray (fun W => Below B w0 W) (fun a' => ∀ W, Below B w0 W → Q .normal a' W) l a) : (Code.region id l.toArray true).wp P Q a w :=
  wp_region_quiet (C := fun W => Below B w0 W) hm hB ⟨hw.os, hw.tape, hw.output, hw.size, hw.block⟩ (by simpa using h)
theorem quiet_val (hgd : o.guard = none) (v : Value) (he : ∀ W, C W → (execOp a.eval o).run P W = .ok (.value v) W) (h : wpQuiet P ops C QQ rest (a.put o.dst v)) : wpQuiet P ops C QQ (o :: rest) a := by
  unfold wpQuiet
  rw [if_pos (by simp [Region.wanted, hgd])]
  refine ⟨v, fun w hw => ?_, h⟩
  unfold Oper.quietAt
  rw [he w hw]
  exact ⟨rfl, rfl⟩
theorem quiet_call (hgd : o.guard = none) (f : FuncId) (args : Array Value) (v : Value) (he : ∀ W, (execOp a.eval o).run P W = .ok (.enter f args) W)
    (hc : ∀ W, C W → Calls P f args W fun e W' => e = .returned v ∧ C W') (h : wpQuiet P ops C QQ rest (a.put o.dst v)) : wpQuiet P ops C QQ (o :: rest) a := by
  unfold wpQuiet
  rw [if_pos (by simp [Region.wanted, hgd])]
  refine ⟨v, fun w hw => ?_, h⟩
  unfold Oper.quietAt
  rw [he w]
  exact ⟨rfl, hc w hw⟩
end
theorem quiet_load_drum {ops : Array Oper} {C : World → Prop} {QQ : Act → Prop} {a : Act} {o : Oper} {rest : List Oper} (hgd : o.guard = none) (x : Operand) (ho : o.op = .load 33 x) (g : Nat) (hx : a.eval x = .pointer (some ⟨g, 0, none⟩)) (T : Nat) (D : Nat → Nat)
    (hg : ∀ W, C W → DrumAt W T g D) (h : wpQuiet Try.prog ops C QQ rest (a.put o.dst (.agg (dc D)))) : wpQuiet Try.prog ops C QQ (o :: rest) a := by
  refine quiet_val hgd _ (fun W hW => ?_) h
  unfold execOp
  simp only [ho, hx, Instr.loadAt, Instr.sureAddr, Sem.run_bind, Sem.run_pure, Result.andThen_ok, run_loadVar_row W g T 33 (dc D) (0, 0) _ (hg W hW) und_drum rfl (by rw [dc_size]; exact size_drum)]

/-- the rows below k are of the one, the others of the other -/
def mixD (F D : Nat → Nat) (k : Nat) : Nat → Nat := fun j => if j < k then F j else D j
theorem mixD_zero (F D : Nat → Nat) : mixD F D 0 = D := by funext j; simp [mixD]
theorem mixD_at (F D : Nat → Nat) (k : Nat) : mixD F D k k = D k := by simp [mixD]
theorem mixD_upd (F D : Nat → Nat) (k : Nat) : upd (mixD F D k) k (F k) = mixD F D (k + 1) := by
  funext j
  unfold upd mixD
  by_cases e : j = k
  · subst e; rw [if_pos rfl, if_pos (by omega)]
  · rw [if_neg e]
    by_cases h : j < k
    · rw [if_pos h, if_pos (by omega)]
    · rw [if_neg h, if_neg (by omega)]
theorem mixD_full (F D : Nat → Nat) : dc (mixD F D 96) = dc F := dc_congr fun k hk => by unfold mixD; rw [if_pos hk]
theorem DrumAt.congr {w : World} {T g : Nat} {D E : Nat → Nat} (h : DrumAt w T g D) (e : dc D = dc E) : DrumAt w T g E := by unfold DrumAt at *; rw [← e]; exact h
/-! three blocks laid one behind the other -/
theorem size_alloc1 (w : World) (a : Obj) : (w.alloc a).heap.size = w.heap.size + 1 := by simp
theorem DrumAt.new2 (w : World) (a : Obj) (T : Nat) (D : Nat → Nat) : DrumAt ((w.alloc a).alloc (.cells (dc D) T)) T (w.heap.size + 1) D := by
  have h := DrumAt.new (w.alloc a) T D
  rw [size_alloc1] at h
  exact h
theorem DrumAt.new3 (w : World) (a b : Obj) (T : Nat) (D : Nat → Nat) : DrumAt (((w.alloc a).alloc b).alloc (.cells (dc D) T)) T (w.heap.size + 2) D := by
  have h := DrumAt.new2 (w.alloc a) b T D
  rw [size_alloc1] at h
  exact h
end Go.Proofs.Ytlcfjeofphncgaa
namespace Go.Proofs.Ytlcfjeofphncgaa
open Go.RowKit
set_option linter.unusedVariables false
set_option linter.unusedSimpArgs false

theorem run_build1 (D : Nat → Nat) (w : World) : (Instr.buildSlice 29 1 #[(0, .agg (dc D))]).run Try.prog w = .ok (.slice (some ⟨w.heap.size, 0, none⟩) 1 1) (w.alloc (.cells (dc D) 33)) := by
  kernel_rfl
theorem run_build2 (D E : Nat → Nat) (w : World) : (Instr.buildSlice 29 2 #[(0, .agg (dc D)), (1, .agg (dc E))]).run Try.prog w = .ok (.slice (some ⟨w.heap.size, 0, none⟩) 2 2) (w.alloc (.cells (dc D ++ dc E) 33)) := by
  kernel_rfl

/-- the cells of a drum from the place o on -/
def DrumCells (w : World) (g o : Nat) (D : Nat → Nat) : Prop := ∀ k, k < 96 → w.cell? ⟨g, o + k, none⟩ = some (.int .u32 (D k))
theorem DrumCells.below {B : Nat} {w w' : World} {g o : Nat} {D : Nat → Nat} (h : DrumCells w g o D) (hb : Below B w w') (hg : g < B) : DrumCells w' g o D := fun k hk => (hb.cell (p := ⟨g, o + k, none⟩) hg).trans (h k hk)
theorem DrumAt.cells {w : World} {T g : Nat} {D : Nat → Nat} (h : DrumAt w T g D) : DrumCells w g 0 D := fun k hk => by rw [Nat.zero_add]; exact h.cell k hk
theorem DrumCells.range {w : World} {g o : Nat} {D : Nat → Nat} (h : DrumCells w g o D) : w.rangeAt g o (dc D).toList := by
  intro j v hv
  have hj : j < 96 := by
    have := (List.getElem?_eq_some_iff.1 hv).1
    simpa [dc_size] using this
  have e : (dc D)[j]? = some v := by simpa using hv
  rw [dc_get D j hj] at e
  rw [h j hj, e]
section
variable {ops : Array Oper} {rest : List Oper} {o : Oper} {a : Act} {w : World} {Q : Exit → Act → World → Prop}
theorem load_drum_mid (hgd : o.guard = none) (x : Operand) (ho : o.op = .load 33 x) (g p : Nat) (hx : a.eval x = .pointer (some ⟨g, p, none⟩)) (D : Nat → Nat) (hg : DrumCells w g p D)
    (h : wpList Try.prog ops Q rest (a.put o.dst (.agg (dc D))) w) : wpList Try.prog ops Q (o :: rest) a w := by
  refine wpList_load_mid hgd _ x ho g p hx (dc D).toList _ hg.range und_drum rfl (by rw [Array.length_toList, dc_size]; exact size_drum) ?_
  simpa using h
theorem build1 (hgd : o.guard = none) (x : Operand) (ho : o.op = .buildSlice 29 1 #[(0, x)]) (D : Nat → Nat) (hx : a.eval x = .agg (dc D))
    (h : wpList Try.prog ops Q rest (a.put o.dst (.slice (some ⟨w.heap.size, 0, none⟩) 1 1)) (w.alloc (.cells (dc D) 33))) : wpList Try.prog ops Q (o :: rest) a w := by
  refine wpList_plain hgd fun K hK => ?_
  unfold Oper.wp
  have e : (execOp a.eval o).run Try.prog w = .ok (.value (.slice (some ⟨w.heap.size, 0, none⟩) 1 1)) (w.alloc (.cells (dc D) 33)) := by
    have hm : (#[(0, x)] : Array (Nat × Operand)).map (fun (i, y) => (i, a.eval y)) = #[(0, .agg (dc D))] := by simp [hx]
    simp only [execOp, ho, hm, Sem.run_bind, run_build1, Result.andThen_ok]
    rfl
  rw [e]
  exact hK _ _ h
theorem build2 (hgd : o.guard = none) (x y : Operand) (ho : o.op = .buildSlice 29 2 #[(0, x), (1, y)]) (D E : Nat → Nat) (hx : a.eval x = .agg (dc D)) (hy : a.eval y = .agg (dc E))
    (h : wpList Try.prog ops Q rest (a.put o.dst (.slice (some ⟨w.heap.size, 0, none⟩) 2 2)) (w.alloc (.cells (dc D ++ dc E) 33))) : wpList Try.prog ops Q (o :: rest) a w := by
  refine wpList_plain hgd fun K hK => ?_
  unfold Oper.wp
  have e : (execOp a.eval o).run Try.prog w = .ok (.value (.slice (some ⟨w.heap.size, 0, none⟩) 2 2)) (w.alloc (.cells (dc D ++ dc E) 33)) := by
    have hm : (#[(0, x), (1, y)] : Array (Nat × Operand)).map (fun (i, y) => (i, a.eval y)) = #[(0, .agg (dc D)), (1, .agg (dc E))] := by simp [hx, hy]
    simp only [execOp, ho, hm, Sem.run_bind, run_build2, Result.andThen_ok]
    rfl
  rw [e]
  exact hK _ _ h
end
/-- a slice at the address a reads as n drums -/
def DrumsAt (w : World) (a : Option Addr) (n : Nat) (L : Nat → Nat → Nat) : Prop :=
  0 < n → ∃ g off, a = some ⟨g, off, none⟩ ∧ g < w.heap.size ∧ ∀ i, i < n → DrumCells w g (off + i * 96) (L i)
theorem DrumsAt.get {w : World} {a : Option Addr} {n : Nat} {L : Nat → Nat → Nat} (h : DrumsAt w a n L) (hn : 0 < n) :
    ∃ g off, a = some ⟨g, off, none⟩ ∧ g < w.heap.size ∧ ∀ i, i < n → DrumCells w g (off + i * 96) (L i) := h hn
theorem DrumsAt.below {w w' : World} {a : Option Addr} {n : Nat} {L : Nat → Nat → Nat} (h : DrumsAt w a n L) (hb : Below w.heap.size w w') : DrumsAt w' a n L := by
  intro hn
  obtain ⟨g, off, rfl, hg, hc⟩ := h hn
  exact ⟨g, off, rfl, Nat.lt_of_lt_of_le hg hb.size, fun i hi => (hc i hi).below hb hg⟩
theorem DrumsAt.nil (w : World) (a : Option Addr) (L : Nat → Nat → Nat) : DrumsAt w a 0 L := fun h => absurd h (by omega)
theorem DrumsAt.one (w : World) (D : Nat → Nat) (L : Nat → Nat → Nat) (h0 : L 0 = D) : DrumsAt (w.alloc (.cells (dc D) 33)) (some ⟨w.heap.size, 0, none⟩) 1 L := fun _ =>
  ⟨w.heap.size, 0, rfl, by simp, fun i hi => by
    obtain rfl : i = 0 := by omega
    rw [h0]
    exact (DrumAt.new w 33 D).cells⟩
theorem DrumsAt.two (w : World) (D E : Nat → Nat) (L : Nat → Nat → Nat) (h0 : L 0 = D) (h1 : L 1 = E) : DrumsAt (w.alloc (.cells (dc D ++ dc E) 33)) (some ⟨w.heap.size, 0, none⟩) 2 L := fun _ =>
  ⟨w.heap.size, 0, rfl, by simp, fun i hi k hk => by
    have hb : (w.alloc (.cells (dc D ++ dc E) 33)).heap[w.heap.size]? = some (.cells (dc D ++ dc E) 33 (0, 0)) := heap_alloc_new w _
    rw [cell_of_row _ _ _ _ _ _ hb]
    rcases (by omega : i = 0 ∨ i = 1) with rfl | rfl
    · rw [h0, Array.getElem?_append_left (by rw [dc_size]; omega), show 0 + 0 * 96 + k = k by omega, dc_get D k hk]
    · rw [h1, Array.getElem?_append_right (by rw [dc_size]; omega), dc_size, show 0 + 1 * 96 + k - 96 = k by omega, dc_get E k hk]⟩
end Go.Proofs.Ytlcfjeofphncgaa
namespace Go.Proofs.Ytlcfjeofphncgaa
open Go.RowKit
set_option linter.unusedVariables false
set_option linter.unusedSimpArgs false

/-- a drum is valid for a valid frame with s steps and n hammers -/
def vDrum (s : Int) (n : Nat) (D : Nat → Nat) : Bool := (List.range 96).all fun k => decide (D k / 2 ^ n = 0 ∧ (s ≤ (k : Int) → D k = 0))
theorem vDrum_iff {s : Int} {n : Nat} {D : Nat → Nat} : vDrum s n D = true ↔ ∀ k, k < 96 → D k / 2 ^ n = 0 ∧ (s ≤ (k : Int) → D k = 0) := by
  simp only [vDrum, List.all_eq_true, List.mem_range, decide_eq_true_eq]
theorem vDrum_false {s : Int} {n : Nat} {D : Nat → Nat} (k : Nat) (hk : k < 96) (h : ¬ (D k / 2 ^ n = 0 ∧ (s ≤ (k : Int) → D k = 0))) : vDrum s n D = false := by
  rw [← Bool.not_eq_true, vDrum_iff]
  exact fun H => h (H k hk)
attribute [irreducible] vDrum
theorem ne0_false {x n : Nat} (h : x / 2 ^ n = 0) : ((x : Int) / 2 ^ n != 0) = false := by rw [bne_eq_false_iff_eq]; exact_mod_cast h
theorem ne0_true {x n : Nat} (h : ¬ x / 2 ^ n = 0) : ((x : Int) / 2 ^ n != 0) = true := by rw [bne_iff_ne]; exact_mod_cast h
theorem z0_false {x : Nat} (h : x = 0) : ((x : Int) != 0) = false := by rw [bne_eq_false_iff_eq]; exact_mod_cast h
theorem z0_true {x : Nat} (h : ¬ x = 0) : ((x : Int) != 0) = true := by rw [bne_iff_ne]; exact_mod_cast h

theorem l02Drum_any (gf gd : Nat) (s : Int) (a : Option Addr) (n c : Nat) (D : Nat → Nat) (w : World) (hn : n ≤ 24) (hs0 : 2 ≤ s) (hs1 : s ≤ 96)
    (h0 : w.cell? ⟨gf, 0, none⟩ = some (.int .i16 s)) (h1 : w.cell? ⟨gf, 1, none⟩ = some (.slice a n c)) (hd : DrumCells w gd 0 D) :
    Calls Try.prog 67 #[.pointer (some ⟨gf, 0, none⟩), .pointer (some ⟨gd, 0, none⟩)] w fun e w' => e = .returned (.bool (vDrum s n D)) ∧ ∃ q, w' = w.drewN q := by
  have Hd := Lib.hid hd; clear hd
  go_enter Try.func67, Try.ntmps67
  go_wp2
  go_loopw [5] (fun i w' => (∃ q, w' = w.drewN q) ∧ ∃ k : Nat, k ≤ 96 ∧ i = .int .i64 k ∧ ∀ j, j < k → D j / 2 ^ n = 0 ∧ (s ≤ (j : Int) → D j = 0)) (fun i _ => 96 - (intOf i).toNat)
  case atStart => exact ⟨⟨0, rfl⟩, 0, by omega, rfl, fun j hj => by omega⟩
  case round =>
    obtain ⟨⟨q, rfl⟩, k, hk, rfl, hP⟩ := hrel
    have HP := Lib.hid hP; clear hP
    by_cases hlt : k < 96
    · have hdk := Hd.out k hlt
      rw [Nat.zero_add] at hdk
      have hw1 := u64_nat n (by omega)
      have hw2 : min n 32 = n := by omega
      by_cases h1 : D k / 2 ^ n = 0
      · have hb1 := ne0_false h1
        have H1 := Lib.hid h1; clear h1
        by_cases h2 : s ≤ k
        · have h2' : decide (s ≤ (k : Int)) = true := by simpa using h2
          by_cases h3 : D k = 0
          · have hb3 := z0_false h3
            have H3 := Lib.hid h3; clear h3
            go_wp2
            go_quiet (fail)
            go_wp2
            go_roundw
            case rel => exact ⟨⟨q + nq, by first | rfl | rw [World.drewN_drewN]⟩, k + 1, by omega, by go_num, fun j hj => if e : j = k then e ▸ ⟨H1.out, fun _ => H3.out⟩ else HP.out j (by omega)⟩
            case measure => simp [intOf]; omega
          · have hb3 := z0_true h3
            have H3 := Lib.hid h3; clear h3
            go_wp2
            go_quiet (fail)
            go_wp2
            go_ret
            exact ⟨ret_bool (vDrum_false k hlt fun H => H3.out (H.2 h2)).symm, q + nq, by first | rfl | rw [World.drewN_drewN]⟩
        · have h2' : decide (s ≤ (k : Int)) = false := by simpa using h2
          have H2 := Lib.hid h2; clear h2
          go_wp2
          go_quiet (fail)
          go_wp2
          go_roundw
          case rel => exact ⟨⟨q + nq, by first | rfl | rw [World.drewN_drewN]⟩, k + 1, by omega, by go_num, fun j hj => if e : j = k then e ▸ ⟨H1.out, fun h => absurd h (by have := H2.out; omega)⟩ else HP.out j (by omega)⟩
          case measure => simp [intOf]; omega
      · have hb1 := ne0_true h1
        have H1 := Lib.hid h1; clear h1
        go_wp2
        go_quiet (fail)
        go_wp2
        go_ret
        exact ⟨ret_bool (vDrum_false k hlt fun H => H1.out H.1).symm, q + nq, by first | rfl | rw [World.drewN_drewN]⟩
    · go_wp2
      go_ret
      exact ⟨ret_bool (vDrum_iff.2 fun j hj => HP.out j (by omega)).symm, _, rfl⟩
theorem isDrum_any (s : Int) (a : Option Addr) (n c : Nat) (D : Nat → Nat) (w : World) (hn : n ≤ 24) (hs0 : 2 ≤ s) (hs1 : s ≤ 96) :
    Calls Try.prog 75 #[.agg #[.int .i16 s, .slice a n c], .agg (dc D)] w fun e w' => e = .returned (.bool (vDrum s n D)) ∧ Below w.heap.size w w' := by
  have hg := DrumAt.new2 w (.cells #[.int .i16 s, .slice a n c] 27) 33 D
  have hb0 : Below w.heap.size w ((w.alloc (.cells #[.int .i16 s, .slice a n c] 27)).alloc (.cells (dc D) 33)) := ((Below.refl _ _).alloc (Nat.le_refl _) _).alloc (by simp) _
  have HB := Lib.hid hb0; clear hb0
  go_enter Try.func75, Try.ntmps75
  go_wp2_with (with_reducible refine load_drum rfl _ rfl (w.heap.size + 1) rfl _ D hg ?_)
  clear hg
  go_loop [8] (fun i => ∃ k : Nat, k ≤ 96 ∧ i = .int .i64 k ∧ ∀ j, j < k → D j / 2 ^ n = 0 ∧ (s ≤ (j : Int) → D j = 0)) (fun i => 96 - (intOf i).toNat)
  case atStart => exact ⟨0, by omega, rfl, fun j hj => by omega⟩
  case round =>
    obtain ⟨k, hk, rfl, hP⟩ := hrel
    have HP := Lib.hid hP; clear hP
    by_cases hlt : k < 96
    · have hix := index_drum D k hlt
      have hw2 : min n 32 = n := by omega
      by_cases h1 : D k / 2 ^ n = 0
      · have hb1 := ne0_false h1
        have H1 := Lib.hid h1; clear h1
        by_cases h2 : s ≤ k
        · have h2' : decide (s ≤ (k : Int)) = true := by simpa using h2
          by_cases h3 : D k = 0
          · have hb3 := z0_false h3
            have H3 := Lib.hid h3; clear h3
            go_wp2
            go_round
            case rel => exact ⟨k + 1, by omega, by go_num, fun j hj => if e : j = k then e ▸ ⟨H1.out, fun _ => H3.out⟩ else HP.out j (by omega)⟩
            case measure => simp [intOf]; omega
          · have hb3 := z0_true h3
            have H3 := Lib.hid h3; clear h3
            go_wp2
            go_ret
            exact ⟨ret_bool (vDrum_false k hlt fun H => H3.out (H.2 h2)).symm, HB.out⟩
        · have h2' : decide (s ≤ (k : Int)) = false := by simpa using h2
          have H2 := Lib.hid h2; clear h2
          go_wp2
          go_round
          case rel => exact ⟨k + 1, by omega, by go_num, fun j hj => if e : j = k then e ▸ ⟨H1.out, fun h => absurd h (by have := H2.out; omega)⟩ else HP.out j (by omega)⟩
          case measure => simp [intOf]; omega
      · have hb1 := ne0_true h1
        have H1 := Lib.hid h1; clear h1
        go_wp2
        go_ret
        exact ⟨ret_bool (vDrum_false k hlt fun H => H1.out H.1).symm, HB.out⟩
    · go_wp2
      go_ret
      exact ⟨ret_bool (vDrum_iff.2 fun j hj => HP.out j (by omega)).symm, HB.out⟩
theorem drumCode1_any (gf : Nat) (s : Int) (a : Option Addr) (n c : Nat) (D : Nat → Nat) (w : World) (hn : n ≤ 24) (hs0 : 2 ≤ s) (hs1 : s ≤ 96) (hgf : gf < w.heap.size)
    (h0 : w.cell? ⟨gf, 0, none⟩ = some (.int .i16 s)) (h1 : w.cell? ⟨gf, 1, none⟩ = some (.slice a n c)) :
    Calls Try.prog 74 #[.agg (dc D), .pointer (some ⟨gf, 0, none⟩)] w fun e w' => e = .returned (.bool (!vDrum s n D)) ∧ Below w.heap.size w w' := by
  have hg := DrumAt.new w 33 D
  have hb0 : Below w.heap.size w (w.alloc (.cells (dc D) 33)) := (Below.refl _ _).alloc (Nat.le_refl _) _
  go_enter Try.func74, Try.ntmps74
  go_wp2_with (first | (with_reducible refine load_drum rfl _ rfl w.heap.size rfl _ D hg ?_) | (go_at_call 75; refine (isDrum_any s a n c D _ hn hs0 hs1).mono ?_; rintro e w1 ⟨rfl, hb1⟩))
  go_ret
  exact ⟨rfl, hb0.trans (hb1.mono (by simp))⟩
theorem indexFuncDrum_any (a : Option Addr) (n c : Nat) (L : Nat → Nat → Nat) (cp : Value) (p : Nat → Bool) (w : World) (hn : n ≤ 1000000000) (hh : DrumsAt w a n L)
    (hcall : ∀ W k, k < n → Below w.heap.size w W → Calls Try.prog 74 #[.agg (dc (L k)), cp] W fun e W' => e = .returned (.bool (p k)) ∧ Below W.heap.size W W') :
    Calls Try.prog 40 #[.slice a n c, .func (.func 74) #[] #[cp]] w fun e w' => ∃ r, e = .returned (.int .i64 r) ∧ IdxOf p n r ∧ Below w.heap.size w w' := by
  have HH := Lib.hid hh; clear hh
  have HC := Lib.hid hcall; clear hcall
  go_enter Try.func40, Try.ntmps40
  go_wp2
  go_loopw [8] (fun i w' => Below w.heap.size w w' ∧ ∃ k : Nat, k ≤ n ∧ i = .int .i64 k ∧ ∀ j, j < k → p j = false) (fun i _ => n - (intOf i).toNat)
  case atStart => exact ⟨Below.refl _ _, 0, by omega, rfl, fun j hj => by omega⟩
  case round =>
    obtain ⟨hb, k, hk, rfl, hK⟩ := hrel
    have HK := Lib.hid hK; clear hK
    by_cases hlt : k < n
    · have hx := DrumsAt.get HH.out (show 0 < n by omega)
      obtain ⟨g, off, rfl, hg, hc⟩ := hx
      have hck := Lib.hid ((hc k hlt).below hb hg)
      clear hc
      cases hp : p k
      · go_wp2_with (first | (with_reducible refine load_drum_mid rfl _ rfl g (off + k * 96) rfl (L k) hck.out ?_) | (go_at_call 74; refine (HC.out _ k hlt hb).mono ?_; rintro e w1 ⟨rfl, hb1⟩))
        go_roundw
        case rel => exact ⟨hb.trans (hb1.mono hb.size), k + 1, by omega, by go_num, fun j hj => if e : j = k then e ▸ hp else HK.out j (by omega)⟩
        case measure => simp [intOf]; omega
      · go_wp2_with (first | (with_reducible refine load_drum_mid rfl _ rfl g (off + k * 96) rfl (L k) hck.out ?_) | (go_at_call 74; refine (HC.out _ k hlt hb).mono ?_; rintro e w1 ⟨rfl, hb1⟩))
        go_ret
        exact ⟨_, rfl, .inr ⟨k, rfl, hlt, hp, HK.out⟩, hb.trans (hb1.mono hb.size)⟩
    · go_wp2
      go_ret
      exact ⟨_, rfl, .inl ⟨rfl, fun j hj => HK.out j (by omega)⟩, hb⟩
theorem containsFuncDrum_any (a : Option Addr) (n c : Nat) (L : Nat → Nat → Nat) (cp : Value) (p : Nat → Bool) (w : World) (hn : n ≤ 1000000000) (hh : DrumsAt w a n L)
    (hcall : ∀ W k, k < n → Below w.heap.size w W → Calls Try.prog 74 #[.agg (dc (L k)), cp] W fun e W' => e = .returned (.bool (p k)) ∧ Below W.heap.size W W') :
    Calls Try.prog 73 #[.slice a n c, .func (.func 74) #[] #[cp]] w fun e w' => e = .returned (.bool (anyB p n)) ∧ Below w.heap.size w w' := by
  have HH := Lib.hid hh; clear hh
  have HC := Lib.hid hcall; clear hcall
  go_enter Try.func73, Try.ntmps73
  go_wp2_with (go_at_call 40; refine (indexFuncDrum_any _ _ _ _ _ _ _ hn HH.out HC.out).mono ?_; rintro e w1 ⟨r, rfl, hr, hb⟩)
  go_ret
  exact ⟨ret_bool hr.any, hb⟩
/-- a frame and drums are valid -/
def okAll (s : Int) (n : Nat) (P R : Nat → Int) (m : Nat) (L : Nat → Nat → Nat) : Bool := vFrame s n P R && (List.range m).all fun i => vDrum s n (L i)
theorem okAll_iff {s : Int} {n : Nat} {P R : Nat → Int} {m : Nat} {L : Nat → Nat → Nat} : okAll s n P R m L = true ↔ vFrame s n P R = true ∧ ∀ i, i < m → vDrum s n (L i) = true := by
  simp only [okAll, Bool.and_eq_true, List.all_eq_true, List.mem_range]
attribute [irreducible] okAll
theorem drumCode_any (s : Int) (a : Option Addr) (n c : Nat) (P R : Nat → Int) (b : Option Addr) (m d : Nat) (L : Nat → Nat → Nat) (w : World) (hn : n ≤ 1000000000) (hm : m ≤ 1000000000) (hs : -32768 ≤ s ∧ s ≤ 32767) (hP : I8 P) (hR : I8 R)
    (hh : HamAt w a n P R) (hl : DrumsAt w b m L) :
    Calls Try.prog 46 #[.agg #[.int .i16 s, .slice a n c], .slice b m d] w fun e w' => e = .returned (.int .i64 (unl (okAll s n P R m L) 1)) ∧ Below w.heap.size w w' := by
  have HP := Lib.hid hP; clear hP
  have HR := Lib.hid hR; clear hR
  have HH := Lib.hid hh; clear hh
  have HL := Lib.hid hl; clear hl
  have hb0 : Below w.heap.size w (w.alloc (.cells #[.int .i16 s, .slice a n c] 27)) := (Below.refl _ _).alloc (Nat.le_refl _) _
  have HB0 := Lib.hid hb0; clear hb0
  cases hv : vFrame s n P R
  · go_enter Try.func46, Try.ntmps46
    go_wp2_with (first | (go_at_call 72; refine (validFrame_any s a n c P R _ hn hs HP.out HR.out (HH.out.below HB0.out)).mono ?_; rintro e w1 ⟨rfl, hb1⟩) | (go_at_call 54; refine (unless_any _ _ _).mono ?_; rintro e w' ⟨rfl, rfl⟩))
    go_ret
    have : okAll s n P R m L = false := by
      rw [← Bool.not_eq_true, okAll_iff]
      rintro ⟨H, _⟩
      rw [hv] at H
      exact absurd H (by simp)
    exact ⟨ret_int (by rw [this]), HB0.out.trans (hb1.mono (by simp))⟩
  · obtain ⟨hS, hN, _⟩ := vFrame_iff.1 hv
    go_enter Try.func46, Try.ntmps46
    go_wp2_with (go_at_call 72; refine (validFrame_any s a n c P R _ hn hs HP.out HR.out (HH.out.below HB0.out)).mono ?_; rintro e w1 ⟨rfl, hb1⟩)
    have hb2 := HB0.out.trans (hb1.mono (by simp))
    have hz : w.heap.size < w1.heap.size := by have := hb1.size; simp at this; omega
    have f0 : w1.cell? ⟨w.heap.size, 0, none⟩ = some (.int .i16 s) := (hb1.cell (p := ⟨w.heap.size, 0, none⟩) (by simp)).trans (by simp)
    have f1 : w1.cell? ⟨w.heap.size, 1, none⟩ = some (.slice a n c) := (hb1.cell (p := ⟨w.heap.size, 1, none⟩) (by simp)).trans (by simp)
    refine (containsFuncDrum_any b m d L _ (fun i => !vDrum s n (L i)) _ hm (HL.out.below hb2) ?_).mono ?_
    · intro W k hk hbW
      exact drumCode1_any _ s a n c (L k) W hN.2 hS.1 hS.2 (by have := hbW.size; omega) ((hbW.cell (p := ⟨w.heap.size, 0, none⟩) hz).trans f0) ((hbW.cell (p := ⟨w.heap.size, 1, none⟩) hz).trans f1)
    · rintro e w2 ⟨rfl, hb3⟩
      have hb4 := hb2.trans (hb3.mono hb2.size)
      go_wp2_with (go_at_call 54; refine (unless_any _ _ _).mono ?_; rintro e w' ⟨rfl, rfl⟩)
      go_ret
      refine ⟨ret_int ?_, hb4⟩
      congr 1
      rw [Bool.eq_iff_iff, okAll_iff, Bool.not_eq_true', ← Bool.not_eq_true, anyB_iff]
      constructor
      · intro h
        refine ⟨hv, fun i hi => ?_⟩
        cases hq : vDrum s n (L i)
        · exact absurd ⟨i, hi, by simp [hq]⟩ h
        · rfl
      · rintro ⟨_, h⟩ ⟨i, hi, hq⟩
        rw [h i hi] at hq
        exact absurd hq (by simp)
end Go.Proofs.Ytlcfjeofphncgaa
namespace Go.Proofs.Ytlcfjeofphncgaa
open Go.RowKit
set_option linter.unusedVariables false
set_option linter.unusedSimpArgs false

/-- what is left of l when n is taken, -1 if that is too much -/
def szOf (l n : Int) : Int := if l < n then -1 else l - n
theorem szOf_lt {l n : Int} (h : l < n) : szOf l n = -1 := by unfold szOf; rw [if_pos h]
theorem szOf_ge {l n : Int} (h : n ≤ l) : szOf l n = l - n := by unfold szOf; rw [if_neg (by omega)]
attribute [irreducible] szOf
end Go.Proofs.Ytlcfjeofphncgaa
namespace Go.Proofs.Ytlcfjeofphncgaa
open Go.RowKit
set_option linter.unusedVariables false
set_option linter.unusedSimpArgs false

/-- N cells, told by a function -/
def cf (N : Nat) (f : Nat → Value) : Array Value := Array.ofFn (n := N) fun i => f i.val
theorem cf_size (N : Nat) (f : Nat → Value) : (cf N f).size = N := by simp [cf]
theorem cf_get (N : Nat) (f : Nat → Value) (k : Nat) (h : k < N) : (cf N f)[k]? = some (f k) := by simp [cf, h]
def updV (f : Nat → Value) (k : Nat) (v : Value) : Nat → Value := fun j => if j = k then v else f j
theorem updV_same (f : Nat → Value) (k : Nat) (v : Value) : updV f k v k = v := if_pos rfl
theorem updV_other (f : Nat → Value) (k : Nat) (v : Value) {j : Nat} (h : j ≠ k) : updV f k v j = f j := if_neg h
theorem cf_set (N : Nat) (f : Nat → Value) (k : Nat) (v : Value) (h : k < N) : (cf N f).setIfInBounds k v = cf N (updV f k v) := by
  apply Array.ext
  · simp [cf]
  · intro i h1 h2
    have hi : i < N := by simpa [cf] using h2
    rw [Array.getElem_setIfInBounds (by simpa [cf] using hi)]
    by_cases e : k = i
    · subst e; simp [cf, updV]
    · rw [if_neg e]; simp [cf, updV, Ne.symm e]
theorem cf_of (cs : Array Value) : ∃ f, cs = cf cs.size f := by
  refine ⟨fun i => cs.getD i undef, ?_⟩
  apply Array.ext
  · simp [cf]
  · intro i h1 h2
    simp [cf, h1]
attribute [irreducible] cf
/-- the block g holds N cells -/
def BlkAt (w : World) (T g N : Nat) (f : Nat → Value) : Prop := w.heap[g]? = some (.cells (cf N f) T (0, 0))
section
variable {w w' : World} {T g N B : Nat} {f : Nat → Value}
theorem BlkAt.lt (h : BlkAt w T g N f) : g < w.heap.size := (Array.getElem?_eq_some_iff.1 h).1
theorem BlkAt.cell (h : BlkAt w T g N f) (k : Nat) (hk : k < N) : w.cell? ⟨g, k, none⟩ = some (f k) := by rw [cell_of_row w g k _ _ _ h, cf_get N f k hk]
theorem BlkAt.frozen (h : BlkAt w T g N f) (k : Nat) : w.frozen? ⟨g, k, none⟩ = false := frozen_of_row w g k _ _ h
theorem BlkAt.new (w : World) (T N : Nat) (f : Nat → Value) : BlkAt (w.alloc (.cells (cf N f) T)) T w.heap.size N f := heap_alloc_new w _
theorem BlkAt.alloc (h : BlkAt w T g N f) (o : Obj) : BlkAt (w.alloc o) T g N f := (Below.heap_alloc w o g h.lt).trans h
theorem BlkAt.drewN (h : BlkAt w T g N f) (n : Nat) : BlkAt (w.drewN n) T g N f := h
theorem BlkAt.below (h : BlkAt w T g N f) (hb : Below B w w') (hg : g < B) : BlkAt w' T g N f := (hb.block g hg).trans h
theorem BlkAt.setCell (h : BlkAt w T g N f) (k : Nat) (v : Value) (hk : k < N) : BlkAt (w.setCell ⟨g, k, none⟩ v) T g N (updV f k v) := by
  unfold BlkAt
  rw [heap_setCell_same w g k _ _ _ h, cf_set N f k v hk]
theorem BlkAt.setOther (h : BlkAt w T g N f) (a : Addr) (v : Value) (hne : g ≠ a.block) : BlkAt (w.setCell a v) T g N f := (heap_setCell_other w a g v hne).trans h
theorem BlkAt.setRowOther (h : BlkAt w T g N f) (j : Nat) (cs : Array Value) (hne : g ≠ j) : BlkAt (w.setRow j cs) T g N f := (setRow_other w j g cs hne).trans h
theorem BlkAt.congr {f' : Nat → Value} (h : BlkAt w T g N f) (e : ∀ k, k < N → f k = f' k) : BlkAt w T g N f' := by
  have e2 : cf N f = cf N f' := by
    apply Array.ext_getElem?
    intro i
    by_cases hi : i < N
    · rw [cf_get _ _ _ hi, cf_get _ _ _ hi, e i hi]
    · rw [Array.getElem?_eq_none (by rw [cf_size]; omega), Array.getElem?_eq_none (by rw [cf_size]; omega)]
  unfold BlkAt at *
  rw [h, e2]
end
theorem made_cf (z : Array Value) (n : Nat) : ∃ f, madeCells z n = cf n f := by
  obtain ⟨f, h⟩ := cf_of (madeCells z n)
  rw [size_madeCells] at h
  exact ⟨f, h⟩
/-- make([]T, n), n a variable, as the walk meets it -/
theorem run_make_n {P : Program} (w : World) (t e : TypeId) (i : TypeInfo) (z : Value) (ht : P.underlying t = some (.slice e)) (hi : P.info? e = some i) (hz : i.zero = some z) (size bytes n : Nat) (hs : i.size = size) (hb : i.bytes = bytes)
    (hn : bytes * n ≤ 281474976710656) (hm : n ≤ 9223372036854775807) :
    ∃ f, (Instr.makeSlice t (.int .i64 (n : Int)) (.int .i64 (n : Int))).run P w = .ok (.slice (some ⟨w.heap.size, 0, none⟩) n n) (w.alloc (.cells (cf (n * size) f) e)) := by
  subst hs hb
  have h := run_make (P := P) w t e i z ht hi hz .i64 .i64 n n (by omega) (by omega) (by rw [← Int.natCast_mul]; omega) (by omega)
  simp only [Int.toNat_natCast] at h
  obtain ⟨f, hf⟩ := made_cf z.cells (n * i.size)
  rw [hf] at h
  exact ⟨f, h⟩
end Go.Proofs.Ytlcfjeofphncgaa
namespace Go.Proofs.Ytlcfjeofphncgaa
open Go.RowKit
set_option linter.unusedVariables false
set_option linter.unusedSimpArgs false

/-- a slice that came in, at the address a, reads as n hammers -/
def HamIn (w : World) (a : Option Addr) (n : Nat) (P R : Nat → Int) : Prop :=
  0 < n → ∃ ad, a = some ad ∧ ad.block < w.heap.size ∧
    ∀ i, i < n → w.cell? (ad.add (i * 2)) = some (.int .i8 (P i)) ∧ w.cell? ⟨(ad.add (i * 2)).block, (ad.add (i * 2)).off + 1, none⟩ = some (.int .i8 (R i))
theorem add_block (ad : Addr) (k : Nat) : (ad.add k).block = ad.block := by unfold Addr.add; split <;> rfl
theorem HamIn.get {w : World} {a : Option Addr} {n : Nat} {P R : Nat → Int} (h : HamIn w a n P R) (hn : 0 < n) : ∃ ad, a = some ad ∧ ad.block < w.heap.size ∧
    ∀ i, i < n → w.cell? (ad.add (i * 2)) = some (.int .i8 (P i)) ∧ w.cell? ⟨(ad.add (i * 2)).block, (ad.add (i * 2)).off + 1, none⟩ = some (.int .i8 (R i)) := h hn
theorem HamIn.below {w w' : World} {a : Option Addr} {n : Nat} {P R : Nat → Int} (h : HamIn w a n P R) (hb : Below w.heap.size w w') : HamIn w' a n P R := by
  intro hn
  obtain ⟨ad, rfl, hg, hc⟩ := h hn
  refine ⟨ad, rfl, Nat.lt_of_lt_of_le hg hb.size, fun i hi => ?_⟩
  rw [hb.cell (p := ad.add (i * 2)) (by rw [add_block]; exact hg), hb.cell (p := ⟨(ad.add (i * 2)).block, (ad.add (i * 2)).off + 1, none⟩) (by rw [add_block]; exact hg)]
  exact hc i hi
/-- a block bears n hammers -/
def HamF (n : Nat) (P R : Nat → Int) (f : Nat → Value) : Prop := ∀ i, i < n → f (i * 2) = .int .i8 (P i) ∧ f (i * 2 + 1) = .int .i8 (R i)
theorem HamF.at {w : World} {T g n : Nat} {P R : Nat → Int} {f : Nat → Value} (h : HamF n P R f) (hb : BlkAt w T g (n * 2) f) : HamAt w (some ⟨g, 0, none⟩) n P R := fun _ =>
  ⟨g, 0, rfl, hb.lt, fun i hi => by
    rw [Nat.zero_add, hb.cell (i * 2) (by omega), hb.cell (i * 2 + 1) (by omega), (h i hi).1, (h i hi).2]
    exact ⟨rfl, rfl⟩⟩
theorem infoHammer : (Try.prog.info? 99).map (fun i => (i.zero, i.size, i.bytes)) = some (some (.agg #[.int .i8 0, .int .i8 0]), 2, 2) := by kernel_rfl

theorem HamF.step {k : Nat} {P R : Nat → Int} {f : Nat → Value} (h : HamF k P R f) : HamF (k + 1) P R (updV (updV f (k * 2) (.int .i8 (P k))) (k * 2 + 1) (.int .i8 (R k))) := by
  intro i hi
  by_cases e : i = k
  · subst e
    rw [updV_other _ _ _ (by omega), updV_same, updV_same]
    exact ⟨rfl, rfl⟩
  · rw [updV_other _ _ _ (by omega), updV_other _ _ _ (by omega), updV_other _ _ _ (by omega), updV_other _ _ _ (by omega)]
    exact h i (by omega)

end Go.Proofs.Ytlcfjeofphncgaa
namespace Go.Proofs.Ytlcfjeofphncgaa
open Go.RowKit Go.ChangeShapes Go.WideShapes Go.Deep
set_option linter.unusedVariables false
set_option linter.unusedSimpArgs false
set_option maxRecDepth 100000

theorem okWide_array {P : Program} {w : World} {r : Reach} {base : Nat} {t e : TypeId} {n : Nat} {v : Value} (ht : P.underlying t = some (.array n e)) (h : Value.okWide P w r base t v) : ∃ cs, v = .agg cs ∧ cs.size = P.cellsOf t := by
  simp only [Value.okWide, ht] at h
  obtain ⟨cs, h1, h2, _⟩ := h
  exact ⟨cs, h1, h2⟩
section
variable {H : Type} {enc : TypeId × Value → H} {w : World} {base : Nat} {spare : Nat → Bool} {held : Bool}
theorem wf_u32 {n : Int} (h : (Lit.int .u32 n).wf = true) : 0 ≤ n ∧ n < 4294967296 := by
  simp [Lit.wf, IntKind.min, IntKind.max, IntKind.signed, IntKind.bits] at h
  omega
theorem wf_i16 {n : Int} (h : (Lit.int .i16 n).wf = true) : -32768 ≤ n ∧ n ≤ 32767 := by
  simp [Lit.wf, IntKind.min, IntKind.max, IntKind.signed, IntKind.bits] at h
  omega
theorem wf_i8 {n : Int} (h : (Lit.int .i8 n).wf = true) : -128 ≤ n ∧ n ≤ 127 := by
  simp [Lit.wf, IntKind.min, IntKind.max, IntKind.signed, IntKind.bits] at h
  omega
theorem cellsU32 : Try.prog.cellsOf 31 = 1 := by kernel_rfl
theorem cellsArr : Try.prog.cellsOf 32 = 96 := by kernel_rfl
theorem trod_arr {fuel : Nat} {cs : Array Value} {x : DataW H × List MemPlace} (hs : cs.size = 96) (h : DataW.trod enc Try.prog w base spare held fuel 32 cs.toList = some x) : ∃ D, D32 D ∧ cs = dc D := by
  obtain ⟨xs, m, _, _, _, hl, hel⟩ := DataW.trod_array und_arr h
  have each : ∀ k, k < 96 → ∃ z : Nat, z < 4294967296 ∧ cs[k]? = some (.int .u32 z) := by
    intro k hk
    have hE := hel k hk
    rw [cellsU32, Nat.mul_one, List.getElem?_eq_getElem (by omega)] at hE
    obtain ⟨z, e1, e2, hw⟩ := DataW.trod_int Try.underlying31 hE
    have hz := wf_u32 hw
    refine ⟨z.toNat, by omega, ?_⟩
    have hk' : k < cs.toList.length := by simpa [hs] using hk
    rw [List.drop_eq_getElem_cons hk'] at e1
    simp only [List.take_succ_cons, List.take_zero, List.cons.injEq, and_true] at e1
    have : cs[k]? = some cs.toList[k] := by simp
    rw [this, e1, Int.toNat_of_nonneg hz.1]
  have hD : ∃ D : Nat → Nat, ∀ k, D k < 4294967296 ∧ (k < 96 → cs[k]? = some (.int .u32 (D k))) := by
    refine ⟨fun k => if h : k < 96 then (each k h).choose else 0, fun k => ?_⟩
    by_cases hk : k < 96
    · simp only [hk, dif_pos]
      exact ⟨(each k hk).choose_spec.1, fun _ => (each k hk).choose_spec.2⟩
    · simp only [hk, dif_neg, not_false_eq_true]
      exact ⟨by omega, fun h => absurd h (by simp)⟩
  obtain ⟨D, hD⟩ := hD
  refine ⟨D, fun k => (hD k).1, ?_⟩
  apply Array.ext_getElem?
  intro i
  by_cases hi : i < 96
  · rw [(hD i).2 hi, dc_get D i hi]
  · rw [Array.getElem?_eq_none (by omega), Array.getElem?_eq_none (by rw [dc_size]; omega)]
/-- an argument of the type [96]uint32 is a drum -/
theorem open_arr {r : Reach} {b0 : Nat} {v : Value} {d : DataW H} {p : List MemPlace} (hv : Value.okWide Try.prog w r b0 32 v) (h : DataW.Trod enc Try.prog w base spare held 32 v d p) : ∃ D, D32 D ∧ v = .agg (dc D) := by
  obtain ⟨cs, rfl, hs⟩ := okWide_array und_arr hv
  rw [cellsArr] at hs
  obtain ⟨fuel, hf⟩ := h
  obtain ⟨D, hD, rfl⟩ := trod_arr hs hf
  exact ⟨D, hD, rfl⟩

theorem cells2 {a : Addr} {cs : List Value} (h : w.cells? base a 2 = some cs) : ∃ u v, cs = [u, v] ∧ base ≤ a.block ∧ w.cell? a = some u ∧ w.cell? ⟨a.block, a.off + 1, none⟩ = some v := by
  unfold World.cells? at h
  split at h
  case isFalse => cases h
  case isTrue hb =>
    have hr : List.range 2 = [0, 1] := rfl
    rw [hr] at h
    simp only [List.mapM_cons, List.mapM_nil, Addr.add_zero'] at h
    cases h0 : w.cell? a with
    | none => simp [h0] at h
    | some u =>
      cases h1 : w.cell? (a.add 1) with
      | none => simp [h0, h1] at h
      | some v =>
        simp [h0, h1] at h
        refine ⟨u, v, h.symm, hb, rfl, ?_⟩
        rw [← h1]
        rfl
theorem cellsI8 : Try.prog.cellsOf 48 = 1 := by kernel_rfl
end
end Go.Proofs.Ytlcfjeofphncgaa
namespace Go.Proofs.Ytlcfjeofphncgaa
open Go.RowKit
set_option linter.unusedVariables false
set_option linter.unusedSimpArgs false

section
variable {P : Program} {md : Region.Mode} {ops : Array Oper} {Q : Exit → Act → World → Prop} {S : World → Prop} {fuel : Nat} {listed : Array Bool} {a : Act} {w : World}
theorem wp_region_S {id : Nat} (S : World → Prop) (hm : P.follows .mixedOrders = true) (hS : S w.drew)
    (h : wpAnyH P .any ops Q S ops.size (Array.replicate ops.size false) a w.drew) : (Code.region id ops true).wp P Q a w := wp_region_held_drew hm hS fun _ => h
/-- an operation that yields its value wherever S holds is taken first -/
theorem take_val (i : Nat) {oi : Oper} (v : Value) (hi : ops[i]? = some oi) (hs : Region.noSelect ops = true) (hf : Region.free md ops listed i = true) (hr : (Region.ready md ops listed).contains i = true)
    (hQ : ∀ c a w, Q (.panic c) (a.put oi.dst v) w → Q (.panic c) a w) (hw : Region.wanted oi (yielded ops a.tmps) = true) (hv : ∀ W, S W → (execOp a.eval oi).run P W = .ok (.value v) W) (hS : S w)
    (h : wpAnyH P md ops Q S fuel (listed.setIfInBounds i true) (a.put oi.dst v) w) : wpAnyH P md ops Q S (fuel + 1) listed a w :=
  wpAnyH_take hi hs hf hr hQ (.inl ⟨hw, hv⟩) hS h
/-- the one operation that may come up is a call -/
theorem step_call (i : Nat) {o : Oper} (f : FuncId) (args : Array Value) (hr : Region.ready md ops listed = [i]) (ho : ops[i]? = some o) (hw : Region.wanted o (yielded ops a.tmps) = true)
    (he : (execOp a.eval o).run P w = .ok (.enter f args) w)
    (hc : Calls P f args w fun e w' => ∃ v, e = .returned v ∧ S w' ∧ wpAnyH P md ops Q S fuel (listed.setIfInBounds i true) (a.put o.dst v) w') : wpAnyH P md ops Q S (fuel + 1) listed a w := by
  refine wpAnyH_ready hr (by simp) (AllReadyH.cons ho (fun K hK => ?_) AllReadyH.nil)
  rw [if_pos hw]
  unfold Oper.wp
  rw [he]
  refine hc.mono fun e w' hx => ?_
  obtain ⟨v, rfl, hS, h⟩ := hx
  exact hK.out _ _ hS fun _ => h
/-- the one operation that may come up leaves a new world (a block is laid) -/
theorem step_val (i : Nat) {o : Oper} (v : Value) (w' : World) (hr : Region.ready md ops listed = [i]) (ho : ops[i]? = some o) (hw : Region.wanted o (yielded ops a.tmps) = true)
    (he : (execOp a.eval o).run P w = .ok (.value v) w') (hS : S w') (h : wpAnyH P md ops Q S fuel (listed.setIfInBounds i true) (a.put o.dst v) w') : wpAnyH P md ops Q S (fuel + 1) listed a w := by
  refine wpAnyH_ready hr (by simp) (AllReadyH.cons ho (fun K hK => ?_) AllReadyH.nil)
  rw [if_pos hw]
  unfold Oper.wp
  rw [he]
  exact hK.out _ _ hS fun _ => h
end
theorem ex_load_drum {o : Oper} {a : Act} {W : World} (x : Operand) (ho : o.op = .load 33 x) (g : Nat) (hx : a.eval x = .pointer (some ⟨g, 0, none⟩)) (T : Nat) (D : Nat → Nat) (hg : DrumAt W T g D) :
    (execOp a.eval o).run Try.prog W = .ok (.value (.agg (dc D))) W := by
  unfold execOp
  simp only [ho, hx, Instr.loadAt, Instr.sureAddr, Sem.run_bind, Sem.run_pure, Result.andThen_ok, run_loadVar_row W g T 33 (dc D) (0, 0) _ hg und_drum rfl (by rw [dc_size]; exact size_drum)]
theorem ex_load_arr {o : Oper} {a : Act} {W : World} (x : Operand) (ho : o.op = .load 32 x) (g : Nat) (hx : a.eval x = .pointer (some ⟨g, 0, none⟩)) (T : Nat) (D : Nat → Nat) (hg : DrumAt W T g D) :
    (execOp a.eval o).run Try.prog W = .ok (.value (.agg (dc D))) W := by
  unfold execOp
  simp only [ho, hx, Instr.loadAt, Instr.sureAddr, Sem.run_bind, Sem.run_pure, Result.andThen_ok, run_loadVar_row W g T 32 (dc D) (0, 0) _ hg und_arr rfl (by rw [dc_size]; exact size_arr)]
end Go.Proofs.Ytlcfjeofphncgaa
namespace Go.Proofs.Ytlcfjeofphncgaa
open Go.RowKit
set_option linter.unusedVariables false
set_option linter.unusedSimpArgs false

/-- so in every world that memory grows to from w on -/
def Kp (w : World) (P : World → Prop) : Prop := ∀ w', Below w.heap.size w w' → P w'
section
variable {w w' : World} {P : World → Prop}
theorem Kp.mk (h : ∀ w', Below w.heap.size w w' → P w') : Kp w P := h
theorem Kp.at (h : Kp w P) (hb : Below w.heap.size w w') : P w' := h w' hb
theorem Kp.here (h : Kp w P) : P w := h w (Below.refl _ _)
theorem Kp.on (h : Kp w P) (hb : Below w.heap.size w w') : Kp w' P := fun w'' h2 => h w'' (hb.trans (h2.mono hb.size))
theorem Kp.alloc (h : Kp w P) (o : Obj) : Kp (w.alloc o) P := h.on ((Below.refl _ _).alloc (Nat.le_refl _) _)
theorem Kp.imp {R : World → Prop} (h : Kp w P) (f : ∀ w', P w' → R w') : Kp w R := fun w' hb => f w' (h w' hb)
end
attribute [irreducible] Kp
section
variable {w w' : World} {n : Nat}
theorem Kp.base (w : World) : Kp w (fun V => Below w.heap.size w V) := Kp.mk fun _ h => h
theorem kp_start (w : World) : Kp w.drew (fun V => Below w.heap.size w V) := Kp.mk fun _ h => (Below.refl _ _).drew.trans h
theorem below_drew (w : World) : Below w.heap.size w w.drew := (Below.refl _ _).drew
theorem kp_row {g T : Nat} {cs : Array Value} {f : Nat × Nat} (h : w.heap[g]? = some (.cells cs T f)) : Kp w (fun V => V.heap[g]? = some (.cells cs T f)) :=
  Kp.mk fun _ hb => (hb.block g (Array.getElem?_eq_some_iff.1 h).1).trans h
theorem kp_new (w : World) (cs : Array Value) (T : Nat) : Kp (w.alloc (.cells cs T)) (fun V => V.heap[w.heap.size]? = some (.cells cs T (0, 0))) := kp_row (heap_alloc_new w _)
theorem kp_drum {T g : Nat} {D : Nat → Nat} (h : DrumAt w T g D) : Kp w (fun V => DrumAt V T g D) := Kp.mk fun _ hb => h.below hb h.lt
theorem kp_frame {g : Nat} {s : Int} {a : Option Addr} {n c : Nat} (h : FrameAt w g s a n c) : Kp w (fun V => FrameAt V g s a n c) := Kp.mk fun _ hb => h.below hb h.lt
theorem kp_hamIn {a : Option Addr} {P R : Nat → Int} (h : HamIn w a n P R) : Kp w (fun V => HamIn V a n P R) := Kp.mk fun _ hb => h.below hb
theorem kp_ham {a : Option Addr} {P R : Nat → Int} (h : HamAt w a n P R) : Kp w (fun V => HamAt V a n P R) := Kp.mk fun _ hb => h.below hb
theorem kp_drums {a : Option Addr} {L : Nat → Nat → Nat} (h : DrumsAt w a n L) : Kp w (fun V => DrumsAt V a n L) := Kp.mk fun _ hb => h.below hb
/-- a block of one parameter, laid behind others -/
theorem kp_new1 (w : World) (cs : Array Value) (T : Nat) {g : Nat} (hg : g = w.heap.size) : Kp (w.alloc (.cells cs T)) (fun V => V.heap[g]? = some (.cells cs T (0, 0))) := hg ▸ kp_new w cs T
theorem kp_newd (w : World) (D : Nat → Nat) (T : Nat) {g : Nat} (hg : g = w.heap.size) : Kp (w.alloc (.cells (dc D) T)) (fun V => DrumAt V T g D) := hg ▸ kp_drum (DrumAt.new w T D)
theorem row_cell {V : World} {g T : Nat} {cs : Array Value} {f : Nat × Nat} (k : Nat) (h : V.heap[g]? = some (.cells cs T f)) : V.cell? ⟨g, k, none⟩ = cs[k]? := cell_of_row V g k _ _ _ h
theorem row_lt {V : World} {g T : Nat} {cs : Array Value} {f : Nat × Nat} (h : V.heap[g]? = some (.cells cs T f)) : g < V.heap.size := (Array.getElem?_eq_some_iff.1 h).1
end
/-! ### whole boxes: read, laid, written -/
section
variable {ops : Array Oper} {rest : List Oper} {o : Oper} {a : Act} {w : World} {Q : Exit → Act → World → Prop}
/-- a row without anything in it is laid -/
theorem alloc_row (hgd : o.guard = none) (ty : TypeId) (ho : o.op = .alloc ty) (z : Array Value) (hz : (zeroValue ty).run Try.prog w = .ok (.agg z) w)
    (h : wpList Try.prog ops Q rest (a.put o.dst (.pointer (some ⟨w.heap.size, 0, none⟩))) (w.alloc (.cells z ty))) : wpList Try.prog ops Q (o :: rest) a w := by
  refine wpList_plain hgd fun K hK => ?_
  unfold Oper.wp
  have e : (execOp a.eval o).run Try.prog w = .ok (.value (.pointer (some ⟨w.heap.size, 0, none⟩))) (w.alloc (.cells z ty)) := by
    simp only [execOp, ho, Instr.alloc, Sem.run_bind, hz, Result.andThen_ok, newVar, Value.cells]
    rfl
  rw [e]
  exact hK _ _ h
end
theorem ex_load_iframe {o : Oper} {a : Act} {W : World} (x : Operand) (ho : o.op = .load 27 x) (g : Nat) (hx : a.eval x = .pointer (some ⟨g, 0, none⟩)) (T : Nat) (s : Int) (ad : Option Addr) (n c : Nat)
    (hg : W.heap[g]? = some (.cells #[.int .i16 s, .slice ad n c] T (0, 0))) : (execOp a.eval o).run Try.prog W = .ok (.value (.agg #[.int .i16 s, .slice ad n c])) W :=
  by unfold execOp; simp only [ho, hx, Instr.loadAt, Instr.sureAddr, Sem.run_bind, Sem.run_pure, Result.andThen_ok, run_loadVar_row W g T 27 _ (0, 0) _ hg Try.underlying27 rfl (by kernel_rfl)]
section
variable {ops : Array Oper} {rest : List Oper} {o : Oper} {a : Act} {w : World} {Q : Exit → Act → World → Prop}
theorem load_iframe (hgd : o.guard = none) (x : Operand) (ho : o.op = .load 27 x) (g : Nat) (hx : a.eval x = .pointer (some ⟨g, 0, none⟩)) (T : Nat) (s : Int) (ad : Option Addr) (n c : Nat)
    (hg : w.heap[g]? = some (.cells #[.int .i16 s, .slice ad n c] T (0, 0))) (h : wpList Try.prog ops Q rest (a.put o.dst (.agg #[.int .i16 s, .slice ad n c])) w) : wpList Try.prog ops Q (o :: rest) a w :=
  wpList_load_row hgd _ x ho g hx T _ (0, 0) _ hg Try.underlying27 rfl (by kernel_rfl) h
end
end Go.Proofs.Ytlcfjeofphncgaa
namespace Go.Proofs.Ytlcfjeofphncgaa
open Go.RowKit
set_option linter.unusedVariables false
set_option linter.unusedSimpArgs false

/-- the one operation that may come up yields nothing and leaves a new world (a store) -/
theorem step_skip {P : Program} {md : Region.Mode} {ops : Array Oper} {Q : Exit → Act → World → Prop} {S : World → Prop} {fuel : Nat} {listed : Array Bool} {a : Act} {w : World} (i : Nat) {o : Oper} (w' : World) (hr : Region.ready md ops listed = [i]) (ho : ops[i]? = some o) (hw : Region.wanted o (yielded ops a.tmps) = true)
    (he : (execOp a.eval o).run P w = .ok .skip w') (hS : S w') (h : wpAnyH P md ops Q S fuel (listed.setIfInBounds i true) (a.put o.dst undef) w') : wpAnyH P md ops Q S (fuel + 1) listed a w := by
  refine wpAnyH_ready hr (by simp) (AllReadyH.cons ho (fun K hK => ?_) AllReadyH.nil)
  rw [if_pos hw]
  unfold Oper.wp
  rw [he]
  exact hK.out _ _ hS fun _ => h
/-- two operations may come up: a call, and one that hangs on nothing and leaves a new world (a block is laid) -/
theorem step_call_or {P : Program} {md : Region.Mode} {ops : Array Oper} {Q : Exit → Act → World → Prop} {S : World → Prop} {fuel : Nat} {listed : Array Bool} {a : Act} {w : World} (i j : Nat) {o oj : Oper} (f : FuncId) (args : Array Value) (pv : Value) (w1 : World)
    (hr : Region.ready md ops listed = [i, j]) (ho : ops[i]? = some o) (hoj : ops[j]? = some oj) (hw : Region.wanted o (yielded ops a.tmps) = true) (hwj : Region.wanted oj (yielded ops a.tmps) = true)
    (he : (execOp a.eval o).run P w = .ok (.enter f args) w) (hej : (execOp a.eval oj).run P w = .ok (.value pv) w1) (hSj : S w1)
    (hc : Calls P f args w fun e w' => ∃ v, e = .returned v ∧ S w' ∧ wpAnyH P md ops Q S fuel (listed.setIfInBounds i true) (a.put o.dst v) w')
    (hj : wpAnyH P md ops Q S fuel (listed.setIfInBounds j true) (a.put oj.dst pv) w1) : wpAnyH P md ops Q S (fuel + 1) listed a w := by
  refine wpAnyH_ready hr (by simp) (AllReadyH.cons ho (fun K hK => ?_) (AllReadyH.cons hoj (fun K hK => ?_) AllReadyH.nil))
  · rw [if_pos hw]
    unfold Oper.wp
    rw [he]
    refine hc.mono fun e w' hx => ?_
    obtain ⟨v, rfl, hS, h⟩ := hx
    exact hK.out _ _ hS fun _ => h
  · rw [if_pos hwj]
    unfold Oper.wp
    rw [hej]
    exact hK.out _ _ hSj fun _ => hj
/-- what all ways end in is shown once -/
theorem cut_with {A B : Prop} (h : A → B) (a : A) : B := h a
theorem ex_alloc_drum {o : Oper} {a : Act} {w : World} (ho : o.op = .alloc 33) : (execOp a.eval o).run Try.prog w = .ok (.value (.pointer (some ⟨w.heap.size, 0, none⟩))) (w.alloc (.cells (dc fun _ => 0) 33)) := by
  simp only [execOp, ho, Instr.alloc, Sem.run_bind, zero_drum, Result.andThen_ok, newVar, Value.cells, ← dc_zero]
  rfl
theorem ex_store_drum {o : Oper} {a : Act} {w : World} (x y : Operand) (ho : o.op = .store 33 x y) (g : Nat) (E : Nat → Nat) (hx : a.eval x = .pointer (some ⟨g, 0, none⟩)) (hy : a.eval y = .agg (dc E)) (T : Nat) (D : Nat → Nat) (hg : DrumAt w T g D) :
    (execOp a.eval o).run Try.prog w = .ok .skip (w.setRow g (dc E)) := by
  unfold execOp
  simp only [ho, hx, hy, Instr.storeAt, Instr.sureAddr, Sem.run_bind, Sem.run_pure, Result.andThen_ok, run_storeVar_row w g T 33 (dc D) (dc E) hg (by rw [dc_size]; exact size_drum) (by rw [dc_size, dc_size]) (dc_one E)]
theorem laid_drum (w : World) (T : Nat) (E : Nat → Nat) : Below w.heap.size w ((w.alloc (.cells (dc fun _ => 0) T)).setRow w.heap.size (dc E)) ∧ DrumAt ((w.alloc (.cells (dc fun _ => 0) T)).setRow w.heap.size (dc E)) T w.heap.size E :=
  ⟨below_setRow ((Below.refl _ _).alloc (Nat.le_refl _) _) (Nat.le_refl _) _, (DrumAt.new w _ _).setRow _⟩
end Go.Proofs.Ytlcfjeofphncgaa
namespace Go.Proofs.Ytlcfjeofphncgaa
open Go.RowKit
set_option linter.unusedVariables false
set_option linter.unusedSimpArgs false

/-- a fact that holds whatever becomes of the blocks from B on -/
def KpB (B : Nat) (w : World) (P : World → Prop) : Prop := B ≤ w.heap.size ∧ ∀ w', Below B w w' → P w'
section
variable {B : Nat} {w w' : World} {P : World → Prop}
theorem KpB.here (h : KpB B w P) : P w := h.2 w (Below.refl _ _)
theorem KpB.at (h : KpB B w P) (hb : Below w.heap.size w w') : P w' := h.2 w' (hb.mono h.1)
theorem KpB.on (h : KpB B w P) (hb : Below w.heap.size w w') : KpB B w' P := ⟨Nat.le_trans h.1 hb.size, fun w'' h2 => h.2 w'' ((hb.mono h.1).trans h2)⟩
theorem KpB.alloc (h : KpB B w P) (o : Obj) : KpB B (w.alloc o) P := h.on ((Below.refl _ _).alloc (Nat.le_refl _) _)
theorem below_grown {row : Option Nat} (hg : w.grownBy w' row) (hB : B ≤ w.heap.size) (hr : ∀ k, row = some k → B ≤ k) : Below B w w' := Below.grown (Below.refl _ _) hg hB hr
theorem KpB.grown {row : Option Nat} (h : KpB B w P) (hg : w.grownBy w' row) (hr : ∀ k, row = some k → B ≤ k) : KpB B w' P :=
  ⟨Nat.le_trans h.1 hg.size, fun w'' h2 => h.2 w'' ((below_grown hg h.1 hr).trans h2)⟩
theorem Kp.fix (h : Kp w P) : KpB w.heap.size w P := ⟨Nat.le_refl _, fun _ hb => h.at hb⟩
end
attribute [irreducible] KpB
section
variable {w w' : World} {base size n : Nat} {e : TypeId} {v : Value} {xs : List Value} {row : Option Nat}
theorem own_grown (h : w.ownsRow base e size v n xs) (hg : w.grownBy w' row) (hr : ∀ k, row = some k → k < base) : w'.ownsRow base e size v n xs := by
  refine h.kept hg ?_
  cases hv : v.ownBlock with
  | none => exact .inl rfl
  | some k =>
    refine .inr fun e2 => ?_
    have h1 := (h.lt k hv).1
    have h2 := hr k e2.symm
    omega
theorem own_below (h : w.ownsRow base e size v n xs) (hb : Below w.heap.size w w') : w'.ownsRow base e size v n xs := by
  refine ⟨h.1, ?_⟩
  rcases h.2 with h0 | ⟨g, cap, cur, rfl, hg, hbl, h2⟩
  · exact .inl h0
  · exact .inr ⟨g, cap, cur, rfl, hg, (hb.block g (Array.getElem?_eq_some_iff.1 hbl).1).trans hbl, h2⟩
theorem kp_ownR (h : w.ownsRow base e size v n xs) : Kp w (fun V => V.ownsRow base e size v n xs) := Kp.mk fun _ hb => own_below h hb
theorem row_grown {g : Nat} {o : Obj} (h : w.heap[g]? = some o) (hg : w.grownBy w' row) (hr : ∀ k, row = some k → k < g) : w'.heap[g]? = some o := by
  rw [hg.block g (Array.getElem?_eq_some_iff.1 h).1 fun e2 => by have := hr g e2.symm; omega]
  exact h
theorem own_mono {base' : Nat} (h : w.ownsRow base e size v n xs) (hb : base' ≤ base) : w.ownsRow base' e size v n xs := by
  refine ⟨h.1, ?_⟩
  rcases h.2 with h0 | ⟨g, cap, cur, rfl, hg, hbl, h2⟩
  · exact .inl h0
  · exact .inr ⟨g, cap, cur, rfl, by omega, hbl, h2⟩
/-- the block that make lays is one's own -/
theorem own_blk {T g N : Nat} {f : Nat → Value} (h : BlkAt w T g N f) (hN : N = n * size) (hb : base ≤ g) (hn : n ≤ maxLen) : w.ownsRow base T size (.slice (some ⟨g, 0, none⟩) n n) n (cf N f).toList := by
  subst hN
  refine ⟨by rw [Array.length_toList, cf_size], .inr ⟨g, n, cf (n * size) f, rfl, hb, h, Nat.le_refl _, hn, cf_size _ _, ?_⟩⟩
  exact List.take_of_length_le (by rw [Array.length_toList, cf_size]; omega)
/-- the cells that marks leave -/
def mks (f : Nat → Value) (N : Nat) : List Value := (List.range N).map f
theorem mks_len (f : Nat → Value) (N : Nat) : (mks f N).length = N := by simp [mks]
theorem mks_get (f : Nat → Value) (N x : Nat) (h : x < N) : (mks f N)[x]? = some (f x) := by simp [mks, h]
/-- what a slice of one's own reads as -/
theorem own_at (h : w.ownsRow base e size v n xs) : (v = .slice none 0 0 ∧ n = 0) ∨ ∃ g c, v = .slice (some ⟨g, 0, none⟩) n c ∧ base ≤ g ∧ g < w.heap.size ∧ ∀ x, x < n * size → w.cell? ⟨g, x, none⟩ = xs[x]? := by
  obtain ⟨hl, h⟩ := h
  rcases h with h0 | ⟨g, cap, cur, rfl, hg, hb, hc, hm, hs, ht⟩
  · exact .inl h0
  · refine .inr ⟨g, cap, rfl, hg, (Array.getElem?_eq_some_iff.1 hb).1, fun x hx => ?_⟩
    rw [row_cell x hb, ← ht, List.getElem?_take, if_pos hx, Array.getElem?_toList]
theorem own_done {g cap : Nat} {cur : Array Value} {f : Nat → Value} (hg : base ≤ g) (hb : w.heap[g]? = some (.cells cur e (0, 0))) (hc : n ≤ cap) (hm : cap ≤ maxLen) (hs : cur.size = cap * size) (hx : ∀ x, x < n * size → cur[x]? = some (f x)) :
    w.ownsRow base e size (.slice (some ⟨g, 0, none⟩) n cap) n (mks f (n * size)) := by
  refine ⟨mks_len _ _, .inr ⟨g, cap, cur, rfl, hg, hb, hc, hm, hs, ?_⟩⟩
  apply List.ext_getElem?
  intro x
  rw [List.getElem?_take]
  by_cases h : x < n * size
  · rw [if_pos h, Array.getElem?_toList, hx x h, mks_get _ _ _ h]
  · rw [if_neg h, List.getElem?_eq_none (by rw [mks_len]; omega)]
end
theorem set_keep {cur : Array Value} {f : Nat → Value} {q : Nat} (h : ∀ x, x < q → cur[x]? = some (f x)) {v : Value} (hq : q < cur.size) (hv : v = f q) : ∀ x, x < q + 1 → (cur.setIfInBounds q v)[x]? = some (f x) := by
  intro x hx
  rw [Array.getElem?_setIfInBounds]
  by_cases e : q = x
  · subst e; rw [if_pos rfl, if_pos hq, hv]
  · rw [if_neg e]; exact h x (by omega)
theorem grown_set {w w' : World} {g : Nat} {row : Option Nat} (hg : w.grownBy w' row) (hr : row = some g) (k : Nat) (v : Value) : w.grownBy (w'.setCell ⟨g, k, none⟩ v) row :=
  ⟨hg.os, hg.tape, hg.output, Nat.le_trans hg.size (by simp), fun x hx hne => (heap_setCell_other w' _ x _ (fun e => hne (by rw [hr, e]))).trans (hg.block x hx hne)⟩
theorem grown_refl (w : World) (row : Option Nat) : w.grownBy w row := ⟨rfl, rfl, rfl, Nat.le_refl _, fun _ _ _ => rfl⟩
end Go.Proofs.Ytlcfjeofphncgaa
namespace Go.Proofs.Ytlcfjeofphncgaa
open Go.RowKit
set_option linter.unusedVariables false
set_option linter.unusedSimpArgs false

/-- all blocks but one are as they were, and so is all else -/
def KeepS (g : Nat) (w V : World) : Prop := w.heap.size ≤ V.heap.size ∧ (∀ j, j ≠ g → j < w.heap.size → V.heap[j]? = w.heap[j]?) ∧ V.os = w.os ∧ V.tape = w.tape ∧ V.output = w.output
section
variable {g : Nat} {w V U : World}
theorem KeepS.of (h : Below w.heap.size w V) : KeepS g w V := ⟨h.size, fun j _ hj => h.block j hj, h.os, h.tape, h.output⟩
theorem KeepS.trans (h : KeepS g w V) (h2 : KeepS g V U) : KeepS g w U := ⟨Nat.le_trans h.1 h2.1, fun j a hl => (h2.2.1 j a (Nat.lt_of_lt_of_le hl h.1)).trans (h.2.1 j a hl), h2.2.2.1.trans h.2.2.1, h2.2.2.2.1.trans h.2.2.2.1, h2.2.2.2.2.trans h.2.2.2.2⟩
theorem KeepS.refl (w : World) : KeepS g w w := ⟨Nat.le_refl _, fun _ _ _ => rfl, rfl, rfl, rfl⟩
theorem KeepS.row (h : KeepS g w V) {x : Nat} {o : Obj} (hx : w.heap[x]? = some o) (a : x ≠ g) : V.heap[x]? = some o := (h.2.1 x a (Array.getElem?_eq_some_iff.1 hx).1).trans hx
theorem KeepS.cell (h : KeepS g w V) {p : Addr} {v : Value} (hc : w.cell? p = some v) (hp : p.block < w.heap.size) (a : p.block ≠ g) : V.cell? p = some v := (World.cell?_of_block (h.2.1 p.block a hp)).trans hc
theorem KeepS.setCell (h : KeepS g w V) (k : Nat) (v : Value) : KeepS g w (V.setCell ⟨g, k, none⟩ v) := ⟨by have := h.1; simpa using this, fun j a hj => (heap_setCell_other _ _ j _ a).trans (h.2.1 j a hj), h.2.2.1, h.2.2.2.1, h.2.2.2.2⟩
theorem KeepS.grown (h : KeepS g w V) {base e sz n : Nat} {v : Value} {xs : List Value} (ho : w.ownsRow base e sz v n xs) (hb : g < base) : V.ownsRow base e sz v n xs := by
  refine own_grown ho (w' := V) (row := some g) ⟨h.2.2.1, h.2.2.2.1, h.2.2.2.2, h.1, fun k hk hne => h.2.1 k (fun e => hne (by rw [e])) hk⟩ fun k e => by cases e; exact hb
/-- older blocks stay when the kept block is young -/
theorem KeepS.below {B : Nat} (h : KeepS g w V) (hg : B ≤ g) (hB : B ≤ w.heap.size) : Below B w V := ⟨h.2.2.1, h.2.2.2.1, h.2.2.2.2, h.1, fun j hj => h.2.1 j (by omega) (by omega)⟩
theorem KeepS.and_below (h : KeepS g w V) (hb : Below (g + 1) V U) (hg : ∀ j, j ≠ g → j < w.heap.size → j < g + 1) : KeepS g w U := ⟨Nat.le_trans h.1 hb.size, fun j a hj => (hb.block j (hg j a hj)).trans (h.2.1 j a hj), hb.os.trans h.2.2.1, hb.tape.trans h.2.2.2.1, hb.output.trans h.2.2.2.2⟩
end
/-- so in every world in which all blocks but g are as in w -/
def Kx (g : Nat) (w : World) (P : World → Prop) : Prop := ∀ V, KeepS g w V → P V
section
variable {g : Nat} {w w' : World} {P : World → Prop}
theorem Kx.mk (h : ∀ V, KeepS g w V → P V) : Kx g w P := h
theorem Kx.at (h : Kx g w P) (hb : KeepS g w w') : P w' := h w' hb
theorem Kx.here (h : Kx g w P) : P w := h w (KeepS.refl _)
theorem Kx.on (h : Kx g w P) (hb : KeepS g w w') : Kx g w' P := fun V h2 => h V (hb.trans h2)
theorem Kx.under (h : Kx g w P) (hb : Below w.heap.size w w') : Kx g w' P := h.on (KeepS.of hb)
theorem Kx.alloc (h : Kx g w P) (o : Obj) : Kx g (w.alloc o) P := h.under ((Below.refl _ _).alloc (Nat.le_refl _) _)
theorem Kx.imp {R : World → Prop} (h : Kx g w P) (f : ∀ w', P w' → R w') : Kx g w R := fun w' hb => f w' (h w' hb)
end
attribute [irreducible] Kx
section
variable {g : Nat} {w : World}
theorem kx_row {x T : Nat} {cs : Array Value} {f : Nat × Nat} (h : w.heap[x]? = some (.cells cs T f)) (hne : x ≠ g) : Kx g w (fun V => V.heap[x]? = some (.cells cs T f)) := Kx.mk fun _ hb => hb.row h hne
theorem kx_own {base e sz n : Nat} {v : Value} {xs : List Value} (h : w.ownsRow base e sz v n xs) (hg : g < base) : Kx g w (fun V => V.ownsRow base e sz v n xs) := Kx.mk fun _ hb => hb.grown h hg
theorem kx_keep (g : Nat) (w : World) : Kx g w (fun V => KeepS g w V) := Kx.mk fun _ h => h
end
/-- bytes -/
def U8 (B : Nat → Int) : Prop := ∀ i, 0 ≤ B i ∧ B i ≤ 255
/-- a slice reads as n bytes that lie ahead of N -/
def BytIn (w : World) (N : Nat) (a : Option Addr) (n : Nat) (B : Nat → Int) : Prop :=
  0 < n → ∃ ad, a = some ad ∧ ad.block < N ∧ ∀ i, i < n → w.cell? (ad.add i) = some (.int .u8 (B i))
theorem BytIn.below {w w' : World} {N : Nat} {a : Option Addr} {n : Nat} {B : Nat → Int} (h : BytIn w N a n B) (hb : Below N w w') : BytIn w' N a n B := by
  intro hn
  obtain ⟨ad, rfl, hg, hc⟩ := h hn
  refine ⟨ad, rfl, hg, fun i hi => ?_⟩
  rw [hb.cell (p := ad.add i) (by rw [add_block]; exact hg)]
  exact hc i hi
theorem kp_byt {w : World} {a : Option Addr} {n : Nat} {B : Nat → Int} (h : BytIn w w.heap.size a n B) {N : Nat} (hN : N = w.heap.size) : Kp w (fun V => BytIn V N a n B) := Kp.mk fun _ hb => by subst hN; exact h.below hb
/-- the source: a block of its own, behind the bytes -/
structure SrcAt (W : World) (g : Nat) (a : Option Addr) (n c : Nat) (B : Nat → Int) (K : Nat) : Prop where
  u : U8 B
  b : BytIn W g a n B
  r : ∃ (p : Nat) (q : Int), p ≤ K ∧ 0 ≤ q ∧ q ≤ 18446744073709551615 ∧ W.heap[g]? = some (.cells #[.slice a n c, .int .i64 p, .int .u64 q] 102 (0, 0))
theorem SrcAt.lt {W : World} {g : Nat} {a : Option Addr} {n c : Nat} {B : Nat → Int} {K : Nat} (h : SrcAt W g a n c B K) : g < W.heap.size := by
  obtain ⟨p, q, _, _, _, h⟩ := h.r; exact row_lt h
theorem SrcAt.stay {W V : World} {g : Nat} {a : Option Addr} {n c : Nat} {B : Nat → Int} {K : Nat} (h : SrcAt W g a n c B K) (hb : Below (g + 1) W V) : SrcAt V g a n c B K := by
  refine ⟨h.u, h.b.below (hb.mono (Nat.le_succ _)), ?_⟩
  obtain ⟨p, q, h1, h2, h3, h4⟩ := h.r
  exact ⟨p, q, h1, h2, h3, (hb.block g (Nat.lt_succ_self _)).trans h4⟩
theorem SrcAt.below {W V : World} {g : Nat} {a : Option Addr} {n c : Nat} {B : Nat → Int} {K : Nat} (h : SrcAt W g a n c B K) (hb : Below W.heap.size W V) : SrcAt V g a n c B K := h.stay (hb.mono h.lt)
theorem SrcAt.more {W : World} {g : Nat} {a : Option Addr} {n c : Nat} {B : Nat → Int} {K L : Nat} (h : SrcAt W g a n c B K) (hl : K ≤ L) : SrcAt W g a n c B L := by
  refine ⟨h.u, h.b, ?_⟩
  obtain ⟨p, q, h1, h2⟩ := h.r
  exact ⟨p, q, Nat.le_trans h1 hl, h2⟩
theorem wraps_u64 (n : Int) (h₀ : 0 ≤ n) (h₁ : n < 2 ^ 64) : IntKind.u64.wrap n = n := by
  simp [IntKind.wrap, IntKind.bits, IntKind.signed]
  omega
theorem low_byte (z : Int) (h : 0 ≤ z ∧ z ≤ 18446744073709551615) : 0 ≤ wrap64 (bits .and .u64 (z / 1099511627776) 255) ∧ wrap64 (bits .and .u64 (z / 1099511627776) 255) ≤ 255 := by
  obtain ⟨y, hy⟩ : ∃ y : Nat, z / 1099511627776 = y := ⟨(z / 1099511627776).toNat, by omega⟩
  have hb := (bits_nat .u64 64 (by decide) wraps_u64 y 255 (by omega) (by decide)).1
  rw [hy, show (255 : Int) = ((255 : Nat) : Int) from rfl, hb]
  have h1 := Nat.and_le_right (n := y) (m := 255)
  have h2 : wrap64 ((y &&& 255 : Nat) : Int) = ((y &&& 255 : Nat) : Int) := by
    unfold wrap64; omega
  rw [h2]; omega
theorem u64_range (x : Int) : 0 ≤ IntKind.u64.wrap x ∧ IntKind.u64.wrap x ≤ 18446744073709551615 := by
  simp [IntKind.wrap, IntKind.bits, IntKind.signed]
  omega
/-- behind a draw -/
theorem src_step {w W0 : World} {g : Nat} {a : Option Addr} {n c p : Nat} {q z : Int} (hr : w.heap[g]? = some (.cells #[.slice a n c, .int .i64 p, .int .u64 q] 102 (0, 0))) (hb : Below w.heap.size w W0) :
    ((W0.setCell ⟨g, 1, none⟩ (.int .i64 ((p : Int) + 1))).setCell ⟨g, 2, none⟩ (.int .u64 z)).heap[g]? = some (.cells #[.slice a n c, .int .i64 ((p : Int) + 1), .int .u64 z] 102 (0, 0)) ∧
      KeepS g w ((W0.setCell ⟨g, 1, none⟩ (.int .i64 ((p : Int) + 1))).setCell ⟨g, 2, none⟩ (.int .u64 z)) := by
  have h0 := (hb.block g (row_lt hr)).trans hr
  have h1 := heap_setCell_same W0 g 1 _ _ (.int .i64 ((p : Int) + 1)) h0
  have h2 := heap_setCell_same _ g 2 _ _ (.int .u64 z) h1
  exact ⟨h2, ((KeepS.of hb).setCell _ _).setCell _ _⟩
theorem SrcAt.step {w W : World} {g : Nat} {a : Option Addr} {n c p K : Nat} {B : Nat → Int} {z : Int} (hu : U8 B) (hb : BytIn w g a n B) (hp : p ≤ K) (hz : 0 ≤ z ∧ z ≤ 18446744073709551615) (hr : W.heap[g]? = some (.cells #[.slice a n c, .int .i64 ((p : Int) + 1), .int .u64 z] 102 (0, 0))) (hk : KeepS g w W) (hl : g ≤ w.heap.size) : SrcAt W g a n c B (K + 1) :=
  ⟨hu, hb.below (hk.below (Nat.le_refl _) hl), p + 1, z, by omega, hz.1, hz.2, by rw [show ((p + 1 : Nat) : Int) = (p : Int) + 1 by omega]; exact hr⟩
set_option maxRecDepth 100000 in
set_option maxHeartbeats 1000000 in
theorem next_any (g : Nat) (a : Option Addr) (n c : Nat) (B : Nat → Int) (K : Nat) (w : World) (hK : K ≤ 1000000) (hn : n ≤ 1000000000000) (hs : SrcAt w g a n c B K) :
    Calls Try.prog 62 #[.pointer (some ⟨g, 0, none⟩)] w fun e w' => (∃ v : Int, e = .returned (.int .i64 v) ∧ 0 ≤ v ∧ v ≤ 255) ∧ SrcAt w' g a n c B (K + 1) ∧ KeepS g w w' := by
  have hgl := hs.lt
  obtain ⟨hu, hb, p, q, hp, hq0, hq1, hr⟩ := hs
  have HU := Lib.hid hu; have HB := Lib.hid hb; have HR := Lib.hid hr
  clear hu hb
  have c0 := row_cell 0 hr
  have c1 := row_cell 1 hr
  have c2 := row_cell 2 hr
  have f1 := frozen_of_row w g 1 _ _ hr
  have f2 := frozen_of_row w g 2 _ _ hr
  have q1 := i64_id (x := (p : Int) + 1) (by omega)
  have HD := Lib.hid (fun N => below_drewN (Below.refl w.heap.size w) N)
  by_cases hlt : p < n
  · have hlt' : (p : Int) < n := by omega
    obtain ⟨ad, rfl, hg, hc⟩ := HB.out (by omega)
    have e0 := hc p hlt
    clear hc hr
    have hub := HU.out p
    have q2 := i64_id (x := B p) (by omega)
    go_enter Try.func62, Try.ntmps62
    go_wp2
    go_quiet (fail)
    go_wp2
    go_quiet (fail)
    go_wp2
    generalize hW : w.drewN _ = W0
    have hd : Below w.heap.size w W0 := by rw [← hW]; exact HD.out _
    generalize hz : IntKind.u64.wrap (IntKind.u64.wrap (IntKind.u64.wrap (q * 6364136223846793005) + B p) + 1442695040888963407) = z
    have hzb : 0 ≤ z ∧ z ≤ 18446744073709551615 := by rw [← hz]; exact u64_range _
    obtain ⟨hr2, hk2⟩ := src_step (z := z) HR.out hd
    have hs2 := SrcAt.step HU.out HB.out hp hzb hr2 hk2 (Nat.le_of_lt hgl)
    have HS2 := Lib.hid hs2; have HK2 := Lib.hid hk2
    generalize (W0.setCell ⟨g, 1, none⟩ (.int .i64 ((p : Int) + 1))).setCell ⟨g, 2, none⟩ (.int .u64 z) = W2 at hr2 HS2 HK2 ⊢
    clear hs2 hk2 hzb hz hd hW c0 c1 c2 f1 f2 e0 HD
    have c0 := row_cell 0 hr2
    have c1 := row_cell 1 hr2
    have hle : (p : Int) + 1 ≤ n := by omega
    clear hr2 hlt
    go_quiet (fail)
    go_wp2
    go_ret
    exact ⟨⟨_, rfl, hub.1, hub.2⟩, HS2.out.below (below_drewN (Below.refl _ _) _), HK2.out.trans (KeepS.of (below_drewN (Below.refl _ _) _))⟩
  · clear hr
    have hlt' : ¬ (p : Int) < n := by omega
    go_enter Try.func62, Try.ntmps62
    go_wp2
    go_quiet (fail)
    go_wp2
    generalize hW : w.drewN _ = W0
    have hd : Below w.heap.size w W0 := by rw [← hW]; exact HD.out _
    generalize hz : IntKind.u64.wrap (IntKind.u64.wrap (IntKind.u64.wrap (q * 6364136223846793005)) + 1442695040888963407) = z
    have hzb : 0 ≤ z ∧ z ≤ 18446744073709551615 := by rw [← hz]; exact u64_range _
    obtain ⟨hr2, hk2⟩ := src_step (z := z) HR.out hd
    have hs2 := SrcAt.step HU.out HB.out hp hzb hr2 hk2 (Nat.le_of_lt hgl)
    have HS2 := Lib.hid hs2; have HK2 := Lib.hid hk2
    generalize (W0.setCell ⟨g, 1, none⟩ (.int .i64 ((p : Int) + 1))).setCell ⟨g, 2, none⟩ (.int .u64 z) = W2 at hr2 HS2 HK2 ⊢
    clear hs2 hk2 hz hd hW c0 c1 c2 f1 f2 HD
    have c0 := row_cell 0 hr2
    have c1 := row_cell 1 hr2
    have c2 := row_cell 2 hr2
    have hle : ¬ (p : Int) + 1 ≤ n := by omega
    clear hr2 hlt hlt'
    go_quiet (fail)
    go_wp2
    have hlb := low_byte z hzb
    generalize wrap64 (bits .and .u64 (z / 1099511627776) 255) = v at hlb ⊢
    go_ret
    exact ⟨⟨_, rfl, hlb.1, hlb.2⟩, HS2.out.below (below_drewN (Below.refl _ _) _), HK2.out.trans (KeepS.of (below_drewN (Below.refl _ _) _))⟩
/-- a number below n -/
def PickB (n v : Int) : Prop := 0 ≤ v ∧ (v < n ∨ v = 0) ∧ (n ≤ 1 → v = 0)
set_option maxRecDepth 100000 in
set_option maxHeartbeats 1000000 in
theorem pick_any (g : Nat) (a : Option Addr) (n c : Nat) (B : Nat → Int) (K : Nat) (m : Int) (w : World) (hK : K + 2 ≤ 1000000) (hn : n ≤ 1000000000000) (hm : -9223372036854775808 ≤ m ∧ m ≤ 9223372036854775807) (hs : SrcAt w g a n c B K) :
    Calls Try.prog 31 #[.pointer (some ⟨g, 0, none⟩), .int .i64 m] w fun e w' => (∃ v : Int, e = .returned (.int .i64 v) ∧ PickB m v) ∧ SrcAt w' g a n c B (K + 2) ∧ KeepS g w w' := by
  by_cases h1 : m ≤ 1
  · go_enter Try.func31, Try.ntmps31
    go_wp2
    go_ret
    exact ⟨⟨0, rfl, by omega, .inr rfl, fun _ => rfl⟩, hs.more (by omega), KeepS.refl _⟩
  · have HS := Lib.hid hs; clear hs
    go_enter Try.func31, Try.ntmps31
    go_wp2_with fail
    refine (next_any g a n c B K w (by omega) hn HS.out).mono ?_
    rintro e w2 ⟨⟨v, rfl, hv0, hv1⟩, hs2, hk2⟩
    have HS2 := Lib.hid hs2; have HK2 := Lib.hid hk2; clear hs2 hk2 HS
    have hm0 : ¬ m = 0 := by omega
    by_cases h2 : 200 < m
    · have q1 := i64_id (x := v * 256) (by omega)
      go_wp2_with fail
      refine (next_any g a n c B (K + 1) w2 (by omega) hn HS2.out).mono ?_
      rintro e w3 ⟨⟨u, rfl, hu0, hu1⟩, hs3, hk3⟩
      have HS3 := Lib.hid hs3; have HK3 := Lib.hid (HK2.out.trans hk3); clear hs3 hk3 HS2 HK2
      have q2 := i64_id (x := v * 256 + u) (by omega)
      have ht : (v * 256 + u).tmod m = (v * 256 + u) % m := Int.tmod_eq_emod_of_nonneg (by omega)
      have h3 := Int.emod_nonneg (v * 256 + u) hm0
      have h4 := Int.emod_lt_of_pos (v * 256 + u) (show 0 < m by omega)
      obtain ⟨r, hr⟩ : ∃ r, (v * 256 + u) % m = r := ⟨_, rfl⟩
      rw [hr] at ht h3 h4
      clear hr
      go_wp2
      go_ret
      exact ⟨⟨r, rfl, h3, .inl h4, fun h => by omega⟩, HS3.out, HK3.out⟩
    · have ht : v.tmod m = v % m := Int.tmod_eq_emod_of_nonneg (by omega)
      have h3 := Int.emod_nonneg v hm0
      have h4 := Int.emod_lt_of_pos v (show 0 < m by omega)
      obtain ⟨r, hr⟩ : ∃ r, v % m = r := ⟨_, rfl⟩
      rw [hr] at ht h3 h4
      clear hr
      go_wp2
      go_ret
      exact ⟨⟨r, rfl, h3, .inl h4, fun h => by omega⟩, HS2.out.more (by omega), HK2.out⟩
theorem PickB.lt {n v : Int} (h : PickB n v) (hn : 1 ≤ n) : 0 ≤ v ∧ v < n := by obtain ⟨h1, h2, h3⟩ := h; omega
attribute [irreducible] PickB
set_option maxRecDepth 100000 in
theorem l00From_any (a : Option Addr) (n c : Nat) (B : Nat → Int) (w : World) (hu : U8 B) (hb : BytIn w w.heap.size a n B) :
    Calls Try.prog 30 #[.slice a n c] w fun e w' => e = .returned (.pointer (some ⟨w.heap.size, 0, none⟩)) ∧ SrcAt w' w.heap.size a n c B 0 ∧ Below w.heap.size w w' := by
  have HS := Lib.hid (show SrcAt (w.alloc (.cells #[.slice a n c, .int .i64 ((0 : Nat) : Int), .int .u64 0] 102)) w.heap.size a n c B 0 from ⟨hu, hb.below ((Below.refl _ _).alloc (Nat.le_refl _) _), 0, 0, Nat.le_refl _, by decide, by decide, heap_alloc_new w _⟩)
  have HB := Lib.hid (show Below w.heap.size w (w.alloc (.cells #[.slice a n c, .int .i64 ((0 : Nat) : Int), .int .u64 0] 102)) from (Below.refl _ _).alloc (Nat.le_refl _) _)
  go_enter Try.func30, Try.ntmps30
  go_wp2
  go_ret
  exact ⟨rfl, HS.out, HB.out⟩
end Go.Proofs.Ytlcfjeofphncgaa
namespace Go.Proofs.Ytlcfjeofphncgaa
open Go.RowKit Go.ChangeShapes Go.WideShapes Go.Deep
set_option linter.unusedVariables false
set_option linter.unusedSimpArgs false
set_option maxRecDepth 100000

theorem wf_u8 {n : Int} (h : (Lit.int .u8 n).wf = true) : 0 ≤ n ∧ n ≤ 255 := by
  simp [Lit.wf, IntKind.min, IntKind.max, IntKind.signed, IntKind.bits] at h
  omega
section
variable {H : Type} {enc : TypeId × Value → H} {w : World} {base : Nat} {spare : Nat → Bool} {held : Bool}
theorem cellsU8 : Try.prog.cellsOf 5 = 1 := by kernel_rfl
theorem open_byte_list {fuel : Nat} {cs : List Value} {x : DataW H × List MemPlace} (h : DataW.trod enc Try.prog w base spare held fuel 22 cs = some x) :
    ∃ a n c B, cs = [.slice a n c] ∧ n ≤ 9223372036854775807 ∧ U8 B ∧ BytIn w w.heap.size a n B := by
  rcases open_slice Try.underlying22 h with ⟨rfl, _⟩ | ⟨a, len, cap, m, n, D, Pl, rfl, hb, hl, hm, hmm, rfl, hx⟩
  · exact ⟨none, 0, 0, fun _ => 0, rfl, by omega, fun _ => by simp, fun h => absurd h (by omega)⟩
  · have hle : len ≤ m := by rw [hmm]; split <;> omega
    rw [cellsU8] at hx
    have each : ∀ i, i < len → ∃ p, w.cell? (a.add i) = some (.int .u8 p) ∧ (0 ≤ p ∧ p ≤ 255) := by
      intro i hi
      obtain ⟨cs', h1, h2⟩ := hx i (by omega)
      rw [Nat.mul_one] at h1
      obtain ⟨hb1, hl1, hc1⟩ := World.cells?_some h1
      obtain ⟨u, rfl⟩ : ∃ u, cs' = [u] := by match cs', hl1 with | [u], _ => exact ⟨u, rfl⟩
      have hu : w.cell? (a.add i) = some u := by have := hc1 0 (by omega); rw [Addr.add_zero'] at this; exact this
      obtain ⟨p, e1, _, hw⟩ := DataW.trod_int Try.underlying5 h2
      simp at e1
      subst e1
      exact ⟨p, hu, wf_u8 hw⟩
    refine ⟨some a, len, cap, fun i => if h : i < len then (each i h).choose else 0, rfl, by unfold maxLen at hm; omega, ?_, ?_⟩
    · intro i
      by_cases hi : i < len
      · simp only [hi, dif_pos]; exact (each i hi).choose_spec.2
      · simp only [hi, dif_neg, not_false_eq_true]; omega
    · intro hn
      refine ⟨a, rfl, ?_, fun i hi => ?_⟩
      · obtain ⟨p, h1, _⟩ := each 0 hn
        have := block_lt_of_cell h1
        rwa [add_block] at this
      · simp only [hi, dif_pos]
        exact (each i hi).choose_spec.1
/-- an argument that is a slice of bytes -/
theorem open_bytes {r : Reach} {b0 : Nat} {v : Value} {d : DataW H} {p : List MemPlace} (hv : Value.okWide Try.prog w r b0 22 v) (h : DataW.Trod enc Try.prog w base spare held 22 v d p) :
    ∃ a n c B, v = .slice a n c ∧ n ≤ 9223372036854775807 ∧ U8 B ∧ BytIn w w.heap.size a n B := by
  obtain ⟨a, len, cap, rfl⟩ := okWide_slice Try.underlying22 hv
  obtain ⟨fuel, hf⟩ := h
  obtain ⟨a, n, c, B, e, hr⟩ := open_byte_list hf
  simp only [Value.cells, List.cons.injEq, and_true] at e
  exact ⟨a, n, c, B, e, hr⟩
end
end Go.Proofs.Ytlcfjeofphncgaa
namespace Go.Proofs.Ytlcfjeofphncgaa
open Go.RowKit
set_option linter.unusedVariables false
set_option linter.unusedSimpArgs false

section
variable {α : Type} (enc : α → List Value) (sz : Nat) (henc : ∀ x, (enc x).length = sz)
include henc
theorem flat_len (l : List α) : (l.flatMap enc).length = l.length * sz := by
  induction l with
  | nil => simp
  | cons x r ih => rw [List.flatMap_cons, List.length_append, ih, henc, List.length_cons, Nat.add_mul, Nat.one_mul, Nat.add_comm]
theorem flat_get (l : List α) (i : Nat) (x : α) (hi : l[i]? = some x) (j : Nat) (hj : j < sz) : (l.flatMap enc)[i * sz + j]? = (enc x)[j]? := by
  induction l generalizing i with
  | nil => simp at hi
  | cons y r ih =>
    rw [List.flatMap_cons]
    cases i with
    | zero =>
      simp at hi; subst hi
      rw [Nat.zero_mul, Nat.zero_add, List.getElem?_append_left (by rw [henc]; exact hj)]
    | succ i =>
      rw [List.getElem?_append_right (by rw [henc, Nat.add_mul, Nat.one_mul]; omega), henc, show (i + 1) * sz + j - sz = i * sz + j by rw [Nat.add_mul, Nat.one_mul]; omega]
      exact ih i (by simpa using hi)
/-- cells told by a function are those of a list -/
theorem flat_mks (hsz : 0 < sz) (l : List α) (f : Nat → Value) (h : ∀ i x, l[i]? = some x → ∀ j, j < sz → (enc x)[j]? = some (f (i * sz + j))) : mks f (l.length * sz) = l.flatMap enc := by
  apply List.ext_getElem?
  intro x
  by_cases hx : x < l.length * sz
  · rw [mks_get _ _ _ hx]
    have h1 : x / sz < l.length := Nat.div_lt_of_lt_mul (by rw [Nat.mul_comm]; exact hx)
    have h2 : x % sz < sz := Nat.mod_lt _ hsz
    have h3 : x / sz * sz + x % sz = x := by rw [Nat.mul_comm]; exact Nat.div_add_mod x sz
    have h4 := List.getElem?_eq_getElem h1
    rw [← h3, flat_get enc sz henc l _ _ h4 _ h2, h _ _ h4 _ h2]
  · rw [List.getElem?_eq_none (by rw [mks_len]; omega), List.getElem?_eq_none (by rw [flat_len enc sz henc]; omega)]
end
/-- the slice value v owns the list l -/
def OwnL {α : Type} (T sz : Nat) (enc : α → List Value) (w : World) (base : Nat) (v : Value) (l : List α) : Prop := w.ownsRow base T sz v l.length (l.flatMap enc)
section
variable {α : Type} {T sz : Nat} {enc : α → List Value} {w w' : World} {base : Nat} {v : Value} {l : List α}
theorem OwnL.alloc (h : OwnL T sz enc w base v l) (o : Obj) : OwnL T sz enc (w.alloc o) base v l := World.ownsRow.alloc h o
theorem OwnL.below (h : OwnL T sz enc w base v l) (hb : Below w.heap.size w w') : OwnL T sz enc w' base v l := own_below h hb
theorem OwnL.mono {base' : Nat} (h : OwnL T sz enc w base v l) (hb : base' ≤ base) : OwnL T sz enc w base' v l := own_mono h hb
theorem OwnL.nil (w : World) (base : Nat) (hb : base ≤ w.heap.size) : OwnL T sz enc (w.alloc (.cells #[] T)) base (.slice (some ⟨w.heap.size, 0, none⟩) 0 0) [] :=
  ⟨by simp, .inr ⟨w.heap.size, 0, #[], rfl, hb, heap_alloc_new w _, Nat.le_refl _, by unfold maxLen; omega, by simp, by simp⟩⟩
theorem OwnL.none0 (w : World) (base : Nat) : OwnL T sz enc w base (.slice none 0 0) [] := World.ownsRow_nil _ _ _ _
theorem OwnL.lt (h : OwnL T sz enc w base v l) : ∀ k, v.ownBlock = some k → base ≤ k ∧ k < w.heap.size := World.ownsRow.lt h
theorem kp_OwnL (h : OwnL T sz enc w base v l) : Kp w (fun V => OwnL T sz enc V base v l) := Kp.mk fun _ hb => h.below hb
theorem OwnL.form (h : OwnL T sz enc w base v l) : ∃ b c, v = .slice b l.length c := by
  rcases h.2 with ⟨rfl, h0⟩ | ⟨g, cap, cur, rfl, _⟩
  · exact ⟨none, 0, by rw [h0]⟩
  · exact ⟨_, _, rfl⟩
theorem OwnL.cells (henc : ∀ x, (enc x).length = sz) {b : Option Addr} {n c : Nat} (h : OwnL T sz enc w base (.slice b n c) l) (hn : 0 < l.length) : ∃ g, b = some ⟨g, 0, none⟩ ∧ base ≤ g ∧ g < w.heap.size ∧ ∀ i x, l[i]? = some x → ∀ j, j < sz → w.cell? ⟨g, i * sz + j, none⟩ = (enc x)[j]? := by
  rcases own_at h with ⟨e, h0⟩ | ⟨g, cap, e, hg, hlt, hc⟩
  · omega
  · injection e with e1 e2 e3
    refine ⟨g, e1, hg, hlt, fun i x hi j hj => ?_⟩
    have hil : i < l.length := (List.getElem?_eq_some_iff.1 hi).1
    have : i * sz + sz ≤ l.length * sz := by rw [← Nat.succ_mul]; exact Nat.mul_le_mul_right _ hil
    rw [hc _ (by omega), flat_get enc sz henc l i x hi j hj]
end
section
variable {α : Type} {T sz : Nat} {enc : α → List Value} {ops : Array Oper} {rest : List Oper} {o : Oper} {a : Act} {w : World} {Q : Exit → Act → World → Prop}
/-- some are appended -/
theorem append_L {t : TypeId} {z : Value} {bytes : Nat} (ht : Try.prog.underlying t = some (.slice T)) (hinfo : (Try.prog.info? T).map (fun i => (i.zero, i.size, i.bytes)) = some (some z, sz, bytes)) (hzs : z.cells.size = sz) (hsz : 0 < sz) (hby : bytes ≤ 1000)
    (henc : ∀ x, (enc x).length = sz) (hone : ∀ x, ∀ u ∈ enc x, u.oneCell' = true)
    (hgd : o.guard = none) (s x : Operand) (ho : o.op = .call { callee := .builtin .append, args := #[s, x], argTypes := #[t, t] }) (base : Nat) (v : Value) (l : List α) (hs : a.eval s = v) (hown : OwnL T sz enc w base v l)
    (ad : Addr) (m c : Nat) (ys : List α) (hm : ys.length = m) (hx : a.eval x = .slice (some ad) m c) (hc : ∀ j u, (ys.flatMap enc)[j]? = some u → w.cell? (ad.add j) = some u) (hl : l.length + m ≤ 10000000) (hbase : base ≤ w.heap.size)
    (h : ∀ v' w', OwnL T sz enc w' base v' (l ++ ys) → Below base w w' → wpList Try.prog ops Q rest (a.put o.dst v') w') : wpList Try.prog ops Q (o :: rest) a w := by
  subst hm
  obtain ⟨i0, hi, hz0, hz1, hz2⟩ := info_parts hinfo
  refine wpList_append_own w hgd s x t ho base T i0 z sz bytes ht hi hz0 hz1 hz2 hzs hsz v l.length _ hs hown ad ys.length c (ys.flatMap enc) hx (flat_len enc sz henc ys) hc ?_ ?_ ?_ hbase ?_
  · intro u hu
    obtain ⟨y, _, hy⟩ := List.mem_flatMap.1 hu
    exact hone y u hy
  · unfold maxLen; omega
  · exact Nat.le_trans (Nat.mul_le_mul hl hby) (by omega)
  · intro v' w' hown' hgrow _
    refine h v' w' ?_ (Below.grown (Below.refl _ _) hgrow hbase fun k hk => (World.ownsRow.lt hown k hk).1)
    unfold OwnL
    rw [List.length_append, List.flatMap_append]
    exact hown'
/-- the one element that was laid -/
theorem one_cells {g : Nat} {x : α} {T' : Nat} {f : Nat × Nat} (hg : w.heap[g]? = some (.cells (enc x).toArray T' f)) : ∀ j u, ([x].flatMap enc)[j]? = some u → w.cell? ((⟨g, 0, none⟩ : Addr).add j) = some u := by
  intro j u hu
  have e : (⟨g, 0, none⟩ : Addr).add j = ⟨g, j, none⟩ := by unfold Addr.add; split <;> simp_all
  rw [e, row_cell j hg]
  simpa using hu
end
section
variable {α : Type} {T sz : Nat} {enc : α → List Value} {md : Region.Mode} {ops : Array Oper} {Q : Exit → Act → World → Prop} {S : World → Prop} {fuel : Nat} {listed : Array Bool} {a : Act} {w : World}
/-- some are appended, in a region that draws -/
theorem step_append_L {t : TypeId} {z : Value} {bytes : Nat} (ht : Try.prog.underlying t = some (.slice T)) (hinfo : (Try.prog.info? T).map (fun i => (i.zero, i.size, i.bytes)) = some (some z, sz, bytes)) (hzs : z.cells.size = sz) (hsz : 0 < sz) (hby : bytes ≤ 1000)
    (henc : ∀ x, (enc x).length = sz) (hone : ∀ x, ∀ u ∈ enc x, u.oneCell' = true)
    (i : Nat) {o : Oper} (hr : Region.ready md ops listed = [i]) (hoi : ops[i]? = some o) (hw : Region.wanted o (yielded ops a.tmps) = true)
    (s x : Operand) (ho : o.op = .call { callee := .builtin .append, args := #[s, x], argTypes := #[t, t] }) (base : Nat) (v : Value) (l : List α) (hs : a.eval s = v) (hown : OwnL T sz enc w base v l)
    (ad : Addr) (m c : Nat) (ys : List α) (hm : ys.length = m) (hx : a.eval x = .slice (some ad) m c) (hc : ∀ j u, (ys.flatMap enc)[j]? = some u → w.cell? (ad.add j) = some u) (hl : l.length + m ≤ 10000000) (hbase : base ≤ w.heap.size)
    (h : ∀ v' w', OwnL T sz enc w' base v' (l ++ ys) → Below base w w' → S w' ∧ wpAnyH Try.prog md ops Q S fuel (listed.setIfInBounds i true) (a.put o.dst v') w') : wpAnyH Try.prog md ops Q S (fuel + 1) listed a w := by
  subst hm
  refine wpAnyH_ready hr (by simp) (AllReadyH.cons hoi (fun K hK => ?_) AllReadyH.nil)
  rw [if_pos hw]
  obtain ⟨i0, hi, hz0, hz1, hz2⟩ := info_parts hinfo
  refine wp_append_own w s x t ho base T i0 z sz bytes ht hi hz0 hz1 hz2 hzs hsz v l.length _ hs hown ad ys.length c (ys.flatMap enc) hx (flat_len enc sz henc ys) hc ?_ ?_ ?_ hbase ?_
  · intro u hu
    obtain ⟨y, _, hy⟩ := List.mem_flatMap.1 hu
    exact hone y u hy
  · unfold maxLen; omega
  · exact Nat.le_trans (Nat.mul_le_mul hl hby) (by omega)
  · intro v' w' hown' hgrow _
    obtain ⟨h1, h2⟩ := h v' w' (by unfold OwnL; rw [List.length_append, List.flatMap_append]; exact hown') (Below.grown (Below.refl _ _) hgrow hbase fun k hk => (World.ownsRow.lt hown k hk).1)
    exact hK.out _ _ h1 fun _ => h2
end
end Go.Proofs.Ytlcfjeofphncgaa
