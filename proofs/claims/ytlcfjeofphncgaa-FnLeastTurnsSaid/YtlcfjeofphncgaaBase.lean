/- Words that the walks of this seat use: endings, bits of numbers, drums as functions. No conditions. -/
import Derived.Test.YtlcfjeofphncgaaProg
import Derived.WalkKit
import Derived.WalkLawsBesides
import Derived.Deep.QuietTactic
import Derived.BigQuiet
import Derived.Lib.Hide
import Derived.Laws.Rows
import Derived.Laws.BitsLemmas
import Derived.Shelf.Abstract
import Derived.StillTailTactics
namespace Go.Proofs.Ytlcfjeofphncgaa
open Go.RowKit
set_option linter.unusedVariables false
set_option linter.unusedSimpArgs false

theorem ret_bool {a b : Bool} (h : a = b) : Ending.returned (.bool a) = .returned (.bool b) := by rw [h]
theorem ret_int {k : IntKind} {a b : Int} (h : a = b) : Ending.returned (.int k a) = .returned (.int k b) := by rw [h]

theorem below_drewN {B : Nat} {a w : World} (h : Below B a w) (n : Nat) : Below B a (w.drewN n) := h.trans ⟨rfl, rfl, rfl, Nat.le_refl _, fun _ _ => rfl⟩

/-- A contract that leaves the world alone, met in a region that draws. -/
theorem q_same {P : Program} {f : FuncId} {args : Array Value} {w : World} {n : Nat} {v : Value}
    (h : Calls P f args (w.drewN n) fun e w' => e = .returned v ∧ w.drewN n = w') : Calls P f args (w.drewN n) fun e w'' => e = .returned v ∧ ∃ m, w'' = w.drewN m :=
  h.mono fun _ _ ⟨he, hm⟩ => ⟨he, n, hm.symm⟩

/-! ### numbers -/
theorem u64_nat (n : Nat) (h : n ≤ 1000000) : IntKind.u64.wrap (n : Int) = n := by
  simp [IntKind.wrap, IntKind.bits, IntKind.signed]; omega
theorem i64_id {x : Int} (h : -9223372036854775808 ≤ x ∧ x ≤ 9223372036854775807) : IntKind.i64.wrap x = x := by rw [IntKind.wrap_i64]; omega
theorem wraps_u32 (n : Int) (h₀ : 0 ≤ n) (h₁ : n < 2 ^ 32) : IntKind.u32.wrap n = n := by rw [IntKind.wrap_u32]; omega

/-- the bits of a that b has not -/
def andn (a b : Nat) : Nat := a ^^^ (a &&& b)
theorem andn_testBit (a b i : Nat) : (andn a b).testBit i = (a.testBit i && !b.testBit i) := by
  unfold andn
  rw [Nat.testBit_xor, Nat.testBit_and]
  cases a.testBit i <;> cases b.testBit i <;> rfl
theorem and_lt32 {a b : Nat} (hb : b < 4294967296) : a &&& b < 4294967296 := Nat.and_lt_two_pow (n := 32) a hb
theorem or_lt32 {a b : Nat} (ha : a < 4294967296) (hb : b < 4294967296) : a ||| b < 4294967296 := Nat.or_lt_two_pow (n := 32) ha hb
theorem xor_lt32 {a b : Nat} (ha : a < 4294967296) (hb : b < 4294967296) : a ^^^ b < 4294967296 := Nat.xor_lt_two_pow (n := 32) ha hb
theorem andn_lt32 {a b : Nat} (ha : a < 4294967296) : andn a b < 4294967296 := by
  refine Nat.xor_lt_two_pow (n := 32) ha ?_
  rw [Nat.and_comm]
  exact Nat.and_lt_two_pow (n := 32) b ha
theorem bits_and_u32 {a b : Nat} (ha : a < 4294967296) (hb : b < 4294967296) : bits .and .u32 (a : Int) (b : Int) = ((a &&& b : Nat) : Int) :=
  (bits_nat .u32 32 (by decide) wraps_u32 a b ha hb).1
theorem bits_or_u32 {a b : Nat} (ha : a < 4294967296) (hb : b < 4294967296) : bits .or .u32 (a : Int) (b : Int) = ((a ||| b : Nat) : Int) :=
  (bits_nat .u32 32 (by decide) wraps_u32 a b ha hb).2
theorem bits_andNot_u32 {a b : Nat} (ha : a < 4294967296) (hb : b < 4294967296) : bits .andNot .u32 (a : Int) (b : Int) = ((andn a b : Nat) : Int) := by
  have e : (BitVec.ofNat 32 a &&& ~~~BitVec.ofNat 32 b).toNat = andn a b := by
    apply Nat.eq_of_testBit_eq
    intro i
    rw [andn_testBit, BitVec.testBit_toNat, BitVec.getLsbD_and, BitVec.getLsbD_not, BitVec.getLsbD_ofNat, BitVec.getLsbD_ofNat]
    by_cases hi : i < 32
    · simp [hi]
    · have : a.testBit i = false := Nat.testBit_lt_two_pow (Nat.lt_of_lt_of_le ha (Nat.pow_le_pow_right (by decide) (Nat.le_of_not_lt hi) : 2 ^ 32 ≤ 2 ^ i))
      simp [hi, this]
  show IntKind.u32.wrap ((BitVec.ofInt 32 (a : Int) &&& ~~~BitVec.ofInt 32 (b : Int)).toNat : Int) = _
  rw [BitVec.ofInt_natCast, BitVec.ofInt_natCast, e]
  have := andn_lt32 (b := b) ha
  exact wraps_u32 _ (by omega) (by omega)
theorem bits_xor_u32 {a b : Nat} (ha : a < 4294967296) (hb : b < 4294967296) : bits .xor .u32 (a : Int) (b : Int) = ((a ^^^ b : Nat) : Int) := by
  show IntKind.u32.wrap ((BitVec.ofInt 32 (a : Int) ^^^ BitVec.ofInt 32 (b : Int)).toNat : Int) = _
  rw [BitVec.ofInt_natCast, BitVec.ofInt_natCast, BitVec.toNat_xor, BitVec.toNat_ofNat, BitVec.toNat_ofNat, Nat.mod_eq_of_lt (by simpa using ha), Nat.mod_eq_of_lt (by simpa using hb)]
  have := xor_lt32 ha hb
  exact wraps_u32 _ (by omega) (by omega)

/-! ### drums -/
/-- all rows are numbers of 32 bits -/
def D32 (D : Nat → Nat) : Prop := ∀ k, D k < 4294967296
/-- the 96 cells of a drum -/
def dc (D : Nat → Nat) : Array Value := Array.ofFn (n := 96) fun i => .int .u32 (D i.val)
theorem dc_size (D : Nat → Nat) : (dc D).size = 96 := by simp [dc]
theorem dc_get (D : Nat → Nat) (k : Nat) (h : k < 96) : (dc D)[k]? = some (.int .u32 (D k)) := by simp [dc, h]
theorem dc_getD (D : Nat → Nat) (k : Nat) (h : k < 96) : (dc D).getD k undef = .int .u32 (D k) := by simp [dc, h]
/-- a drum with a row changed -/
def upd (D : Nat → Nat) (k v : Nat) : Nat → Nat := fun j => if j = k then v else D j
theorem dc_set (D : Nat → Nat) (k v : Nat) (h : k < 96) : (dc D).setIfInBounds k (.int .u32 v) = dc (upd D k v) := by
  apply Array.ext
  · simp [dc]
  · intro i h1 h2
    have hi : i < 96 := by simpa [dc] using h2
    rw [Array.getElem_setIfInBounds (by simpa [dc] using hi)]
    by_cases e : k = i
    · subst e; simp [dc, upd]
    · rw [if_neg e]; simp [dc, upd, Ne.symm e]
theorem dc_congr {D E : Nat → Nat} (h : ∀ k, k < 96 → D k = E k) : dc D = dc E := by
  unfold dc
  congr 1
  funext i
  rw [h i.val i.isLt]
theorem dc_inj {D E : Nat → Nat} (h : dc D = dc E) (k : Nat) (hk : k < 96) : D k = E k := by
  have h1 := dc_get D k hk
  rw [h, dc_get E k hk] at h1
  simp at h1
  omega
theorem dc_zero : dc (fun _ => 0) = (Array.replicate 96 (Value.int .u32 0)) := by
  apply Array.ext
  · simp [dc]
  · intro i h1 h2; simp [dc]
theorem upd_32 {D : Nat → Nat} (h : D32 D) {k v : Nat} (hv : v < 4294967296) : D32 (upd D k v) := fun j => by
  unfold upd; split
  · exact hv
  · exact h j

end Go.Proofs.Ytlcfjeofphncgaa
