/- Numbers: slices of them that come in, copies. No conditions. -/
import Derived.Test.YtmmneedmhmppoaaMark
import Derived.Test.YtmmneedmhmppoaaTab
import Derived.Test.YtmmneedmhmppoaaOwn
import Derived.Outline
namespace Go.Proofs.Ytmmneedmhmppoaa
open Go.RowKit
set_option linter.unusedVariables false
set_option linter.unusedSimpArgs false

/-- numbers of 64 bits -/
def I64 (Z : Nat → Int) : Prop := ∀ i, -9223372036854775808 ≤ Z i ∧ Z i ≤ 9223372036854775807
/-- a slice that came in reads as n numbers -/
def IntIn (w : World) (a : Option Addr) (n : Nat) (Z : Nat → Int) : Prop :=
  0 < n → ∃ ad, a = some ad ∧ ad.block < w.heap.size ∧ ∀ i, i < n → w.cell? (ad.add i) = some (.int .i64 (Z i))
theorem IntIn.get {w : World} {a : Option Addr} {n : Nat} {Z : Nat → Int} (h : IntIn w a n Z) (hn : 0 < n) : ∃ ad, a = some ad ∧ ad.block < w.heap.size ∧ ∀ i, i < n → w.cell? (ad.add i) = some (.int .i64 (Z i)) := h hn
theorem IntIn.below {w w' : World} {a : Option Addr} {n : Nat} {Z : Nat → Int} (h : IntIn w a n Z) (hb : Below w.heap.size w w') : IntIn w' a n Z := by
  intro hn
  obtain ⟨ad, rfl, hg, hc⟩ := h hn
  refine ⟨ad, rfl, Nat.lt_of_lt_of_le hg hb.size, fun i hi => ?_⟩
  rw [hb.cell (p := ad.add i) (by rw [add_block]; exact hg)]
  exact hc i hi
theorem kp_intIn {w : World} {a : Option Addr} {n : Nat} {Z : Nat → Int} (h : IntIn w a n Z) : Kp w (fun V => IntIn V a n Z) := Kp.mk fun _ hb => h.below hb
/-- a block bears n numbers -/
def IntF (n : Nat) (Z : Nat → Int) (f : Nat → Value) : Prop := ∀ i, i < n → f i = .int .i64 (Z i)
theorem IntF.at {w : World} {T g n : Nat} {Z : Nat → Int} {f : Nat → Value} (h : IntF n Z f) (hb : BlkAt w T g n f) : IntAt w (some ⟨g, 0, none⟩) n Z := fun _ =>
  ⟨g, 0, rfl, hb.lt, fun i hi => by rw [Nat.zero_add, hb.cell i hi, h i hi]⟩
theorem IntF.step {k : Nat} {Z : Nat → Int} {f : Nat → Value} (h : IntF k Z f) : IntF (k + 1) Z (updV f k (.int .i64 (Z k))) := by
  intro i hi
  by_cases e : i = k
  · subst e; rw [updV_same]
  · rw [updV_other _ _ _ e]; exact h i (by omega)
set_option maxRecDepth 100000 in
theorem toInt64S_own (a : Option Addr) (n c : Nat) (Z : Nat → Int) (w : World) (hn : n ≤ 1048576) (hh : IntIn w a n Z) :
    Calls Try.prog 40 #[.slice a n c] w fun e w' => ∃ b, e = .returned (.slice b n n) ∧ Below w.heap.size w w' ∧ Kp w' (fun V => IntAt V b n Z) ∧ ∃ xs, Kp w' (fun V => V.ownsRow w.heap.size 2 1 (.slice b n n) n xs) := by
  obtain ⟨i0, hi, hz0, hz1, hz2⟩ := info_parts infoI64
  obtain ⟨f0, hmk⟩ := run_make_n w 38 2 i0 _ Try.underlying38 hi hz0 1 8 n hz1 hz2 (by omega) (by omega)
  clear hi hz0 hz1 hz2
  have HH := Lib.hid hh; clear hh
  rw [Nat.mul_one] at hmk
  have hb0 : Below w.heap.size w (w.alloc (.cells (cf n f0) 2)) := (Below.refl _ _).alloc (Nat.le_refl _) _
  have hk0 := BlkAt.new w 2 n f0
  have HB0 := Lib.hid hb0; have HK0 := Lib.hid hk0; clear hb0 hk0
  go_enter Try.func40, Try.ntmps40
  go_wp2
  go_loopw [4] (fun i w' => Below w.heap.size w w' ∧ ∃ k : Nat, k ≤ n ∧ i = .int .i64 k ∧ ∃ f, BlkAt w' 2 w.heap.size n f ∧ IntF k Z f) (fun i _ => n - (intOf i).toNat)
  case atStart => exact ⟨HB0.out, 0, by omega, rfl, f0, HK0.out, fun i hi => absurd hi (by omega)⟩
  case round =>
    clear HB0 HK0 hmk
    obtain ⟨hb, k, hk, rfl, f, hB, hF⟩ := hrel
    have HB := Lib.hid hB; have HF := Lib.hid hF; clear hB hF
    by_cases hlt : k < n
    · have hx := IntIn.get HH.out (show 0 < n by omega)
      obtain ⟨ad, rfl, hg, hc⟩ := hx
      have c0 := (hb.cell (p := ad.add k) (by rw [add_block]; exact hg)).trans (hc k hlt)
      clear hc
      have d0 := HB.out.cell k hlt
      have e0 := HB.out.frozen k
      have hk' : (k : Int) < n := by omega
      go_wp2
      go_roundw
      case rel => exact ⟨hb.setCell (Nat.le_refl _) _, k + 1, by omega, by go_num, _, HB.out.setCell k _ hlt, HF.out.step⟩
      case measure => simp [intOf]; omega
    · have hkn : k = n := by omega
      subst hkn
      go_wp2
      go_ret
      exact ⟨_, rfl, hb, kp_int (HF.out.at HB.out), _, kp_ownR (own_blk HB.out (by omega) (Nat.le_refl _) (by unfold maxLen; omega))⟩
theorem toInt64S_kp (a : Option Addr) (n c : Nat) (Z : Nat → Int) (w : World) (hn : n ≤ 1048576) (hh : IntIn w a n Z) :
    Calls Try.prog 40 #[.slice a n c] w fun e w' => ∃ b, e = .returned (.slice b n n) ∧ Below w.heap.size w w' ∧ Kp w' (fun V => IntAt V b n Z) :=
  (toInt64S_own a n c Z w hn hh).mono fun _ _ ⟨b, he, hb, hk, _⟩ => ⟨b, he, hb, hk⟩
theorem eqInt64S_kp (a b : Option Addr) (n c d : Nat) (Z : Nat → Int) (w : World) (hn : n ≤ 1000000000) (ha : IntAt w a n Z) (hb : IntAt w b n Z) :
    Calls Try.prog 27 #[.slice a n c, .slice b n d] w fun e w' => e = .returned (.bool true) ∧ Below w.heap.size w w' := eqInt64S_any a b n c d Z w hn ha hb
end Go.Proofs.Ytmmneedmhmppoaa
