/- Pins are asked for, put and taken out, by the reference and by the program. No conditions. -/
import Derived.Test.YtlcfjeofphncgaaLc
import Derived.Test.YtlcfjeofphncgaaNew
import Derived.Test.YtlcfjeofphncgaaHeld
import Derived.Outline
namespace Go.Proofs.Ytlcfjeofphncgaa
open Go.RowKit
set_option linter.unusedVariables false
set_option linter.unusedSimpArgs false

/-- a drum has a pin -/
def hasPin (D : Nat → Nat) (k t : Nat) : Bool := (D k).testBit t
theorem hasPin_mod (D : Nat → Nat) (k t : Nat) : hasPin D k t = decide (D k / 2 ^ t % 2 = 1) := by
  unfold hasPin; rw [Nat.testBit_eq_decide_div_mod_eq]
attribute [irreducible] hasPin
theorem and1 {a : Nat} (ha : a < 4294967296) : bits .and .u32 (a : Int) 1 = ((a % 2 : Nat) : Int) := by
  have h := bits_and_u32 (b := 1) ha (by omega)
  have e : a &&& 1 = a % 2 := Nat.and_two_pow_sub_one_eq_mod a 1
  rw [e] at h
  exact h
theorem div_cast (a t : Nat) : (a : Int) / 2 ^ t = ((a / 2 ^ t : Nat) : Int) := by rw [Int.natCast_ediv, Int.natCast_pow]; rfl
theorem pow24 {t : Nat} (ht : t < 24) : 2 ^ t ≤ 8388608 := Nat.pow_le_pow_right (by omega : 0 < 2) (by omega : t ≤ 23)
theorem wrap_pow {t b : Nat} (ht : t < 24) (hb : b = 2 ^ t) : IntKind.u32.wrap ((2 : Int) ^ t) = (b : Int) := by
  have h := pow24 ht
  have e : (2 : Int) ^ t = ((2 ^ t : Nat) : Int) := by rw [Int.natCast_pow]; rfl
  rw [e, hb]
  exact wraps_u32 _ (by omega) (by omega)
/-- a row with a pin put, or taken out -/
def putRow (x b : Nat) (on : Bool) : Nat := if on then andn x b ||| b else andn x b
theorem putRow_t (x b : Nat) : putRow x b true = andn x b ||| b := rfl
theorem putRow_f (x b : Nat) : putRow x b false = andn x b := rfl
theorem putRow_lt {x b : Nat} (on : Bool) (hx : x < 4294967296) (hb : b < 4294967296) : putRow x b on < 4294967296 := by
  cases on
  · exact andn_lt32 hx
  · exact or_lt32 (andn_lt32 hx) hb
theorem putRow_xor {D : Nat → Nat} {k t : Nat} {on : Bool} (h : hasPin D k t = !on) : putRow (D k) (2 ^ t) on = D k ^^^ 2 ^ t := by
  have hx : (D k).testBit t = !on := by rw [← h]; unfold hasPin; rfl
  apply Nat.eq_of_testBit_eq
  intro i
  rw [Nat.testBit_xor, Nat.testBit_two_pow]
  cases on
  · rw [putRow_f, andn_testBit, Nat.testBit_two_pow]
    by_cases e : t = i
    · subst e; rw [hx]; simp
    · simp [e]
  · rw [putRow_t, Nat.testBit_or, andn_testBit, Nat.testBit_two_pow]
    by_cases e : t = i
    · subst e; rw [hx]; simp
    · simp [e]
attribute [irreducible] putRow
theorem upd_upd (D : Nat → Nat) (k x y : Nat) : upd (upd D k x) k y = upd D k y := by funext j; unfold upd; by_cases e : j = k <;> simp [e]
set_option maxRecDepth 100000 in
theorem has_any (g T : Nat) (D : Nat → Nat) (k t : Nat) (w : World) (hD : D32 D) (hk : k < 96) (ht : t < 24) (hg : DrumAt w T g D) :
    Calls Try.prog 91 #[.pointer (some ⟨g, 0, none⟩), .int .i64 (k : Int), .int .i64 (t : Int)] w fun e w' => e = .returned (.bool (hasPin D k t)) ∧ w = w' := by
  have c0 := hg.cell k hk
  have HG := Lib.hid hg; clear hg
  have hk' : (k : Int) < 96 := by omega
  have hw2 : min t 32 = t := by omega
  go_enter Try.func91, Try.ntmps91
  go_wp2
  go_ret
  refine ⟨ret_bool ?_, rfl⟩
  have hlt : D k / 2 ^ t < 4294967296 := Nat.lt_of_le_of_lt (Nat.div_le_self _ _) (hD k)
  rw [div_cast, and1 hlt, hasPin_mod]
  rcases Nat.mod_two_eq_zero_or_one (D k / 2 ^ t) with h | h <;> rw [h] <;> rfl
set_option maxRecDepth 100000 in
theorem l02Pin_any (g T : Nat) (D : Nat → Nat) (k t : Nat) (w : World) (hD : D32 D) (hk : k < 96) (ht : t < 24) (hg : DrumAt w T g D) :
    Calls Try.prog 87 #[.pointer (some ⟨g, 0, none⟩), .int .i64 (k : Int), .int .i64 (t : Int)] w fun e w' => e = .returned (.bool (hasPin D k t)) ∧ w = w' := by
  have c0 := hg.cell k hk
  have HG := Lib.hid hg; clear hg
  have hk' : (k : Int) < 96 := by omega
  have hw1 := u64_nat t (by omega)
  have hw2 : min t 32 = t := by omega
  go_enter Try.func87, Try.ntmps87
  go_wp2
  go_ret
  refine ⟨ret_bool ?_, rfl⟩
  rw [div_cast, hasPin_mod, show ((D k / 2 ^ t : Nat) : Int).tmod 2 = ((D k / 2 ^ t % 2 : Nat) : Int) from (Int.ofNat_tmod _ 2).symm]
  rcases Nat.mod_two_eq_zero_or_one (D k / 2 ^ t) with h | h <;> rw [h] <;> rfl
/-- the code of a frame, a drum, a step and a track -/
def plc (s : Int) (n : Nat) (P R : Nat → Int) (D : Nat → Nat) (k t : Int) : Int := if okAll s n P R 1 (fun _ => D) then (if inB k 0 (s - 1) && inB t 0 ((n : Int) - 1) then 0 else 2) else 1
section
variable {s : Int} {n : Nat} {P R : Nat → Int} {D : Nat → Nat} {k t : Int}
theorem plc_1 (h : okAll s n P R 1 (fun _ => D) = false) : plc s n P R D k t = 1 := by unfold plc; rw [h]; rfl
theorem plc_2 (h : okAll s n P R 1 (fun _ => D) = true) (h2 : (inB k 0 (s - 1) && inB t 0 ((n : Int) - 1)) = false) : plc s n P R D k t = 2 := by unfold plc; rw [h, h2]; rfl
theorem plc_0 (h : okAll s n P R 1 (fun _ => D) = true) (h2 : (inB k 0 (s - 1) && inB t 0 ((n : Int) - 1)) = true) : plc s n P R D k t = 0 := by unfold plc; rw [h, h2]; rfl
theorem plc_zero (h : plc s n P R D k t = 0) : okAll s n P R 1 (fun _ => D) = true ∧ (0 ≤ k ∧ k ≤ s - 1) ∧ (0 ≤ t ∧ t ≤ (n : Int) - 1) := by
  cases h1 : okAll s n P R 1 (fun _ => D)
  · rw [plc_1 h1] at h; simp at h
  · cases h2 : (inB k 0 (s - 1) && inB t 0 ((n : Int) - 1))
    · rw [plc_2 h1 h2] at h; simp at h
    · rw [Bool.and_eq_true] at h2
      exact ⟨rfl, inB_iff.1 h2.1, inB_iff.1 h2.2⟩
end
attribute [irreducible] plc
theorem firstL_plc (s : Int) (n : Nat) (P R : Nat → Int) (D : Nat → Nat) (k t : Int) : firstL [unl (okAll s n P R 1 (fun _ => D)) 1, unl (inB k 0 (s - 1) && inB t 0 ((n : Int) - 1)) 2] = plc s n P R D k t := by
  cases h1 : okAll s n P R 1 (fun _ => D)
  · rw [plc_1 h1, firstL_at _ (by rw [unl_false]; simp), unl_false]
  · cases h2 : (inB k 0 (s - 1) && inB t 0 ((n : Int) - 1))
    · rw [plc_2 h1 h2, firstL_zero _ (unl_true 1), firstL_at _ (by rw [unl_false]; simp), unl_false]
    · rw [plc_0 h1 h2, firstL_zero _ (unl_true 1), firstL_zero _ (unl_true 2), firstL_nil]
theorem ex_build1 {o : Oper} {a : Act} {w : World} (x : Operand) (ho : o.op = .buildSlice 29 1 #[(0, x)]) (D : Nat → Nat) (hx : a.eval x = .agg (dc D)) :
    (execOp a.eval o).run Try.prog w = .ok (.value (.slice (some ⟨w.heap.size, 0, none⟩) 1 1)) (w.alloc (.cells (dc D) 33)) := by
  have hm : (#[(0, x)] : Array (Nat × Operand)).map (fun (i, y) => (i, a.eval y)) = #[(0, .agg (dc D))] := by simp [hx]
  simp only [execOp, ho, hm, Sem.run_bind, run_build1, Result.andThen_ok]
  rfl
end Go.Proofs.Ytlcfjeofphncgaa
