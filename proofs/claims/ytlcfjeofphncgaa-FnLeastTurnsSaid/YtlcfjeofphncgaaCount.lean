/- How many bits are set: math/bits.OnesCount32, countBits, the reference's l02Count. No conditions. -/
import Derived.Test.YtlcfjeofphncgaaSmall
namespace Go.Proofs.Ytlcfjeofphncgaa
open Go.RowKit
set_option linter.unusedVariables false
set_option linter.unusedSimpArgs false

/-- how many of the n lowest bits are set -/
def pop : Nat → Nat → Nat
  | 0, _ => 0
  | n + 1, x => x % 2 + pop n (x / 2)
theorem pop_le (n x : Nat) : pop n x ≤ n := by
  induction n generalizing x with
  | zero => simp [pop]
  | succ n ih => have := ih (x / 2); simp only [pop]; omega
theorem pop_zero (n : Nat) : pop n 0 = 0 := by
  induction n with
  | zero => rfl
  | succ n ih => simp only [pop, Nat.zero_mod, Nat.zero_div, ih]
theorem pop_mod (n x : Nat) : pop n (x % 2 ^ n) = pop n x := by
  induction n generalizing x with
  | zero => rfl
  | succ n ih =>
    simp only [pop]
    have h1 : x % 2 ^ (n + 1) % 2 = x % 2 := by rw [Nat.pow_succ, Nat.mul_comm, Nat.mod_mul_right_mod]
    have h2 : x % 2 ^ (n + 1) / 2 = x / 2 % 2 ^ n := by rw [Nat.pow_succ, Nat.mul_comm, Nat.mod_mul_right_div_self]
    rw [h1, h2, ih]
theorem pop_split (n m x : Nat) : pop (n + m) x = pop n x + pop m (x / 2 ^ n) := by
  induction n generalizing x with
  | zero => simp [pop]
  | succ n ih =>
    rw [show n + 1 + m = (n + m) + 1 by omega]
    simp only [pop]
    rw [ih, Nat.div_div_eq_div_mul, show 2 * 2 ^ n = 2 ^ (n + 1) by rw [Nat.pow_succ, Nat.mul_comm]]
    omega
theorem pop_one (x : Nat) : pop 1 x = x % 2 := by simp [pop]
theorem pop_succ (n x : Nat) : pop (n + 1) x = x % 2 + pop n (x / 2) := rfl
attribute [irreducible] pop
def popc (x : Nat) : Nat := pop 32 x
theorem popc_le (x : Nat) : popc x ≤ 32 := pop_le 32 x
theorem popc_bytes (x : Nat) : popc x = pop 8 (x / 16777216) + pop 8 (x / 65536 % 256) + pop 8 (x / 256 % 256) + pop 8 (x % 256) := by
  have h : pop (8 + (8 + (8 + 8))) x = pop 8 x + (pop 8 (x / 2 ^ 8) + (pop 8 (x / 2 ^ 8 / 2 ^ 8) + pop 8 (x / 2 ^ 8 / 2 ^ 8 / 2 ^ 8))) := by rw [pop_split, pop_split, pop_split]
  have h0 : pop 8 (x % 256) = pop 8 x := pop_mod 8 x
  have h1 : pop 8 (x / 256 % 256) = pop 8 (x / 2 ^ 8) := pop_mod 8 _
  have h2 : pop 8 (x / 65536 % 256) = pop 8 (x / 2 ^ 8 / 2 ^ 8) := by rw [Nat.div_div_eq_div_mul]; exact pop_mod 8 _
  have h3 : pop 8 (x / 16777216) = pop 8 (x / 2 ^ 8 / 2 ^ 8 / 2 ^ 8) := by rw [Nat.div_div_eq_div_mul, Nat.div_div_eq_div_mul]
  have e : popc x = pop (8 + (8 + (8 + 8))) x := rfl
  omega
theorem popc_step (x : Nat) (hx : x < 4294967296) : popc x = x % 2 + popc (x / 2) := by
  have h : pop (32 + 1) x = pop 32 x + pop 1 (x / 2 ^ 32) := pop_split 32 1 x
  have h0 : x / 2 ^ 32 = 0 := Nat.div_eq_of_lt (Nat.lt_of_lt_of_le hx (by decide))
  rw [h0, pop_zero, Nat.add_zero] at h
  have h1 : pop (32 + 1) x = x % 2 + pop 32 (x / 2) := pop_succ 32 x
  have e1 : popc x = pop 32 x := rfl
  have e2 : popc (x / 2) = pop 32 (x / 2) := rfl
  omega
theorem popc_zero : popc 0 = 0 := pop_zero 32
theorem and255 {a : Nat} (ha : a < 4294967296) : bits .and .u32 (a : Int) 255 = ((a % 256 : Nat) : Int) := by
  have h := bits_and_u32 (b := 255) ha (by omega)
  have e : a &&& 255 = a % 256 := Nat.and_two_pow_sub_one_eq_mod a 8
  rw [e] at h
  exact h
/-- the library's table -/
def popTab (s : ByteArray) : Bool := (List.range 256).all fun b => s[b]? == some (UInt8.ofNat (pop 8 b))
theorem popTab_get {s : ByteArray} (h : popTab s = true) (b : Nat) (hb : b < 256) : s[b]? = some (UInt8.ofNat (pop 8 b)) := by
  simp only [popTab, List.all_eq_true, List.mem_range, beq_iff_eq] at h
  exact h b hb
theorem pop8_u8 (b : Nat) : ((UInt8.ofNat (pop 8 b)).toNat : Int) = (pop 8 b : Int) := by
  have := pop_le 8 b
  have e : (UInt8.ofNat (pop 8 b)).toNat = pop 8 b % 256 := UInt8.toNat_ofNat'
  rw [e, Nat.mod_eq_of_lt (by omega)]
/-- the table is looked into, in a region that draws -/
theorem quiet_pop {ops : Array Oper} {C : World → Prop} {Q : Act → Prop} {a : Act} {o : Oper} {rest : List Oper} (hgd : o.guard = none) (s : ByteArray) (x : Operand) (ho : o.op = .index 9 (.const (.string s)) x)
    (z : Int) (hx : a.eval x = .int .u32 z) (b : Nat) (hz : z = b) (hb : b < 256) (hs : popTab s = true) (h : wpQuiet Try.prog ops C Q rest (a.put o.dst (.int .u8 (pop 8 b)))) : wpQuiet Try.prog ops C Q (o :: rest) a := by
  subst hz
  unfold wpQuiet
  rw [if_pos (by simp [Region.wanted, hgd])]
  refine ⟨.int .u8 (pop 8 b), fun w _ => ?_, h⟩
  have e : (execOp a.eval o).run Try.prog w = .ok (.value (.int .u8 (pop 8 b))) w := by
    have hc : a.eval (.const (.string s)) = .string s := rfl
    have hi : (Instr.index 9 (.string s) (.int .u32 (b : Int))).run Try.prog w = .ok (.int .u8 (pop 8 b)) w := by
      simp only [Instr.index, asIntOf, Sem.run_bind, Sem.run_pure, Result.andThen_ok, run_underlying Try.underlying9]
      rw [if_pos (by omega), Int.toNat_natCast, popTab_get hs b hb]
      simp only [pop8_u8]
      rfl
    simp only [execOp, ho, hx, hc, Sem.run_bind, hi, Result.andThen_ok]
    rfl
  unfold Oper.quietAt
  rw [e]
  exact ⟨rfl, rfl⟩
attribute [irreducible] popc

theorem onesCount32_any (x : Nat) (hx : x < 4294967296) (w : World) :
    Calls Try.prog 89 #[.int .u32 x] w fun e w' => e = .returned (.int .i64 (popc x)) ∧ ∃ q, w' = w.drewN q := by
  go_enter Try.func89, Try.ntmps89
  have b1 : bits .and .u32 ((x : Int) / 65536) 255 = ((x / 65536 % 256 : Nat) : Int) := by
    rw [show (x : Int) / 65536 = ((x / 65536 : Nat) : Int) by omega]; exact and255 (by omega)
  have b2 : bits .and .u32 ((x : Int) / 256) 255 = ((x / 256 % 256 : Nat) : Int) := by
    rw [show (x : Int) / 256 = ((x / 256 : Nat) : Int) by omega]; exact and255 (by omega)
  have b3 : bits .and .u32 (x : Int) 255 = ((x % 256 : Nat) : Int) := and255 hx
  have p0 := pop_le 8 (x / 16777216)
  have p1 := pop_le 8 (x / 65536 % 256)
  have p2 := pop_le 8 (x / 256 % 256)
  have p3 := pop_le 8 (x % 256)
  have HB1 := Lib.hid b1; have HB2 := Lib.hid b2; have HB3 := Lib.hid b3
  clear b1 b2 b3
  go_wp2
  refine wp_region_quiet_lit (by kernel_rfl) (by kernel_rfl) ?_
  iterate 2 quiet_step (fail)
  refine quiet_pop rfl _ _ rfl _ rfl (x / 16777216) (by omega) (by omega) (by decide +kernel) ?_
  iterate 3 quiet_step (fail)
  refine quiet_pop rfl _ _ rfl _ rfl (x / 65536 % 256) HB1.out (by omega) (by decide +kernel) ?_
  iterate 4 quiet_step (fail)
  refine quiet_pop rfl _ _ rfl _ rfl (x / 256 % 256) HB2.out (by omega) (by decide +kernel) ?_
  iterate 3 quiet_step (fail)
  refine quiet_pop rfl _ _ rfl _ rfl (x % 256) HB3.out (by omega) (by decide +kernel) ?_
  iterate 3 quiet_step (fail)
  refine wpQuiet_nil ?_
  intro _ hw'
  obtain ⟨nq, hw''⟩ := hw'
  subst hw''
  go_wp2
  go_ret
  exact ⟨ret_int (by rw [popc_bytes]; simp only [IntKind.wrap_u8, IntKind.wrap_i64]; omega), _, rfl⟩
theorem countBits_any (x : Nat) (hx : x < 4294967296) (w : World) :
    Calls Try.prog 68 #[.int .u32 x] w fun e w' => e = .returned (.int .i64 (popc x)) ∧ ∃ q, w' = w.drewN q := by
  go_enter Try.func68, Try.ntmps68
  go_wp2_with (go_at_call 89; refine (onesCount32_any _ hx _).mono ?_; rintro e w' ⟨rfl, q, rfl⟩)
  go_ret
  exact ⟨rfl, q, rfl⟩
/-- the sum of the values below k -/
def sumTo (f : Nat → Nat) : Nat → Nat
  | 0 => 0
  | k + 1 => sumTo f k + f k
theorem sumTo_zero (f : Nat → Nat) : sumTo f 0 = 0 := rfl
theorem sumTo_succ (f : Nat → Nat) (k : Nat) : sumTo f (k + 1) = sumTo f k + f k := rfl
theorem sumTo_le (f : Nat → Nat) (m : Nat) (h : ∀ k, f k ≤ m) (k : Nat) : sumTo f k ≤ k * m := by
  induction k with
  | zero => simp [sumTo]
  | succ k ih => have := h k; simp only [sumTo, Nat.succ_mul]; omega
theorem sumTo_congr {f g : Nat → Nat} (k : Nat) (h : ∀ j, j < k → f j = g j) : sumTo f k = sumTo g k := by
  induction k with
  | zero => rfl
  | succ k ih => rw [sumTo_succ, sumTo_succ, ih fun j hj => h j (by omega), h k (by omega)]
/-- how many pins a drum has -/
def cnt (D : Nat → Nat) : Nat := sumTo (fun k => popc (D k)) 96
theorem cnt_def (D : Nat → Nat) : cnt D = sumTo (fun k => popc (D k)) 96 := rfl
theorem cnt_le (D : Nat → Nat) : cnt D ≤ 3072 := sumTo_le _ 32 (fun k => popc_le _) 96
/-- the pins that a drum has and another one has not -/
def lessD (D E : Nat → Nat) : Nat → Nat := fun k => andn (D k) (E k)
theorem lessD_32 {D E : Nat → Nat} (h : D32 D) : D32 (lessD D E) := fun k => andn_lt32 (h k)
attribute [irreducible] sumTo cnt
end Go.Proofs.Ytlcfjeofphncgaa
