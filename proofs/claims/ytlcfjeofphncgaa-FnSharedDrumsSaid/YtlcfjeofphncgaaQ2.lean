/- Texts of this claim, put together in their order of building. No conditions. -/
import Derived.Outline
import Derived.Laws.AppendOwn
import Derived.Test.YtlcfjeofphncgaaQ1
namespace Go.Proofs.Ytlcfjeofphncgaa
open Go.RowKit
set_option linter.unusedVariables false
set_option linter.unusedSimpArgs false

def encH (x : Int × Int) : List Value := [.int .i8 x.1, .int .i8 x.2]
theorem encH_len (x : Int × Int) : (encH x).length = 2 := rfl
theorem encH_one (x : Int × Int) : ∀ u ∈ encH x, u.oneCell' = true := by
  intro u hu; simp [encH] at hu; rcases hu with rfl | rfl <;> rfl
def OwnH (w : World) (base : Nat) (v : Value) (l : List (Int × Int)) : Prop := OwnL 99 2 encH w base v l
theorem infoH2 : (Try.prog.info? 99).map (fun i => (i.zero, i.size, i.bytes)) = some (some (.agg #[.int .i8 0, .int .i8 0]), 2, 2) := by kernel_rfl
section
variable {w w' : World} {base : Nat} {v : Value} {l : List (Int × Int)}
theorem kp_OwnH (h : OwnH w base v l) : Kp w (fun V => OwnH V base v l) := kp_OwnL h
theorem OwnH.lt (h : OwnH w base v l) : ∀ k, v.ownBlock = some k → base ≤ k ∧ k < w.heap.size := OwnL.lt h
theorem OwnH.mono {base' : Nat} (h : OwnH w base v l) (hb : base' ≤ base) : OwnH w base' v l := OwnL.mono h hb
theorem OwnH.below (h : OwnH w base v l) (hb : Below w.heap.size w w') : OwnH w' base v l := OwnL.below h hb
theorem OwnH.alloc (h : OwnH w base v l) (o : Obj) : OwnH (w.alloc o) base v l := OwnL.alloc h o
theorem OwnH.readAt {b : Option Addr} {n c : Nat} (h : OwnH w base (.slice b n c) l) : HamAt w b l.length (fun i => (l.getD i (0, 0)).1) (fun i => (l.getD i (0, 0)).2) := fun hn => by
  obtain ⟨g, rfl, hg, hlt, hc⟩ := OwnL.cells encH_len h hn
  refine ⟨g, 0, rfl, hlt, fun i hi => ?_⟩
  have hl := List.getElem?_eq_getElem hi
  have e : l.getD i (0, 0) = l[i] := by simp [List.getD, hl]
  simp only [e, Nat.zero_add]
  exact ⟨hc i _ hl 0 (by omega), hc i _ hl 1 (by omega)⟩
theorem OwnH.at (h : OwnH w base v l) : ∃ b c, v = .slice b l.length c ∧ HamAt w b l.length (fun i => (l.getD i (0, 0)).1) (fun i => (l.getD i (0, 0)).2) := by
  obtain ⟨b, c, rfl⟩ := OwnL.form h
  exact ⟨b, c, rfl, OwnH.readAt h⟩
end
section
variable {ops : Array Oper} {rest : List Oper} {o : Oper} {a : Act} {w : World} {Q : Exit → Act → World → Prop}
theorem append_hammers (hgd : o.guard = none) (s x : Operand) (ho : o.op = .call { callee := .builtin .append, args := #[s, x], argTypes := #[25, 25] }) (base : Nat) (v : Value) (l : List (Int × Int)) (hs : a.eval s = v) (hown : OwnH w base v l)
    (ad : Addr) (m c : Nat) (ys : List (Int × Int)) (hm : ys.length = m) (hx : a.eval x = .slice (some ad) m c) (hc : ∀ j u, (ys.flatMap encH)[j]? = some u → w.cell? (ad.add j) = some u) (hl : l.length + m ≤ 10000000) (hbase : base ≤ w.heap.size)
    (h : ∀ v' w', OwnH w' base v' (l ++ ys) → Below base w w' → wpList Try.prog ops Q rest (a.put o.dst v') w') : wpList Try.prog ops Q (o :: rest) a w :=
  append_L Try.underlying25 infoH2 rfl (by decide) (by decide) encH_len encH_one hgd s x ho base v l hs hown ad m c ys hm hx hc hl hbase h
end
section
variable {md : Region.Mode} {ops : Array Oper} {Q : Exit → Act → World → Prop} {S : World → Prop} {fuel : Nat} {listed : Array Bool} {a : Act} {w : World}
theorem step_append_hammers (i : Nat) {o : Oper} (hr : Region.ready md ops listed = [i]) (hoi : ops[i]? = some o) (hw : Region.wanted o (yielded ops a.tmps) = true)
    (s x : Operand) (ho : o.op = .call { callee := .builtin .append, args := #[s, x], argTypes := #[25, 25] }) (base : Nat) (v : Value) (l : List (Int × Int)) (hs : a.eval s = v) (hown : OwnH w base v l)
    (ad : Addr) (m c : Nat) (ys : List (Int × Int)) (hm : ys.length = m) (hx : a.eval x = .slice (some ad) m c) (hc : ∀ j u, (ys.flatMap encH)[j]? = some u → w.cell? (ad.add j) = some u) (hl : l.length + m ≤ 10000000) (hbase : base ≤ w.heap.size)
    (h : ∀ v' w', OwnH w' base v' (l ++ ys) → Below base w w' → S w' ∧ wpAnyH Try.prog md ops Q S fuel (listed.setIfInBounds i true) (a.put o.dst v') w') : wpAnyH Try.prog md ops Q S (fuel + 1) listed a w :=
  step_append_L Try.underlying25 infoH2 rfl (by decide) (by decide) encH_len encH_one i hr hoi hw s x ho base v l hs hown ad m c ys hm hx hc hl hbase h
end
end Go.Proofs.Ytlcfjeofphncgaa
namespace Go.Proofs.Ytlcfjeofphncgaa
open Go.RowKit
set_option linter.unusedVariables false
set_option linter.unusedSimpArgs false

/-- how many of the n lowest bits are set -/
def pop : Nat → Nat → Nat
  | 0, _ => 0
  | n + 1, x => x % 2 + pop n (x / 2)
theorem pop_le (n x : Nat) : pop n x ≤ n := by
  induction n generalizing x with
  | zero => simp [pop]
  | succ n ih => have := ih (x / 2); simp only [pop]; omega
theorem pop_zero (n : Nat) : pop n 0 = 0 := by
  induction n with
  | zero => rfl
  | succ n ih => simp only [pop, Nat.zero_mod, Nat.zero_div, ih]
theorem pop_mod (n x : Nat) : pop n (x % 2 ^ n) = pop n x := by
  induction n generalizing x with
  | zero => rfl
  | succ n ih =>
    simp only [pop]
    have h1 : x % 2 ^ (n + 1) % 2 = x % 2 := by rw [Nat.pow_succ, Nat.mul_comm, Nat.mod_mul_right_mod]
    have h2 : x % 2 ^ (n + 1) / 2 = x / 2 % 2 ^ n := by rw [Nat.pow_succ, Nat.mul_comm, Nat.mod_mul_right_div_self]
    rw [h1, h2, ih]
theorem pop_split (n m x : Nat) : pop (n + m) x = pop n x + pop m (x / 2 ^ n) := by
  induction n generalizing x with
  | zero => simp [pop]
  | succ n ih =>
    rw [show n + 1 + m = (n + m) + 1 by omega]
    simp only [pop]
    rw [ih, Nat.div_div_eq_div_mul, show 2 * 2 ^ n = 2 ^ (n + 1) by rw [Nat.pow_succ, Nat.mul_comm]]
    omega
theorem pop_one (x : Nat) : pop 1 x = x % 2 := by simp [pop]
theorem pop_succ (n x : Nat) : pop (n + 1) x = x % 2 + pop n (x / 2) := rfl
attribute [irreducible] pop
def popc (x : Nat) : Nat := pop 32 x
theorem popc_le (x : Nat) : popc x ≤ 32 := pop_le 32 x
theorem popc_bytes (x : Nat) : popc x = pop 8 (x / 16777216) + pop 8 (x / 65536 % 256) + pop 8 (x / 256 % 256) + pop 8 (x % 256) := by
  have h : pop (8 + (8 + (8 + 8))) x = pop 8 x + (pop 8 (x / 2 ^ 8) + (pop 8 (x / 2 ^ 8 / 2 ^ 8) + pop 8 (x / 2 ^ 8 / 2 ^ 8 / 2 ^ 8))) := by rw [pop_split, pop_split, pop_split]
  have h0 : pop 8 (x % 256) = pop 8 x := pop_mod 8 x
  have h1 : pop 8 (x / 256 % 256) = pop 8 (x / 2 ^ 8) := pop_mod 8 _
  have h2 : pop 8 (x / 65536 % 256) = pop 8 (x / 2 ^ 8 / 2 ^ 8) := by rw [Nat.div_div_eq_div_mul]; exact pop_mod 8 _
  have h3 : pop 8 (x / 16777216) = pop 8 (x / 2 ^ 8 / 2 ^ 8 / 2 ^ 8) := by rw [Nat.div_div_eq_div_mul, Nat.div_div_eq_div_mul]
  have e : popc x = pop (8 + (8 + (8 + 8))) x := rfl
  omega
theorem popc_step (x : Nat) (hx : x < 4294967296) : popc x = x % 2 + popc (x / 2) := by
  have h : pop (32 + 1) x = pop 32 x + pop 1 (x / 2 ^ 32) := pop_split 32 1 x
  have h0 : x / 2 ^ 32 = 0 := Nat.div_eq_of_lt (Nat.lt_of_lt_of_le hx (by decide))
  rw [h0, pop_zero, Nat.add_zero] at h
  have h1 : pop (32 + 1) x = x % 2 + pop 32 (x / 2) := pop_succ 32 x
  have e1 : popc x = pop 32 x := rfl
  have e2 : popc (x / 2) = pop 32 (x / 2) := rfl
  omega
theorem popc_zero : popc 0 = 0 := pop_zero 32
theorem and255 {a : Nat} (ha : a < 4294967296) : bits .and .u32 (a : Int) 255 = ((a % 256 : Nat) : Int) := by
  have h := bits_and_u32 (b := 255) ha (by omega)
  have e : a &&& 255 = a % 256 := Nat.and_two_pow_sub_one_eq_mod a 8
  rw [e] at h
  exact h
/-- the library's table -/
def popTab (s : ByteArray) : Bool := (List.range 256).all fun b => s[b]? == some (UInt8.ofNat (pop 8 b))
theorem popTab_get {s : ByteArray} (h : popTab s = true) (b : Nat) (hb : b < 256) : s[b]? = some (UInt8.ofNat (pop 8 b)) := by
  simp only [popTab, List.all_eq_true, List.mem_range, beq_iff_eq] at h
  exact h b hb
theorem pop8_u8 (b : Nat) : ((UInt8.ofNat (pop 8 b)).toNat : Int) = (pop 8 b : Int) := by
  have := pop_le 8 b
  have e : (UInt8.ofNat (pop 8 b)).toNat = pop 8 b % 256 := UInt8.toNat_ofNat'
  rw [e, Nat.mod_eq_of_lt (by omega)]
/-- the table is looked into, in a region that draws -/
theorem quiet_pop {ops : Array Oper} {C : World → Prop} {Q : Act → Prop} {a : Act} {o : Oper} {rest : List Oper} (hgd : o.guard = none) (s : ByteArray) (x : Operand) (ho : o.op = .index 9 (.const (.string s)) x)
    (z : Int) (hx : a.eval x = .int .u32 z) (b : Nat) (hz : z = b) (hb : b < 256) (hs : popTab s = true) (h : wpQuiet Try.prog ops C Q rest (a.put o.dst (.int .u8 (pop 8 b)))) : wpQuiet Try.prog ops C Q (o :: rest) a := by
  subst hz
  unfold wpQuiet
  rw [if_pos (by simp [Region.wanted, hgd])]
  refine ⟨.int .u8 (pop 8 b), fun w _ => ?_, h⟩
  have e : (execOp a.eval o).run Try.prog w = .ok (.value (.int .u8 (pop 8 b))) w := by
    have hc : a.eval (.const (.string s)) = .string s := rfl
    have hi : (Instr.index 9 (.string s) (.int .u32 (b : Int))).run Try.prog w = .ok (.int .u8 (pop 8 b)) w := by
      simp only [Instr.index, asIntOf, Sem.run_bind, Sem.run_pure, Result.andThen_ok, run_underlying Try.underlying9]
      rw [if_pos (by omega), Int.toNat_natCast, popTab_get hs b hb]
      simp only [pop8_u8]
      rfl
    simp only [execOp, ho, hx, hc, Sem.run_bind, hi, Result.andThen_ok]
    rfl
  unfold Oper.quietAt
  rw [e]
  exact ⟨rfl, rfl⟩
attribute [irreducible] popc

theorem onesCount32_any (x : Nat) (hx : x < 4294967296) (w : World) :
    Calls Try.prog 89 #[.int .u32 x] w fun e w' => e = .returned (.int .i64 (popc x)) ∧ ∃ q, w' = w.drewN q := by
  go_enter Try.func89, Try.ntmps89
  have b1 : bits .and .u32 ((x : Int) / 65536) 255 = ((x / 65536 % 256 : Nat) : Int) := by
    rw [show (x : Int) / 65536 = ((x / 65536 : Nat) : Int) by omega]; exact and255 (by omega)
  have b2 : bits .and .u32 ((x : Int) / 256) 255 = ((x / 256 % 256 : Nat) : Int) := by
    rw [show (x : Int) / 256 = ((x / 256 : Nat) : Int) by omega]; exact and255 (by omega)
  have b3 : bits .and .u32 (x : Int) 255 = ((x % 256 : Nat) : Int) := and255 hx
  have p0 := pop_le 8 (x / 16777216)
  have p1 := pop_le 8 (x / 65536 % 256)
  have p2 := pop_le 8 (x / 256 % 256)
  have p3 := pop_le 8 (x % 256)
  have HB1 := Lib.hid b1; have HB2 := Lib.hid b2; have HB3 := Lib.hid b3
  clear b1 b2 b3
  go_wp2
  refine wp_region_quiet_lit (by kernel_rfl) (by kernel_rfl) ?_
  iterate 2 quiet_step (fail)
  refine quiet_pop rfl _ _ rfl _ rfl (x / 16777216) (by omega) (by omega) (by decide +kernel) ?_
  iterate 3 quiet_step (fail)
  refine quiet_pop rfl _ _ rfl _ rfl (x / 65536 % 256) HB1.out (by omega) (by decide +kernel) ?_
  iterate 4 quiet_step (fail)
  refine quiet_pop rfl _ _ rfl _ rfl (x / 256 % 256) HB2.out (by omega) (by decide +kernel) ?_
  iterate 3 quiet_step (fail)
  refine quiet_pop rfl _ _ rfl _ rfl (x % 256) HB3.out (by omega) (by decide +kernel) ?_
  iterate 3 quiet_step (fail)
  refine wpQuiet_nil ?_
  intro _ hw'
  obtain ⟨nq, hw''⟩ := hw'
  subst hw''
  go_wp2
  go_ret
  exact ⟨ret_int (by rw [popc_bytes]; simp only [IntKind.wrap_u8, IntKind.wrap_i64]; omega), _, rfl⟩
theorem countBits_any (x : Nat) (hx : x < 4294967296) (w : World) :
    Calls Try.prog 68 #[.int .u32 x] w fun e w' => e = .returned (.int .i64 (popc x)) ∧ ∃ q, w' = w.drewN q := by
  go_enter Try.func68, Try.ntmps68
  go_wp2_with (go_at_call 89; refine (onesCount32_any _ hx _).mono ?_; rintro e w' ⟨rfl, q, rfl⟩)
  go_ret
  exact ⟨rfl, q, rfl⟩
/-- the sum of the values below k -/
def sumTo (f : Nat → Nat) : Nat → Nat
  | 0 => 0
  | k + 1 => sumTo f k + f k
theorem sumTo_zero (f : Nat → Nat) : sumTo f 0 = 0 := rfl
theorem sumTo_succ (f : Nat → Nat) (k : Nat) : sumTo f (k + 1) = sumTo f k + f k := rfl
theorem sumTo_le (f : Nat → Nat) (m : Nat) (h : ∀ k, f k ≤ m) (k : Nat) : sumTo f k ≤ k * m := by
  induction k with
  | zero => simp [sumTo]
  | succ k ih => have := h k; simp only [sumTo, Nat.succ_mul]; omega
theorem sumTo_congr {f g : Nat → Nat} (k : Nat) (h : ∀ j, j < k → f j = g j) : sumTo f k = sumTo g k := by
  induction k with
  | zero => rfl
  | succ k ih => rw [sumTo_succ, sumTo_succ, ih fun j hj => h j (by omega), h k (by omega)]
/-- how many pins a drum has -/
def cnt (D : Nat → Nat) : Nat := sumTo (fun k => popc (D k)) 96
theorem cnt_def (D : Nat → Nat) : cnt D = sumTo (fun k => popc (D k)) 96 := rfl
theorem cnt_le (D : Nat → Nat) : cnt D ≤ 3072 := sumTo_le _ 32 (fun k => popc_le _) 96
/-- the pins that a drum has and another one has not -/
def lessD (D E : Nat → Nat) : Nat → Nat := fun k => andn (D k) (E k)
theorem lessD_32 {D E : Nat → Nat} (h : D32 D) : D32 (lessD D E) := fun k => andn_lt32 (h k)
attribute [irreducible] sumTo cnt
end Go.Proofs.Ytlcfjeofphncgaa
namespace Go.Proofs.Ytlcfjeofphncgaa
open Go.RowKit
set_option linter.unusedVariables false
set_option linter.unusedSimpArgs false

theorem count_any (D : Nat → Nat) (hD : D32 D) (w : World) :
    Calls Try.prog 39 #[.agg (dc D)] w fun e w' => e = .returned (.int .i64 (cnt D)) ∧ Below w.heap.size w w' := by
  go_enter Try.func39, Try.ntmps39
  have hg := DrumAt.new w 33 D
  go_wp2_with (with_reducible refine load_drum rfl _ rfl w.heap.size rfl _ D hg ?_)
  go_loopw [3, 7] (fun t i w' => Below w.heap.size w w' ∧ ∃ k : Nat, k ≤ 96 ∧ i = .int .i64 k ∧ t = .int .i64 (sumTo (fun k => popc (D k)) k)) (fun _ i _ => 96 - (intOf i).toNat)
  case atStart => exact ⟨(Below.refl _ _).alloc (Nat.le_refl _) _, 0, by omega, rfl, by rw [sumTo_zero]; rfl⟩
  case round =>
    obtain ⟨hb, k, hk, rfl, rfl⟩ := hrel
    have hs := sumTo_le (fun k => popc (D k)) 32 (fun k => popc_le _) k
    have hp := popc_le (D k)
    by_cases hlt : k < 96
    · have hix := index_drum D k hlt
      go_wp2_with (go_at_call 68; refine (countBits_any _ (hD k) _).mono ?_; rintro e w' ⟨rfl, q, rfl⟩)
      go_roundw
      case rel => exact ⟨below_drewN hb _, k + 1, by omega, by go_num, by rw [sumTo_succ]; go_num⟩
      case measure => simp [intOf]; omega
    · go_wp2
      go_ret
      exact ⟨ret_int (by rw [show k = 96 by omega, cnt_def]), hb⟩
end Go.Proofs.Ytlcfjeofphncgaa
namespace Go.Proofs.Ytlcfjeofphncgaa
open Go.RowKit
set_option linter.unusedVariables false
set_option linter.unusedSimpArgs false

theorem kx_OwnL {α : Type} {T sz : Nat} {enc : α → List Value} {g : Nat} {w : World} {base : Nat} {v : Value} {l : List α} (h : OwnL T sz enc w base v l) (hg : g < base) : Kx g w (fun V => OwnL T sz enc V base v l) := Kx.mk fun _ hb => hb.grown h hg
/-- hammers that are drawn -/
def HamD (L : List (Int × Int)) : Prop := ∀ i, i < L.length → (22 ≤ (L.getD i (0, 0)).1 ∧ (L.getD i (0, 0)).1 ≤ 25) ∧ 1 ≤ (L.getD i (0, 0)).2 ∧ (L.getD i (0, 0)).2 ≤ 4
theorem HamD.nil : HamD [] := fun i h => absurd h (by simp)
theorem HamD.snoc {L : List (Int × Int)} {p r : Int} (h : HamD L) (hp : 22 ≤ p ∧ p ≤ 25) (hr : 1 ≤ r ∧ r ≤ 4) : HamD (L ++ [(p, r)]) := by
  intro i hi
  rw [List.length_append] at hi
  by_cases h1 : i < L.length
  · have := h i h1
    simpa [List.getD, List.getElem?_append_left h1] using this
  · have hi0 : i = L.length := by simp at hi; omega
    subst hi0
    simp [List.getD]; omega
theorem HamD.i8 {L : List (Int × Int)} (h : HamD L) : I8 (fun i => (L.getD i (0, 0)).1) ∧ I8 (fun i => (L.getD i (0, 0)).2) := by
  constructor <;> intro i
  · by_cases hi : i < L.length
    · have := (h i hi).1; show -128 ≤ (L.getD i (0, 0)).1 ∧ (L.getD i (0, 0)).1 ≤ 127; omega
    · simp [List.getD, List.getElem?_eq_none (Nat.le_of_not_lt hi)]
  · by_cases hi : i < L.length
    · have := (h i hi).2; show -128 ≤ (L.getD i (0, 0)).2 ∧ (L.getD i (0, 0)).2 ≤ 127; omega
    · simp [List.getD, List.getElem?_eq_none (Nat.le_of_not_lt hi)]
theorem HamD.frame {L : List (Int × Int)} {s : Int} (h : HamD L) (hs : 4 ≤ s ∧ s ≤ 17) (hl : 1 ≤ L.length ∧ L.length ≤ 5) : vFrame s L.length (fun i => (L.getD i (0, 0)).1) (fun i => (L.getD i (0, 0)).2) = true := by
  refine vFrame_iff.2 ⟨by omega, by omega, fun k hk => ?_⟩
  have h1 := h k hk
  refine hamOK_iff.2 ⟨by omega, h1.2.1, ?_⟩
  rw [mn_def]; split <;> omega
section
variable {ops : Array Oper} {rest : List Oper} {o : Oper} {a : Act} {w : World} {Q : Exit → Act → World → Prop}
theorem store_frameS (hgd : o.guard = none) (x y : Operand) (ho : o.op = .store 27 x y) (g : Nat) (s : Int) (v : Value) (hx : a.eval x = .pointer (some ⟨g, 0, none⟩)) (hy : a.eval y = .agg #[.int .i16 s, v]) (h1 : v.oneCell' = true) (T : Nat) (s0 : Int) (v0 : Value) (hg : w.heap[g]? = some (.cells #[.int .i16 s0, v0] T (0, 0)))
    (h : wpList Try.prog ops Q rest (a.put o.dst undef) (w.setRow g #[.int .i16 s, v])) : wpList Try.prog ops Q (o :: rest) a w :=
  wpList_store_row hgd _ x y ho g #[.int .i16 s, v] hx hy _ _ hg (by kernel_rfl) rfl (by rw [Array.all_eq_true]; intro i hi; match i, hi with | 0, _ => rfl | 1, _ => exact h1) h
end
theorem results_frame1 {fn : Func} {p : Tmp} (h : fn.results = #[.cell p 27]) (tmps : Array Value) (w : World) (g T : Nat) (s : Int) (u : Value)
    (hp : tmps.getD p undef = .pointer (some ⟨g, 0, none⟩)) (hg : w.heap[g]? = some (.cells #[.int .i16 s, u] T (0, 0))) : (results fn tmps).run Try.prog w = .ok (.agg #[.int .i16 s, u]) w := by
  have hp' : tmps[p]?.getD undef = .pointer (some ⟨g, 0, none⟩) := by simpa using hp
  simp [results, h, hp', asAddr, run_loadVar_row w g _ 27 #[.int .i16 s, u] (0, 0) _ hg Try.underlying27 rfl (by kernel_rfl)]
theorem grown_setRowS (w : World) (g : Nat) (cs : Array Value) : w.grownBy (w.setRow g cs) (some g) :=
  ⟨rfl, rfl, rfl, by simp, fun k _ hk => setRow_other w g k cs fun e => hk (by rw [e])⟩
/-- while it is drawn: the two boxes and the hammers -/
theorem KeepS.trans' {g : Nat} {w V U : World} (h : KeepS g w V) (hb : Below w.heap.size V U) : KeepS g w U :=
  ⟨Nat.le_trans h.1 hb.size, fun j a hj => (hb.block j hj).trans (h.2.1 j a hj), hb.os.trans h.2.2.1, hb.tape.trans h.2.2.2.1, hb.output.trans h.2.2.2.2⟩
structure FDS (g g2 g3 : Nat) (w : World) (s : Int) (b : Option Addr) (c' : Nat) (L : List (Int × Int)) (W : World) : Prop where
  k : KeepS g w W
  r2 : W.heap[g2]? = some (.cells #[.int .i16 0, .slice none 0 0] 27 (0, 0))
  r3 : W.heap[g3]? = some (.cells #[.int .i16 s, .slice b L.length c'] 27 (0, 0))
  o : OwnH W (g3 + 1) (.slice b L.length c') L
theorem FDS.kx {g g2 g3 : Nat} {w W : World} {s : Int} {b : Option Addr} {c' : Nat} {L : List (Int × Int)} (h : FDS g g2 g3 w s b c' L W) (h2 : g2 ≠ g) (h3 : g < g3) : Kx g W (FDS g g2 g3 w s b c' L) :=
  Kx.mk fun V hb => ⟨h.k.trans hb, hb.row h.r2 h2, hb.row h.r3 (by omega), hb.grown h.o (by omega)⟩
theorem own_other {w : World} {base size n x : Nat} {e : TypeId} {v : Value} {xs : List Value} (h : w.ownsRow base e size v n xs) (ho : ∀ k, v.ownBlock = some k → k ≠ x) (i : Nat) (u : Value) : (w.setCell ⟨x, i, none⟩ u).ownsRow base e size v n xs := by
  refine h.kept (grown_set (grown_refl w (some x)) rfl i u) ?_
  cases hv : v.ownBlock with
  | none => exact .inl rfl
  | some k => exact .inr fun e2 => ho k hv (by injection e2)
theorem FDS.other {g g2 g3 x : Nat} {w W : World} {s : Int} {b : Option Addr} {c' : Nat} {L : List (Int × Int)} (h : FDS g g2 g3 w s b c' L W) (hx : w.heap.size ≤ x) (h2 : g2 ≠ x) (h3 : g3 ≠ x) (ho : ∀ k, (Value.slice b L.length c').ownBlock = some k → k ≠ x) (i : Nat) (v : Value) : FDS g g2 g3 w s b c' L (W.setCell ⟨x, i, none⟩ v) :=
  ⟨⟨by have := h.k.1; simpa using this, fun j hj hlj => (heap_setCell_other _ _ j _ (show j ≠ x from Nat.ne_of_lt (Nat.lt_of_lt_of_le hlj hx))).trans (h.k.2.1 j hj hlj), h.k.2.2.1, h.k.2.2.2.1, h.k.2.2.2.2⟩, (heap_setCell_other _ _ g2 _ h2).trans h.r2, (heap_setCell_other _ _ g3 _ h3).trans h.r3, own_other h.o ho i v⟩
theorem FDS.own_lt {g g2 g3 : Nat} {w W : World} {s : Int} {b : Option Addr} {c' : Nat} {L : List (Int × Int)} (h : FDS g g2 g3 w s b c' L W) : ∀ k, (Value.slice b L.length c').ownBlock = some k → g3 + 1 ≤ k ∧ k < W.heap.size := OwnH.lt h.o
/-- a hammer more -/
theorem FDS.push {g g2 g3 : Nat} {w W V : World} {s : Int} {b b' : Option Addr} {c' c2 : Nat} {L : List (Int × Int)} {z : Int × Int} (h : FDS g g2 g3 w s b c' L W) (hg : g ≤ g3) (hw : w.heap.size ≤ g3) (h2 : g2 < g3) (hb : Below (g3 + 1) W V) (ho : OwnH V (g3 + 1) (.slice b' (L.length + 1) c2) (L ++ [z])) :
    FDS g g2 g3 w s b' c2 (L ++ [z]) (V.setCell ⟨g3, 1, none⟩ (.slice b' (L.length + 1) c2)) := by
  have r3 := (hb.block g3 (Nat.lt_succ_self _)).trans h.r3
  have hl : (L ++ [z]).length = L.length + 1 := by rw [List.length_append]; rfl
  have hgr := grown_set (grown_refl V (some g3)) rfl 1 (.slice b' (L.length + 1) c2)
  refine ⟨?_, ?_, ?_, ?_⟩
  · exact ⟨Nat.le_trans h.k.1 (by simpa using hb.size), fun j hj hlj => (heap_setCell_other _ _ j _ (show j ≠ g3 from Nat.ne_of_lt (Nat.lt_of_lt_of_le hlj hw))).trans ((hb.block j (Nat.lt_succ_of_lt (Nat.lt_of_lt_of_le hlj hw))).trans (h.k.2.1 j hj hlj)), hb.os.trans h.k.2.2.1, hb.tape.trans h.k.2.2.2.1, hb.output.trans h.k.2.2.2.2⟩
  · exact (heap_setCell_other _ _ g2 _ (show g2 ≠ g3 from Nat.ne_of_lt h2)).trans ((hb.block g2 (Nat.lt_succ_of_lt h2)).trans h.r2)
  · rw [hl]; exact heap_setCell_same V g3 1 _ _ _ r3
  · rw [hl]; exact own_grown ho hgr fun k e => by cases e; omega
set_option maxRecDepth 100000 in
set_option maxHeartbeats 1000000 in
theorem frameDrawn_any (g : Nat) (a : Option Addr) (n c : Nat) (B : Nat → Int) (K : Nat) (w : World) (hK : K ≤ 900000) (hn : n ≤ 1000000000000) (hs : SrcAt w g a n c B K) :
    Calls Try.prog 29 #[.pointer (some ⟨g, 0, none⟩)] w fun e w' => (∃ s b c' L, e = .returned (.agg #[.int .i16 s, .slice b L.length c']) ∧ (4 ≤ s ∧ s ≤ 17) ∧ (1 ≤ L.length ∧ L.length ≤ 5) ∧ HamD L ∧ OwnH w' w.heap.size (.slice b L.length c') L) ∧ SrcAt w' g a n c B (K + 100) ∧ KeepS g w w' := by
  have hgl := hs.lt
  have KB := kx_keep g w
  have HS := Lib.hid (hs.below ((Below.refl _ _).alloc (Nat.le_refl _) (.cells #[.int .i16 0, .slice none 0 0] 27)))
  clear hs
  replace KB := KB.alloc (.cells #[.int .i16 0, .slice none 0 0] 27)
  have K2 := kx_row (g := g) (heap_alloc_new w (.cells #[.int .i16 0, .slice none 0 0] 27)) (by omega)
  go_enter Try.func29, Try.ntmps29
  go_wp2_with fail
  generalize w.alloc (.cells #[.int .i16 0, .slice none 0 0] 27) = w1 at HS KB K2 ⊢
  refine (pick_any g a n c B K 14 w1 (by omega) hn (by omega) HS.out).mono ?_
  rintro e w2 ⟨⟨v1, rfl, hv1⟩, hs2, hk2⟩
  have hv1 := hv1.lt (by omega)
  have q1 := i64_id (x := 4 + v1) (by omega)
  have HS2 := Lib.hid hs2; clear hs2 HS
  replace KB := KB.on hk2
  replace K2 := K2.on hk2
  clear hk2
  go_wp2_with fail
  have K3 := kx_row (g := g) (heap_alloc_new w2 (.cells #[.int .i16 (4 + v1), .slice none 0 0] 27)) (by have := HS2.out.lt; omega)
  have HS3 := Lib.hid (HS2.out.below ((Below.refl _ _).alloc (Nat.le_refl _) (.cells #[.int .i16 (4 + v1), .slice none 0 0] 27)))
  have K2x := K2
  replace KB := KB.alloc (.cells #[.int .i16 (4 + v1), .slice none 0 0] 27)
  replace K2 := K2.alloc (.cells #[.int .i16 (4 + v1), .slice none 0 0] 27)
  have hg3 := HS2.out.lt
  have hg23 : w.heap.size < w2.heap.size := row_lt K2x.here
  clear HS2
  obtain ⟨g3, hg3e⟩ : ∃ g3, w2.heap.size = g3 := ⟨_, rfl⟩
  rw [hg3e] at K3 hg3 hg23 ⊢
  clear hg3e K2x
  generalize w2.alloc (.cells #[.int .i16 (4 + v1), .slice none 0 0] 27) = w3 at HS3 KB K2 K3 ⊢
  refine (pick_any g a n c B (K + 2) 5 w3 (by omega) hn (by omega) HS3.out).mono ?_
  rintro e w4 ⟨⟨v2, rfl, hv2⟩, hs4, hk4⟩
  have hv2 := hv2.lt (by omega)
  obtain ⟨m0, hm0⟩ : ∃ m0 : Nat, 1 + v2 = m0 := ⟨(1 + v2).toNat, by omega⟩
  have hm1 : 1 ≤ m0 ∧ m0 ≤ 5 := by omega
  have q2 := i64_id (x := 1 + v2) (by omega)
  rw [hm0] at q2
  replace KB := KB.on hk4
  replace K2 := K2.on hk4
  replace K3 := K3.on hk4
  have hfd0 : FDS g w.heap.size g3 w (4 + v1) none 0 [] w4 := ⟨KB.here, K2.here, K3.here, OwnL.none0 _ _⟩
  have HFD := Lib.hid hfd0; have HS4 := Lib.hid hs4
  clear hfd0 hs4 hk4 HS3 K2 K3 KB
  go_wp2
  go_loopw [4] (fun i W => ∃ (j : Nat) (L : List (Int × Int)) (b : Option Addr) (c' : Nat), i = .int .i64 j ∧ L.length + j = m0 ∧ HamD L ∧ FDS g w.heap.size g3 w (4 + v1) b c' L W ∧ SrcAt W g a n c B (K + 4 + 4 * L.length)) (fun i _ => (intOf i).toNat)
  case atStart => exact ⟨m0, [], none, 0, rfl, by simp, HamD.nil, HFD.out, HS4.out⟩
  case round =>
    clear HFD HS4
    obtain ⟨j, L, b, c', rfl, hj, hham, hfd, hsr⟩ := hrel
    have HH := Lib.hid hham; have KF := hfd.kx (by omega) hg3; have HS := Lib.hid hsr
    clear hham hfd hsr
    by_cases h0 : 0 < j
    · have h0' : (0 : Int) < j := by omega
      have q3 := i64_id (x := (j : Int) - 1) (by omega)
      go_wp2_with fail
      refine (pick_any g a n c B _ 4 wr (by omega) hn (by omega) HS.out).mono ?_
      rintro e w5 ⟨⟨v3, rfl, hv3⟩, hs5, hk5⟩
      have hv3 := hv3.lt (by omega)
      have q4 := i64_id (x := 22 + v3) (by omega)
      have HS5 := Lib.hid hs5
      replace KF := KF.on hk5
      clear hs5 hk5 HS
      have hoB := Lib.hid (fun k hk => Nat.ne_of_lt (KF.here.own_lt k hk).2)
      have K5 := kx_row (g := g) (heap_alloc_new w5 (.cells #[.int .i8 (22 + v3), .int .i8 0] 99)) (by have := HS5.out.lt; omega)
      have HS6 := Lib.hid (HS5.out.below ((Below.refl _ _).alloc (Nat.le_refl _) (.cells #[.int .i8 (22 + v3), .int .i8 0] 99)))
      have hg35 : g3 < w5.heap.size := row_lt KF.here.r3
      have hg5 := HS5.out.lt
      replace KF := KF.alloc (.cells #[.int .i8 (22 + v3), .int .i8 0] 99)
      go_wp2_with fail
      obtain ⟨g5, hg5e⟩ : ∃ g5, w5.heap.size = g5 := ⟨_, rfl⟩
      rw [hg5e] at K5 hg5 hg35 hoB ⊢
      clear hg5e HS5
      generalize w5.alloc (.cells #[.int .i8 (22 + v3), .int .i8 0] 99) = w6 at HS6 KF K5 ⊢
      refine (pick_any g a n c B _ 4 w6 (by omega) hn (by omega) HS6.out).mono ?_
      rintro e w7 ⟨⟨v4, rfl, hv4⟩, hs7, hk7⟩
      have hv4 := hv4.lt (by omega)
      have q5 := i64_id (x := 1 + v4) (by omega)
      replace KF := KF.on hk7
      replace K5 := K5.on hk7
      have HS7 := Lib.hid (hs7.stay ((Below.refl (g + 1) w7).setCell (p := ⟨g5, 1, none⟩) hg5 (.int .i8 (1 + v4))))
      have f5 := frozen_of_row w7 g5 1 _ _ K5.here
      have e5 := row_cell 1 K5.here
      have r5 := heap_setCell_same w7 g5 1 _ _ (.int .i8 (1 + v4)) K5.here
      have HF7 := Lib.hid (KF.here.other (x := g5) (by omega) (by omega) (by omega) hoB.out 1 (.int .i8 (1 + v4)))
      have c3 := row_cell 1 HF7.out.r3
      have d0 := row_cell 0 r5
      have d1 := row_cell 1 r5
      have hsz7 : g3 + 1 ≤ (w7.setCell ⟨g5, 1, none⟩ (.int .i8 (1 + v4))).heap.size := row_lt HF7.out.r3
      have HOA := Lib.hid (OwnH.alloc HF7.out.o (.cells #[.int .i8 (22 + v3), .int .i8 (1 + v4)] 99))
      have HFA := Lib.hid (show Below (g3 + 1) (w7.setCell ⟨g5, 1, none⟩ (.int .i8 (1 + v4))) ((w7.setCell ⟨g5, 1, none⟩ (.int .i8 (1 + v4))).alloc (.cells #[.int .i8 (22 + v3), .int .i8 (1 + v4)] 99)) from (Below.refl _ _).alloc hsz7 _)
      clear hs7 hk7 HS6 KF K5 r5
      have q3' := i64_id (x := (j : Int) - 1) (by omega)
      have HRA := Lib.hid (show ((w7.setCell ⟨g5, 1, none⟩ (.int .i8 (1 + v4))).alloc (.cells #[.int .i8 (22 + v3), .int .i8 (1 + v4)] 99)).heap[w7.heap.size]? = some (.cells (encH (22 + v3, 1 + v4)).toArray 99 (0, 0)) by
        have h := heap_alloc_new (w7.setCell ⟨g5, 1, none⟩ (.int .i8 (1 + v4))) (.cells #[.int .i8 (22 + v3), .int .i8 (1 + v4)] 99)
        rw [show (w7.setCell ⟨g5, 1, none⟩ (.int .i8 (1 + v4))).heap.size = w7.heap.size by simp] at h
        exact h)
      have HSZ := Lib.hid (show g3 + 1 ≤ ((w7.setCell ⟨g5, 1, none⟩ (.int .i8 (1 + v4))).alloc (.cells #[.int .i8 (22 + v3), .int .i8 (1 + v4)] 99)).heap.size from Nat.le_trans hsz7 (by simp))
      have HLL := Lib.hid (show L.length + 1 ≤ 10000000 by omega)
      go_wp2_with (at_builtin; refine append_hammers rfl _ _ rfl (g3 + 1) _ L rfl HOA.out ⟨w7.heap.size, 0, none⟩ 1 1 [(22 + v3, 1 + v4)] rfl rfl (one_cells (enc := encH) HRA.out) HLL.out HSZ.out ?_; intro v9 w9 hown9 hb9; obtain ⟨b9, c9, hv9⟩ := OwnL.form hown9; subst hv9; have hb9' := HFA.out.trans hb9; rw [show (L ++ [(22 + v3, 1 + v4)]).length = L.length + 1 by rw [List.length_append]; rfl] at hown9 ⊢; have r39 := (hb9'.block g3 (Nat.lt_succ_self _)).trans HF7.out.r3; have f39 := frozen_of_row w9 g3 1 _ _ r39; have e39 := row_cell 1 r39; have HF9 := Lib.hid (HF7.out.push (Nat.le_of_lt hg3) (Nat.le_of_lt hg23) hg23 hb9' hown9); have HS9 := Lib.hid ((HS7.out.stay (hb9'.mono (Nat.succ_le_succ (Nat.le_of_lt hg3)))).stay ((Below.refl (g + 1) w9).setCell (p := ⟨g3, 1, none⟩) hg3 (.slice b9 (L.length + 1) c9))); clear r39 hown9 hb9 hb9')
      go_roundw
      case rel => exact ⟨j - 1, L ++ [(22 + v3, 1 + v4)], b9, c9, by rw [show ((j - 1 : Nat) : Int) = (j : Int) - 1 by omega], by rw [List.length_append]; simp; omega, HH.out.snoc (by omega) (by omega), HF9.out, HS9.out.more (by rw [List.length_append]; simp; omega)⟩
      case measure => simp [intOf]; omega
    · have hj0 : j = 0 := by omega
      subst hj0
      have r3 := KF.here.r3
      have r2 := KF.here.r2
      have c3 := row_cell 0 r3
      have c4 := row_cell 1 r3
      have HKF := Lib.hid KF.here
      clear h0 KF
      go_wp2_with (first | (with_reducible refine load_iframe rfl _ rfl g3 rfl _ (4 + v1) b L.length c' r3 ?_) | (with_reducible refine store_frameS rfl _ _ rfl w.heap.size (4 + v1) (.slice b L.length c') rfl rfl rfl _ 0 (.slice none 0 0) r2 ?_) | fail)
      have hbs : Below w.heap.size wr (wr.setRow w.heap.size #[.int .i16 (4 + v1), .slice b L.length c']) := below_setRow (Below.refl _ _) (Nat.le_refl _) _
      refine bodyPost_ret (results_frame1 rfl _ _ w.heap.size _ (4 + v1) (.slice b L.length c') rfl (setRow_heap _ _ _ _ _ _ r2)) rfl ⟨⟨4 + v1, b, c', L, rfl, by omega, by omega, HH.out, ?_⟩, (HS.out.stay (hbs.mono hgl)).more (by omega), HKF.out.k.trans' hbs⟩
      exact OwnH.mono (own_grown HKF.out.o (grown_setRowS wr w.heap.size _) fun k e => by cases e; omega) (by omega)
set_option maxRecDepth 100000 in
theorem drawFrame_22_any (a : Option Addr) (n c : Nat) (B : Nat → Int) (w : World) (hn : n ≤ 1000000000000) (hu : U8 B) (hb : BytIn w w.heap.size a n B) :
    Calls Try.prog 22 #[.slice a n c] w fun e w' => (∃ s b c' L, e = .returned (.agg #[.int .i16 s, .slice b L.length c']) ∧ (4 ≤ s ∧ s ≤ 17) ∧ (1 ≤ L.length ∧ L.length ≤ 5) ∧ HamD L ∧ OwnH w' w.heap.size (.slice b L.length c') L) ∧ Below w.heap.size w w' := by
  have hb1 := Lib.hid ((Below.refl w.heap.size w).alloc (Nat.le_refl _) (.cells #[.int .i16 0, .slice none 0 0] 27))
  have K2 := kp_new w #[.int .i16 0, .slice none 0 0] 27
  have hb2 := Lib.hid (show BytIn (w.alloc (.cells #[.int .i16 0, .slice none 0 0] 27)) (w.alloc (.cells #[.int .i16 0, .slice none 0 0] 27)).heap.size a n B from fun h => by
    obtain ⟨ad, e, h1, h2⟩ := (hb.below hb1.out) h
    exact ⟨ad, e, Nat.lt_of_lt_of_le h1 hb1.out.size, h2⟩)
  have hsz : w.heap.size < (w.alloc (.cells #[.int .i16 0, .slice none 0 0] 27)).heap.size := by simp
  clear hb
  go_enter Try.func22, Try.ntmps22
  go_wp2_with fail
  generalize w.alloc (.cells #[.int .i16 0, .slice none 0 0] 27) = w1 at hb1 hb2 K2 hsz ⊢
  refine (l00From_any a n c B w1 hu hb2.out).mono ?_
  rintro e w2 ⟨rfl, hs2, hbw2⟩
  have HS2 := Lib.hid hs2
  replace K2 := K2.on hbw2
  have hb3 := Lib.hid (hb1.out.trans (hbw2.mono hb1.out.size))
  clear hs2 hbw2 hb2 hb1
  go_wp2_with fail
  refine (frameDrawn_any w1.heap.size a n c B 0 w2 (by omega) hn HS2.out).mono ?_
  rintro e w3 ⟨⟨s, b, c', L, rfl, hs1, hl1, hd, ho⟩, hs3, hk3⟩
  have r2 := hk3.row K2.here (by omega)
  have HO := Lib.hid ho; have HD := Lib.hid hd
  have hb4 := Lib.hid (hb3.out.trans (hk3.below (Nat.le_of_lt hsz) hb3.out.size))
  have hsz2 := hb3.out.size
  have HG2 := Lib.hid (row_lt K2.here)
  clear ho hd hs3 hk3 hb3 HS2 K2
  go_wp2_with (with_reducible refine store_frameS rfl _ _ rfl w.heap.size s (.slice b L.length c') rfl rfl rfl _ 0 (.slice none 0 0) r2 ?_)
  refine bodyPost_ret (results_frame1 rfl _ _ w.heap.size _ s (.slice b L.length c') rfl (setRow_heap _ _ _ _ _ _ r2)) rfl ⟨⟨s, b, c', L, rfl, hs1, hl1, HD.out, ?_⟩, below_setRow hb4.out (Nat.le_refl _) _⟩
  have hgw2 : w.heap.size < w2.heap.size := HG2.out
  exact OwnH.mono (own_grown HO.out (grown_setRowS w3 w.heap.size _) fun k e => by cases e; exact hgw2) (by omega)
set_option maxRecDepth 100000 in
theorem drawFrame_6_any (a : Option Addr) (n c : Nat) (B : Nat → Int) (w : World) (hn : n ≤ 1000000000000) (hu : U8 B) (hb : BytIn w w.heap.size a n B) :
    Calls Try.prog 6 #[.slice a n c] w fun e w' => (∃ s b c' L, e = .returned (.agg #[.int .i16 s, .slice b L.length c']) ∧ (4 ≤ s ∧ s ≤ 17) ∧ (1 ≤ L.length ∧ L.length ≤ 5) ∧ HamD L ∧ OwnH w' w.heap.size (.slice b L.length c') L) ∧ Below w.heap.size w w' := by
  have hb1 := Lib.hid ((Below.refl w.heap.size w).alloc (Nat.le_refl _) (.cells #[.int .i16 0, .slice none 0 0] 27))
  have K2 := kp_new w #[.int .i16 0, .slice none 0 0] 27
  have hb2 := Lib.hid (show BytIn (w.alloc (.cells #[.int .i16 0, .slice none 0 0] 27)) (w.alloc (.cells #[.int .i16 0, .slice none 0 0] 27)).heap.size a n B from fun h => by
    obtain ⟨ad, e, h1, h2⟩ := (hb.below hb1.out) h
    exact ⟨ad, e, Nat.lt_of_lt_of_le h1 hb1.out.size, h2⟩)
  have hsz : w.heap.size < (w.alloc (.cells #[.int .i16 0, .slice none 0 0] 27)).heap.size := by simp
  clear hb
  go_enter Try.func6, Try.ntmps6
  go_wp2_with fail
  generalize w.alloc (.cells #[.int .i16 0, .slice none 0 0] 27) = w1 at hb1 hb2 K2 hsz ⊢
  refine (l00From_any a n c B w1 hu hb2.out).mono ?_
  rintro e w2 ⟨rfl, hs2, hbw2⟩
  have HS2 := Lib.hid hs2
  replace K2 := K2.on hbw2
  have hb3 := Lib.hid (hb1.out.trans (hbw2.mono hb1.out.size))
  clear hs2 hbw2 hb2 hb1
  go_wp2_with fail
  refine (frameDrawn_any w1.heap.size a n c B 0 w2 (by omega) hn HS2.out).mono ?_
  rintro e w3 ⟨⟨s, b, c', L, rfl, hs1, hl1, hd, ho⟩, hs3, hk3⟩
  have r2 := hk3.row K2.here (by omega)
  have HO := Lib.hid ho; have HD := Lib.hid hd
  have hb4 := Lib.hid (hb3.out.trans (hk3.below (Nat.le_of_lt hsz) hb3.out.size))
  have hsz2 := hb3.out.size
  have HG2 := Lib.hid (row_lt K2.here)
  clear ho hd hs3 hk3 hb3 HS2 K2
  go_wp2_with (with_reducible refine store_frameS rfl _ _ rfl w.heap.size s (.slice b L.length c') rfl rfl rfl _ 0 (.slice none 0 0) r2 ?_)
  refine bodyPost_ret (results_frame1 rfl _ _ w.heap.size _ s (.slice b L.length c') rfl (setRow_heap _ _ _ _ _ _ r2)) rfl ⟨⟨s, b, c', L, rfl, hs1, hl1, HD.out, ?_⟩, below_setRow hb4.out (Nat.le_refl _) _⟩
  have hgw2 : w.heap.size < w2.heap.size := HG2.out
  exact OwnH.mono (own_grown HO.out (grown_setRowS w3 w.heap.size _) fun k e => by cases e; exact hgw2) (by omega)
end Go.Proofs.Ytlcfjeofphncgaa
namespace Go.Proofs.Ytlcfjeofphncgaa
open Go.RowKit
set_option linter.unusedVariables false
set_option linter.unusedSimpArgs false

/-- numbers of 16 bits -/
def I16 (P : Nat → Int) : Prop := ∀ i, -32768 ≤ P i ∧ P i ≤ 32767

/-- a slice at the address a reads as n sections -/
def SecAt (w : World) (a : Option Addr) (n : Nat) (P R : Nat → Int) : Prop :=
  0 < n → ∃ g off, a = some ⟨g, off, none⟩ ∧ g < w.heap.size ∧
    ∀ i, i < n → w.cell? ⟨g, off + i * 2, none⟩ = some (.int .i16 (P i)) ∧ w.cell? ⟨g, off + i * 2 + 1, none⟩ = some (.int .i16 (R i))
theorem SecAt.get {w : World} {a : Option Addr} {n : Nat} {P R : Nat → Int} (h : SecAt w a n P R) (hn : 0 < n) : ∃ g off, a = some ⟨g, off, none⟩ ∧ g < w.heap.size ∧
    ∀ i, i < n → w.cell? ⟨g, off + i * 2, none⟩ = some (.int .i16 (P i)) ∧ w.cell? ⟨g, off + i * 2 + 1, none⟩ = some (.int .i16 (R i)) := h hn
theorem SecAt.below {w w' : World} {a : Option Addr} {n : Nat} {P R : Nat → Int} (h : SecAt w a n P R) (hb : Below w.heap.size w w') : SecAt w' a n P R := by
  intro hn
  obtain ⟨g, off, rfl, hg, hc⟩ := h hn
  refine ⟨g, off, rfl, Nat.lt_of_lt_of_le hg hb.size, fun i hi => ?_⟩
  rw [hb.cell (p := ⟨g, off + i * 2, none⟩) hg, hb.cell (p := ⟨g, off + i * 2 + 1, none⟩) hg]
  exact hc i hi




/-- a slice that came in, at the address a, reads as n sections -/
def SecIn (w : World) (a : Option Addr) (n : Nat) (P R : Nat → Int) : Prop :=
  0 < n → ∃ ad, a = some ad ∧ ad.block < w.heap.size ∧
    ∀ i, i < n → w.cell? (ad.add (i * 2)) = some (.int .i16 (P i)) ∧ w.cell? ⟨(ad.add (i * 2)).block, (ad.add (i * 2)).off + 1, none⟩ = some (.int .i16 (R i))

theorem SecIn.get {w : World} {a : Option Addr} {n : Nat} {P R : Nat → Int} (h : SecIn w a n P R) (hn : 0 < n) : ∃ ad, a = some ad ∧ ad.block < w.heap.size ∧
    ∀ i, i < n → w.cell? (ad.add (i * 2)) = some (.int .i16 (P i)) ∧ w.cell? ⟨(ad.add (i * 2)).block, (ad.add (i * 2)).off + 1, none⟩ = some (.int .i16 (R i)) := h hn
theorem SecIn.below {w w' : World} {a : Option Addr} {n : Nat} {P R : Nat → Int} (h : SecIn w a n P R) (hb : Below w.heap.size w w') : SecIn w' a n P R := by
  intro hn
  obtain ⟨ad, rfl, hg, hc⟩ := h hn
  refine ⟨ad, rfl, Nat.lt_of_lt_of_le hg hb.size, fun i hi => ?_⟩
  rw [hb.cell (p := ad.add (i * 2)) (by rw [add_block]; exact hg), hb.cell (p := ⟨(ad.add (i * 2)).block, (ad.add (i * 2)).off + 1, none⟩) (by rw [add_block]; exact hg)]
  exact hc i hi
/-- a block bears n sections -/
def SecF (n : Nat) (P R : Nat → Int) (f : Nat → Value) : Prop := ∀ i, i < n → f (i * 2) = .int .i16 (P i) ∧ f (i * 2 + 1) = .int .i16 (R i)
theorem SecF.at {w : World} {T g n : Nat} {P R : Nat → Int} {f : Nat → Value} (h : SecF n P R f) (hb : BlkAt w T g (n * 2) f) : SecAt w (some ⟨g, 0, none⟩) n P R := fun _ =>
  ⟨g, 0, rfl, hb.lt, fun i hi => by
    rw [Nat.zero_add, hb.cell (i * 2) (by omega), hb.cell (i * 2 + 1) (by omega), (h i hi).1, (h i hi).2]
    exact ⟨rfl, rfl⟩⟩
theorem infoSection : (Try.prog.info? 56).map (fun i => (i.zero, i.size, i.bytes)) = some (some (.agg #[.int .i16 0, .int .i16 0]), 2, 4) := by kernel_rfl

theorem SecF.step {k : Nat} {P R : Nat → Int} {f : Nat → Value} (h : SecF k P R f) : SecF (k + 1) P R (updV (updV f (k * 2) (.int .i16 (P k))) (k * 2 + 1) (.int .i16 (R k))) := by
  intro i hi
  by_cases e : i = k
  · subst e
    rw [updV_other _ _ _ (by omega), updV_same, updV_same]
    exact ⟨rfl, rfl⟩
  · rw [updV_other _ _ _ (by omega), updV_other _ _ _ (by omega), updV_other _ _ _ (by omega), updV_other _ _ _ (by omega)]
    exact h i (by omega)


theorem kp_secIn {w : World} {a : Option Addr} {n : Nat} {F S : Nat → Int} (h : SecIn w a n F S) : Kp w (fun V => SecIn V a n F S) := Kp.mk fun _ hb => h.below hb
theorem kp_sec {w : World} {a : Option Addr} {n : Nat} {F S : Nat → Int} (h : SecAt w a n F S) : Kp w (fun V => SecAt V a n F S) := Kp.mk fun _ hb => h.below hb
end Go.Proofs.Ytlcfjeofphncgaa
namespace Go.Proofs.Ytlcfjeofphncgaa
open Go.RowKit
set_option linter.unusedVariables false
set_option linter.unusedSimpArgs false

/-- the 48 cells of an order -/
def oc (O : Nat → Int) : Array Value := Array.ofFn (n := 48) fun i => .int .i8 (O i.val)
theorem oc_size (O : Nat → Int) : (oc O).size = 48 := by simp [oc]
theorem oc_get (O : Nat → Int) (k : Nat) (h : k < 48) : (oc O)[k]? = some (.int .i8 (O k)) := by simp [oc, h]
theorem oc_one (O : Nat → Int) : (oc O).all (·.oneCell') = true := by
  rw [Array.all_eq_true]; intro i h; simp [oc, Value.oneCell']
theorem oc_congr {O Q : Nat → Int} (h : ∀ k, k < 48 → O k = Q k) : oc O = oc Q := by
  unfold oc; congr 1; funext i; rw [h i.val i.isLt]
theorem oc_zero : oc (fun _ => 0) = Array.replicate 48 (Value.int .i8 0) := by
  apply Array.ext
  · simp [oc]
  · intro i h1 h2; simp [oc]
/-- the 49 cells of a programme -/
def pc (a : Option Addr) (n c : Nat) (O : Nat → Int) : Array Value := #[.slice a n c] ++ oc O
theorem pc_size (a : Option Addr) (n c : Nat) (O : Nat → Int) : (pc a n c O).size = 49 := by simp [pc, oc_size]
theorem pc_get0 (a : Option Addr) (n c : Nat) (O : Nat → Int) : (pc a n c O)[0]? = some (.slice a n c) := by
  unfold pc; rw [Array.getElem?_append_left (by simp)]; rfl
theorem pc_get (a : Option Addr) (n c : Nat) (O : Nat → Int) (k : Nat) (h : k < 48) : (pc a n c O)[1 + k]? = some (.int .i8 (O k)) := by
  unfold pc; rw [Array.getElem?_append_right (by simp)]; simp [oc_get O k h]
theorem pc_one (a : Option Addr) (n c : Nat) (O : Nat → Int) : (pc a n c O).all (·.oneCell') = true := by
  unfold pc; rw [Array.all_append, oc_one]; simp [Value.oneCell']
theorem pc_zero : pc none 0 0 (fun _ => 0) = #[.slice none 0 0] ++ Array.replicate 48 (Value.int .i8 0) := by unfold pc; rw [oc_zero]
def updI (O : Nat → Int) (k : Nat) (v : Int) : Nat → Int := fun j => if j = k then v else O j
theorem oc_set (O : Nat → Int) (k : Nat) (v : Int) (h : k < 48) : (oc O).setIfInBounds k (.int .i8 v) = oc (updI O k v) := by
  apply Array.ext
  · simp [oc]
  · intro i h1 h2
    have hi : i < 48 := by simpa [oc] using h2
    rw [Array.getElem_setIfInBounds (by simpa [oc] using hi)]
    by_cases e : k = i
    · subst e; simp [oc, updI]
    · rw [if_neg e]; simp [oc, updI, Ne.symm e]
attribute [irreducible] oc pc
theorem und_ord : Try.prog.underlying 49 = some (.array 48 48) := by kernel_rfl
theorem size_ord : (Try.prog.info? 49).map (·.size) = some 48 := by kernel_rfl
theorem zero_ord (w : World) : (zeroValue 49).run Try.prog w = .ok (.agg (Array.replicate 48 (.int .i8 0))) w := by kernel_rfl
theorem size_iprog : (Try.prog.info? 51).map (·.size) = some 49 := by kernel_rfl
theorem zero_iprog (w : World) : (zeroValue 51).run Try.prog w = .ok (.agg (#[.slice none 0 0] ++ Array.replicate 48 (.int .i8 0))) w := by kernel_rfl
section
variable {ops : Array Oper} {rest : List Oper} {o : Oper} {a : Act} {w W : World} {Q : Exit → Act → World → Prop}
theorem ex_load_iprog (x : Operand) (ho : o.op = .load 51 x) (g : Nat) (hx : a.eval x = .pointer (some ⟨g, 0, none⟩)) (T : Nat) (b : Option Addr) (n c : Nat) (O : Nat → Int)
    (hg : W.heap[g]? = some (.cells (pc b n c O) T (0, 0))) : (execOp a.eval o).run Try.prog W = .ok (.value (.agg (pc b n c O))) W := by
  unfold execOp; simp only [ho, hx, Instr.loadAt, Instr.sureAddr, Sem.run_bind, Sem.run_pure, Result.andThen_ok, run_loadVar_row W g T 51 _ (0, 0) _ hg Try.underlying51 rfl (by rw [pc_size]; exact size_iprog)]
theorem load_iprog (hgd : o.guard = none) (x : Operand) (ho : o.op = .load 51 x) (g : Nat) (hx : a.eval x = .pointer (some ⟨g, 0, none⟩)) (T : Nat) (b : Option Addr) (n c : Nat) (O : Nat → Int)
    (hg : w.heap[g]? = some (.cells (pc b n c O) T (0, 0))) (h : wpList Try.prog ops Q rest (a.put o.dst (.agg (pc b n c O))) w) : wpList Try.prog ops Q (o :: rest) a w :=
  wpList_load_row hgd _ x ho g hx T _ (0, 0) _ hg Try.underlying51 rfl (by rw [pc_size]; exact size_iprog) h
theorem load_ord (hgd : o.guard = none) (x : Operand) (ho : o.op = .load 49 x) (g : Nat) (hx : a.eval x = .pointer (some ⟨g, 0, none⟩)) (T : Nat) (O : Nat → Int)
    (hg : w.heap[g]? = some (.cells (oc O) T (0, 0))) (h : wpList Try.prog ops Q rest (a.put o.dst (.agg (oc O))) w) : wpList Try.prog ops Q (o :: rest) a w :=
  wpList_load_row hgd _ x ho g hx T _ (0, 0) _ hg und_ord rfl (by rw [oc_size]; exact size_ord) h
/-- the order of a programme is read -/
theorem load_ord_mid (hgd : o.guard = none) (x : Operand) (ho : o.op = .load 49 x) (g : Nat) (hx : a.eval x = .pointer (some ⟨g, 1, none⟩)) (T : Nat) (b : Option Addr) (n c : Nat) (O : Nat → Int)
    (hg : w.heap[g]? = some (.cells (pc b n c O) T (0, 0))) (h : wpList Try.prog ops Q rest (a.put o.dst (.agg (oc O))) w) : wpList Try.prog ops Q (o :: rest) a w := by
  refine wpList_load_mid hgd _ x ho g 1 hx (oc O).toList _ (fun j v hv => ?_) und_ord rfl (by rw [Array.length_toList, oc_size]; exact size_ord) (by simpa using h)
  have hj : j < 48 := by have := (List.getElem?_eq_some_iff.1 hv).1; simpa [oc_size] using this
  have e : (oc O)[j]? = some v := by simpa using hv
  rw [oc_get O j hj] at e
  rw [cell_of_row w g (1 + j) _ _ _ hg, pc_get _ _ _ _ j hj, e]
theorem alloc_ord (hgd : o.guard = none) (ho : o.op = .alloc 49)
    (h : wpList Try.prog ops Q rest (a.put o.dst (.pointer (some ⟨w.heap.size, 0, none⟩))) (w.alloc (.cells (oc fun _ => 0) 49))) : wpList Try.prog ops Q (o :: rest) a w :=
  alloc_row hgd _ ho _ (by rw [oc_zero]; exact zero_ord w) h
theorem alloc_iprog (hgd : o.guard = none) (ho : o.op = .alloc 51)
    (h : wpList Try.prog ops Q rest (a.put o.dst (.pointer (some ⟨w.heap.size, 0, none⟩))) (w.alloc (.cells (pc none 0 0 fun _ => 0) 51))) : wpList Try.prog ops Q (o :: rest) a w :=
  alloc_row hgd _ ho _ (by rw [pc_zero]; exact zero_iprog w) h
theorem store_ord (hgd : o.guard = none) (x y : Operand) (ho : o.op = .store 49 x y) (g : Nat) (E : Nat → Int) (hx : a.eval x = .pointer (some ⟨g, 0, none⟩)) (hy : a.eval y = .agg (oc E)) (T : Nat) (D : Nat → Int) (hg : w.heap[g]? = some (.cells (oc D) T (0, 0)))
    (h : wpList Try.prog ops Q rest (a.put o.dst undef) (w.setRow g (oc E))) : wpList Try.prog ops Q (o :: rest) a w :=
  wpList_store_row hgd _ x y ho g (oc E) hx hy T (oc D) hg (by rw [oc_size]; exact size_ord) (by rw [oc_size, oc_size]) (oc_one E) h
theorem store_iprog (hgd : o.guard = none) (x y : Operand) (ho : o.op = .store 51 x y) (g : Nat) (b : Option Addr) (n c : Nat) (E : Nat → Int) (hx : a.eval x = .pointer (some ⟨g, 0, none⟩)) (hy : a.eval y = .agg (pc b n c E)) (T : Nat) (b' : Option Addr) (n' c' : Nat) (D : Nat → Int) (hg : w.heap[g]? = some (.cells (pc b' n' c' D) T (0, 0)))
    (h : wpList Try.prog ops Q rest (a.put o.dst undef) (w.setRow g (pc b n c E))) : wpList Try.prog ops Q (o :: rest) a w :=
  wpList_store_row hgd _ x y ho g (pc b n c E) hx hy T (pc b' n' c' D) hg (by rw [pc_size]; exact size_iprog) (by rw [pc_size, pc_size]) (pc_one _ _ _ _) h
/-- a copy of a programme is laid: what the world is then -/
theorem copy_prog {o2 o3 : Oper} (hg2 : o2.guard = none) (hg3 : o3.guard = none) (h2 : o2.op = .alloc 51) (x y : Operand) (h3 : o3.op = .store 51 x y) (b : Option Addr) (n c : Nat) (E : Nat → Int)
    (hx : (a.put o2.dst (.pointer (some ⟨w.heap.size, 0, none⟩))).eval x = .pointer (some ⟨w.heap.size, 0, none⟩)) (hy : (a.put o2.dst (.pointer (some ⟨w.heap.size, 0, none⟩))).eval y = .agg (pc b n c E))
    (h : ∀ W, Below w.heap.size w W → W.heap.size = w.heap.size + 1 → W.heap[w.heap.size]? = some (.cells (pc b n c E) 51 (0, 0)) → wpList Try.prog ops Q rest ((a.put o2.dst (.pointer (some ⟨w.heap.size, 0, none⟩))).put o3.dst undef) W) :
    wpList Try.prog ops Q (o2 :: o3 :: rest) a w := by
  refine alloc_iprog hg2 h2 (store_iprog hg3 x y h3 w.heap.size b n c E hx hy _ _ _ _ _ (heap_alloc_new w _) ?_)
  exact h _ (below_setRow ((Below.refl _ _).alloc (Nat.le_refl _) _) (Nat.le_refl _) _) (by simp) (setRow_heap _ _ _ _ _ _ (heap_alloc_new w _))
/-- the order of a programme is written -/
theorem store_ord_mid (hgd : o.guard = none) (x y : Operand) (ho : o.op = .store 49 x y) (g : Nat) (E : Nat → Int) (hx : a.eval x = .pointer (some ⟨g, 1, none⟩)) (hy : a.eval y = .agg (oc E)) (T : Nat) (b : Option Addr) (n c : Nat) (D : Nat → Int) (hg : w.heap[g]? = some (.cells (pc b n c D) T (0, 0)))
    (h : wpList Try.prog ops Q rest (a.put o.dst undef) (w.setRow g (pc b n c E))) : wpList Try.prog ops Q (o :: rest) a w := by
  have hr := run_storeCells_at (P := Try.prog) g 1 T (oc E).toList 0 (pc b n c D) w hg (by rw [Array.length_toList, oc_size, pc_size]; omega) (fun v hv => (Array.all_eq_true_iff_forall_mem.1 (oc_one E)) v (by simpa using hv))
  have e : ((pc b n c D).toList.take (1 + 0) ++ (oc E).toList ++ (pc b n c D).toList.drop (1 + 0 + (oc E).toList.length)).toArray = pc b n c E := by
    have h1 : (pc b n c D).toList = .slice b n c :: (oc D).toList := by unfold pc; simp
    have h2 : (oc E).toList.length = 48 := by rw [Array.length_toList, oc_size]
    have h3 : (oc D).toList.length = 48 := by rw [Array.length_toList, oc_size]
    rw [h1, h2]
    simp only [Nat.add_zero, List.take_succ_cons, List.take_zero, List.drop_succ_cons, show 1 + 48 = 48 + 1 from rfl]
    rw [List.drop_eq_nil_of_le (by omega), List.append_nil]
    unfold pc
    simp
  rw [e] at hr
  have hs : (sizeOf 49).run Try.prog w = .ok 48 w := by kernel_rfl
  refine wpList_plain hgd fun K hK => ?_
  unfold Oper.wp execOp
  have hz : (oc E).size = 48 := oc_size E
  simp only [ho, hx, hy, Instr.storeAt, Instr.sureAddr, Sem.run_bind, Sem.run_pure, Result.andThen_ok, storeVar, Value.cells, hs, hz, ne_eq, not_true_eq_false, if_false, hr]
  exact hK _ _ h
end
theorem pc_set0 (b b' : Option Addr) (n c n' c' : Nat) (D : Nat → Int) : (pc b' n' c' D).setIfInBounds 0 (.slice b n c) = pc b n c D := by
  unfold pc
  apply Array.ext_getElem?
  intro i
  rw [Array.getElem?_setIfInBounds]
  by_cases h : i = 0
  · subst h; rw [if_pos rfl, if_pos (by simp; omega), Array.getElem?_append_left (by simp)]; rfl
  · rw [if_neg (by omega), Array.getElem?_append_right (by simp; omega), Array.getElem?_append_right (by simp; omega)]
    rfl
/-- the first k are of the one, the others of the other -/
def mixI (F D : Nat → Int) (k : Nat) : Nat → Int := fun j => if j < k then F j else D j
theorem mixI_zero (F D : Nat → Int) : mixI F D 0 = D := by funext j; simp [mixI]
theorem mixI_upd (F D : Nat → Int) (k : Nat) : updI (mixI F D k) k (F k) = mixI F D (k + 1) := by
  funext j
  unfold updI mixI
  by_cases e : j = k
  · subst e; rw [if_pos rfl, if_pos (by omega)]
  · rw [if_neg e]
    by_cases h : j < k
    · rw [if_pos h, if_pos (by omega)]
    · rw [if_neg h, if_neg (by omega)]
theorem mixI_full (F D : Nat → Int) : oc (mixI F D 48) = oc F := oc_congr fun k hk => by unfold mixI; rw [if_pos hk]
theorem mixI_at (F D : Nat → Int) (k : Nat) : mixI F D k k = D k := by simp [mixI]
end Go.Proofs.Ytlcfjeofphncgaa
namespace Go.Proofs.Ytlcfjeofphncgaa
open Go.RowKit
set_option linter.unusedVariables false
set_option linter.unusedSimpArgs false

/-- where the first k sections end -/
def endTo (F S : Nat → Int) : Nat → Int
  | 0 => 0
  | k + 1 => F k + S k
theorem endTo_zero (F S : Nat → Int) : endTo F S 0 = 0 := rfl
theorem endTo_succ (F S : Nat → Int) (k : Nat) : endTo F S (k + 1) = F k + S k := rfl
theorem endTo_bound {F S : Nat → Int} (hF : I16 F) (hS : I16 S) (k : Nat) : -65536 ≤ endTo F S k ∧ endTo F S k ≤ 65536 := by
  cases k with
  | zero => rw [endTo_zero]; omega
  | succ k => rw [endTo_succ]; have := hF k; have := hS k; omega
attribute [irreducible] endTo
/-- m sections lie one behind the other on s steps -/
def vSecs (s : Int) (m : Nat) (F S : Nat → Int) : Bool := decide (m ≤ 12) && (List.range m).all fun k => decide (endTo F S k ≤ F k ∧ F k < s ∧ 1 ≤ S k ∧ F k + S k ≤ s)
theorem vSecs_iff {s : Int} {m : Nat} {F S : Nat → Int} : vSecs s m F S = true ↔ m ≤ 12 ∧ ∀ k, k < m → endTo F S k ≤ F k ∧ F k < s ∧ 1 ≤ S k ∧ F k + S k ≤ s := by
  simp only [vSecs, Bool.and_eq_true, decide_eq_true_eq, List.all_eq_true, List.mem_range]
theorem vSecs_false {s : Int} {m : Nat} {F S : Nat → Int} (h : ¬ (m ≤ 12 ∧ ∀ k, k < m → endTo F S k ≤ F k ∧ F k < s ∧ 1 ≤ S k ∧ F k + S k ≤ s)) : vSecs s m F S = false := by
  rw [← Bool.not_eq_true, vSecs_iff]; exact h
theorem vSecs_end {s : Int} {m : Nat} {F S : Nat → Int} (hs : 0 ≤ s) (h : ∀ k, k < m → endTo F S k ≤ F k ∧ F k < s ∧ 1 ≤ S k) (he : endTo F S m ≤ s) : ∀ k, k < m → endTo F S k ≤ F k ∧ F k < s ∧ 1 ≤ S k ∧ F k + S k ≤ s := fun k hk => by
  obtain ⟨h1, h2, h3⟩ := h k hk
  refine ⟨h1, h2, h3, ?_⟩
  by_cases hk1 : k + 1 < m
  · have := (h (k + 1) hk1).1
    have := (h (k + 1) hk1).2.1
    rw [endTo_succ] at *
    omega
  · have : m = k + 1 := by omega
    subst this
    rw [endTo_succ] at he
    exact he
/-- an order names sections below m, or -1 -/
def vOrd (m : Nat) (O : Nat → Int) : Bool := (List.range 48).all fun k => decide (-1 ≤ O k ∧ O k ≤ (m : Int) - 1)
theorem vOrd_iff {m : Nat} {O : Nat → Int} : vOrd m O = true ↔ ∀ k, k < 48 → -1 ≤ O k ∧ O k ≤ (m : Int) - 1 := by
  simp only [vOrd, List.all_eq_true, decide_eq_true_eq, List.mem_range]
theorem vOrd_false {m : Nat} {O : Nat → Int} (k : Nat) (hk : k < 48) (h : ¬ (-1 ≤ O k ∧ O k ≤ (m : Int) - 1)) : vOrd m O = false := by
  rw [← Bool.not_eq_true, vOrd_iff]; exact fun H => h (H k hk)
attribute [irreducible] vSecs vOrd
/-- a programme is valid for a frame -/
def vProg (s : Int) (n : Nat) (P R : Nat → Int) (m : Nat) (F S O : Nat → Int) : Bool := vFrame s n P R && (vSecs s m F S && vOrd m O)
theorem vProg_iff {s : Int} {n : Nat} {P R : Nat → Int} {m : Nat} {F S O : Nat → Int} : vProg s n P R m F S O = true ↔ vFrame s n P R = true ∧ vSecs s m F S = true ∧ vOrd m O = true := by
  simp only [vProg, Bool.and_eq_true]
theorem vProg_f1 {s : Int} {n : Nat} {P R : Nat → Int} {m : Nat} {F S O : Nat → Int} (h : vFrame s n P R = false) : vProg s n P R m F S O = false := by simp [vProg, h]
theorem vProg_f2 {s : Int} {n : Nat} {P R : Nat → Int} {m : Nat} {F S O : Nat → Int} (h : vSecs s m F S = false) : vProg s n P R m F S O = false := by simp [vProg, h]
theorem vProg_f3 {s : Int} {n : Nat} {P R : Nat → Int} {m : Nat} {F S O : Nat → Int} (h : vOrd m O = false) : vProg s n P R m F S O = false := by simp [vProg, h]
attribute [irreducible] vProg

set_option maxRecDepth 100000 in
set_option maxHeartbeats 1000000 in
theorem l04Ok_any (gf gp : Nat) (s : Int) (a : Option Addr) (n c : Nat) (P R : Nat → Int) (b : Option Addr) (m d : Nat) (F S O : Nat → Int) (w : World) (hs : -32768 ≤ s ∧ s ≤ 32767) (hn : n ≤ 1048576) (hP : I8 P) (hR : I8 R) (hf : w.heap[gf]? = some (.cells #[.int .i16 s, .slice a n c] 27 (0, 0))) (hh : HamAt w a n P R)
    (hm : m ≤ 1048576) (hF : I16 F) (hS : I16 S) (hO : I8 O) (hp : w.heap[gp]? = some (.cells (pc b m d O) 51 (0, 0))) (hl : SecAt w b m F S) :
    Calls Try.prog 58 #[.pointer (some ⟨gf, 0, none⟩), .pointer (some ⟨gp, 0, none⟩)] w fun e w' => e = .returned (.bool (vProg s n P R m F S O)) ∧ Below w.heap.size w w' := by
  have HP := Lib.hid hP; have HR := Lib.hid hR; have HF := Lib.hid hF; have HS := Lib.hid hS; have HO := Lib.hid hO
  clear hP hR hF hS hO
  have KB := Kp.base w; have KF := kp_row hf; have KP := kp_row hp
  have KH := kp_ham hh; have KL := kp_sec hl; clear hh hl hf hp
  cases hv : vFrame s n P R
  · go_enter Try.func58, Try.ntmps58
    go_wp2_with fail
    refine (l02Frame_any gf s a n c P R w (by omega) hs HP.out HR.out (row_lt KF.here) (row_cell 0 KF.here) (row_cell 1 KF.here) KH.here).mono ?_
    rw [hv]
    rintro e w1 ⟨rfl, hb1⟩
    go_wp2
    go_ret
    exact ⟨ret_bool (vProg_f1 hv).symm, KB.at hb1⟩
  · obtain ⟨hS0, hN, _⟩ := vFrame_iff.1 hv
    by_cases h12 : m ≤ 12
    · go_enter Try.func58, Try.ntmps58
      go_wp2_with fail
      refine (l02Frame_any gf s a n c P R w (by omega) hs HP.out HR.out (row_lt KF.here) (row_cell 0 KF.here) (row_cell 1 KF.here) KH.here).mono ?_
      rw [hv]
      rintro e w1 ⟨rfl, hb1⟩
      have HV := Lib.hid hv; clear hv
      replace KB := KB.on hb1
      replace KF := KF.on hb1
      replace KP := KP.on hb1
      replace KL := KL.on hb1
      have p0 := row_cell 0 KP.here
      rw [pc_get0] at p0
      have P0 := Lib.hid p0
      go_wp2
      clear p0
      go_loopw [5, 6] (fun t i w' => Below w1.heap.size w1 w' ∧ ∃ k : Nat, k ≤ m ∧ i = .int .i64 k ∧ t = .int .i64 (endTo F S k) ∧ ∀ j, j < k → endTo F S j ≤ F j ∧ F j < s ∧ 1 ≤ S j ∧ F j + S j ≤ s) (fun _ i _ => m - (intOf i).toNat)
      case atStart => exact ⟨Below.refl _ _, 0, by omega, rfl, by rw [endTo_zero], fun j hj => by omega⟩
      case round =>
        obtain ⟨hb, k, hk, rfl, rfl, hK⟩ := hrel
        have HK := Lib.hid hK; clear hK
        replace KB := KB.on hb
        replace KF := KF.on hb
        replace KP := KP.on hb
        replace KL := KL.on hb
        have p0 := row_cell 0 KP.here
        rw [pc_get0] at p0
        have heb := endTo_bound HF.out HS.out k
        by_cases hlt : k < m
        · have hx := SecAt.get KL.here (show 0 < m by omega)
          obtain ⟨g, off, rfl, hg, hc⟩ := hx
          have c0 := (hc k hlt).1
          have c1 := (hc k hlt).2
          clear hc
          have d0 := row_cell 0 KF.here
          have hf1 := HF.out k
          have hs1 := HS.out k
          have q1 := i64_id (x := F k) (by omega)
          have q2 := i64_id (x := S k) (by omega)
          have q3 := i64_id (x := s) (by omega)
          have q4 := i64_id (x := F k + S k) (by omega)
          have hk' : (k : Int) < m := by omega
          have hesc := Lib.hid (endTo_succ F S k)
          have hno : ¬ (endTo F S k ≤ F k ∧ F k < s ∧ 1 ≤ S k ∧ F k + S k ≤ s) → vProg s n P R m F S O = false := fun h => vProg_f2 (vSecs_false fun H => h (H.2 k hlt))
          have HNO := Lib.hid hno; clear hno
          by_cases h1 : F k < endTo F S k
          · go_wp2
            go_ret
            exact ⟨ret_bool (HNO.out (by omega)).symm, KB.here⟩
          · by_cases h2 : s ≤ F k
            · go_wp2
              go_ret
              exact ⟨ret_bool (HNO.out (by omega)).symm, KB.here⟩
            · by_cases h3 : S k < 1
              · go_wp2
                go_ret
                exact ⟨ret_bool (HNO.out (by omega)).symm, KB.here⟩
              · by_cases h4 : s < F k + S k
                · go_wp2
                  go_ret
                  exact ⟨ret_bool (HNO.out (by omega)).symm, KB.here⟩
                · go_wp2
                  go_roundw
                  case rel => exact ⟨hb, k + 1, by omega, by go_num, by rw [hesc.out], fun j hj => if e : j = k then e ▸ ⟨by omega, by omega, by omega, by omega⟩ else HK.out j (by omega)⟩
                  case measure => simp [intOf]; omega
        · have hsec := Lib.hid (vSecs_iff.2 ⟨h12, fun j hj => HK.out j (by omega)⟩)
          clear HK
          obtain ⟨U, rfl⟩ : ∃ U, U = wr := ⟨wr, rfl⟩
          go_wp2
          go_loopw [9] (fun i w' => Below U.heap.size U w' ∧ ∃ k : Nat, k ≤ 48 ∧ i = .int .i64 k ∧ ∀ j, j < k → -1 ≤ O j ∧ O j ≤ (m : Int) - 1) (fun i _ => 48 - (intOf i).toNat)
          case atStart => exact ⟨Below.refl _ _, 0, by omega, rfl, fun j hj => by omega⟩
          case round =>
            clear p0
            obtain ⟨hb3, j, hj, rfl, hK⟩ := hrel
            have HK := Lib.hid hK; clear hK
            replace KB := KB.on hb3
            replace KP := KP.on hb3
            by_cases hlj : j < 48
            · have p0 := row_cell 0 KP.here
              rw [pc_get0] at p0
              have e0 : wr.cell? ⟨gp, 1 + j, none⟩ = some (.int .i8 (O j)) := by rw [row_cell (1 + j) KP.here, pc_get _ _ _ _ j hlj]
              have ho := HO.out j
              have q1 := i64_id (x := O j) (by omega)
              have q2 := i64_id (x := (m : Int) - 1) (by omega)
              have hj' : (j : Int) < 48 := by omega
              by_cases hin : -1 ≤ O j ∧ O j ≤ (m : Int) - 1
              · have hin' := inB_true hin
                go_wp2
                go_quiet ((go_at_call 65; exact q_same (l00In_any _ _ _ _)))
                clear hin' q1 q2 p0 e0
                go_wp2
                go_roundw
                case rel => exact ⟨below_drewN hb3 _, j + 1, by omega, by go_num, fun i hi => if e : i = j then e ▸ hin else HK.out i (by omega)⟩
                case measure => simp [intOf]; omega
              · have hin' := inB_false hin
                go_wp2
                go_quiet ((go_at_call 65; exact q_same (l00In_any _ _ _ _)))
                go_wp2
                go_ret
                exact ⟨ret_bool (vProg_f3 (vOrd_false j hlj hin)).symm, below_drewN KB.here _⟩
            · go_wp2
              go_ret
              exact ⟨ret_bool (vProg_iff.2 ⟨HV.out, hsec.out, vOrd_iff.2 fun i hi => HK.out i (by omega)⟩).symm, KB.here⟩
    · go_enter Try.func58, Try.ntmps58
      go_wp2_with fail
      refine (l02Frame_any gf s a n c P R w (by omega) hs HP.out HR.out (row_lt KF.here) (row_cell 0 KF.here) (row_cell 1 KF.here) KH.here).mono ?_
      rw [hv]
      rintro e w1 ⟨rfl, hb1⟩
      replace KB := KB.on hb1
      replace KP := KP.on hb1
      have p0 := row_cell 0 KP.here
      rw [pc_get0] at p0
      go_wp2
      go_ret
      exact ⟨ret_bool (vProg_f2 (vSecs_false fun H => h12 H.1)).symm, KB.here⟩
set_option maxRecDepth 100000 in
set_option maxHeartbeats 1000000 in
theorem areSections_any (s : Int) (a : Option Addr) (n c : Nat) (b : Option Addr) (m d : Nat) (F S : Nat → Int) (w : World) (hs : 2 ≤ s ∧ s ≤ 96) (hm : m ≤ 1048576) (hF : I16 F) (hS : I16 S) (hl : SecAt w b m F S) :
    Calls Try.prog 97 #[.agg #[.int .i16 s, .slice a n c], .slice b m d] w fun e w' => e = .returned (.bool (vSecs s m F S)) ∧ Below w.heap.size w w' := by
  have HF := Lib.hid hF; have HS := Lib.hid hS
  clear hF hS
  have KB := Kp.base w
  have KL := kp_sec hl; clear hl
  replace KB := KB.alloc (.cells #[.int .i16 s, .slice a n c] 27)
  replace KL := KL.alloc (.cells #[.int .i16 s, .slice a n c] 27)
  have KF := kp_new1 w #[.int .i16 s, .slice a n c] 27 (g := w.heap.size) (by simp)
  have HZ := Lib.hid (show (w.alloc (.cells #[.int .i16 s, .slice a n c] 27)).heap.size = w.heap.size + 1 by simp)
  go_enter Try.func97, Try.ntmps97
  go_wp2
  generalize (w.alloc (.cells #[.int .i16 s, .slice a n c] 27)) = W at KB KL KF HZ ⊢
  clear HZ
  go_loopw [5, 10] (fun t i w' => Below W.heap.size W w' ∧ ∃ k : Nat, k ≤ m ∧ i = .int .i64 k ∧ t = .int .i64 (endTo F S k) ∧ ∀ j, j < k → endTo F S j ≤ F j ∧ F j < s ∧ 1 ≤ S j) (fun _ i _ => m - (intOf i).toNat)
  case atStart => exact ⟨Below.refl _ _, 0, by omega, rfl, by rw [endTo_zero], fun j hj => by omega⟩
  case round =>
    obtain ⟨hb, k, hk, rfl, rfl, hK⟩ := hrel
    have HK := Lib.hid hK; clear hK
    replace KB := KB.on hb
    replace KF := KF.on hb
    replace KL := KL.on hb
    have heb := endTo_bound HF.out HS.out k
    have d0 := row_cell 0 KF.here
    have q3 := i64_id (x := s) (by omega)
    by_cases hlt : k < m
    · have hx := SecAt.get KL.here (show 0 < m by omega)
      obtain ⟨g, off, rfl, hg, hc⟩ := hx
      have c0 := (hc k hlt).1
      have c1 := (hc k hlt).2
      clear hc
      have hgf := row_lt KF.here
      have hf1 := HF.out k
      have hs1 := HS.out k
      have q1 := i64_id (x := F k) (by omega)
      have q2 := i64_id (x := S k) (by omega)
      have q4 := i64_id (x := F k + S k) (by omega)
      have q5 := i64_id (x := s - 1) (by omega)
      have hesc := Lib.hid (endTo_succ F S k)
      have hno : ¬ (endTo F S k ≤ F k ∧ F k < s ∧ 1 ≤ S k ∧ F k + S k ≤ s) → vSecs s m F S = false := fun h => vSecs_false fun H => h (H.2 k hlt)
      have HNO := Lib.hid hno; clear hno
      have hba : Below w.heap.size w (wr.alloc (.cells #[.int .i16 (F k), .int .i16 (S k)] 56)) := (KB.alloc _).here
      have hbb : Below W.heap.size W (wr.alloc (.cells #[.int .i16 (F k), .int .i16 (S k)] 56)) := hb.alloc hb.size _
      have HBA := Lib.hid hba; have HBB := Lib.hid hbb; clear hba hbb
      by_cases hin : endTo F S k ≤ F k ∧ F k ≤ s - 1
      · have hin' := inB_true hin
        by_cases h3 : S k < 1
        · go_wp2_with (go_at_call 60; refine (within_any _ _ _ _).mono ?_; rintro e w2 ⟨rfl, rfl⟩)
          go_ret
          exact ⟨ret_bool (HNO.out (by omega)).symm, HBA.out⟩
        · go_wp2_with (go_at_call 60; refine (within_any _ _ _ _).mono ?_; rintro e w2 ⟨rfl, rfl⟩)
          go_roundw
          case rel => exact ⟨HBB.out, k + 1, by omega, by go_num, by rw [hesc.out], fun j hj => if e : j = k then e ▸ ⟨by omega, by omega, by omega⟩ else HK.out j (by omega)⟩
          case measure => simp [intOf]; omega
      · have hin' := inB_false hin
        go_wp2_with (go_at_call 60; refine (within_any _ _ _ _).mono ?_; rintro e w2 ⟨rfl, rfl⟩)
        go_ret
        exact ⟨ret_bool (HNO.out (by omega)).symm, HBA.out⟩
    · have hkm : k = m := by omega
      subst hkm
      by_cases h12 : k ≤ 12
      · by_cases he : endTo F S k ≤ s
        · go_wp2
          go_ret
          exact ⟨ret_bool (by rw [vSecs_iff.2 ⟨h12, vSecs_end (by omega) HK.out he⟩] <;> simp <;> omega), KB.here⟩
        · have hf : vSecs s k F S = false := vSecs_false fun H => he (by
            cases k with
            | zero => rw [endTo_zero]; omega
            | succ i => rw [endTo_succ]; exact (H.2 i (by omega)).2.2.2)
          have HFF := Lib.hid hf; clear hf
          go_wp2
          go_ret
          exact ⟨ret_bool (by rw [HFF.out] <;> simp <;> omega), KB.here⟩
      · have hf : vSecs s k F S = false := vSecs_false fun H => h12 H.1
        have HFF := Lib.hid hf; clear hf
        go_wp2
        go_ret
        exact ⟨ret_bool (by rw [HFF.out] <;> simp <;> omega), KB.here⟩
set_option maxRecDepth 100000 in
theorem validProgramme1_any (gp : Nat) (b : Option Addr) (m d : Nat) (O : Nat → Int) (x : Int) (w : World) (hm : m ≤ 1048576) (hx : -128 ≤ x ∧ x ≤ 127) (hp : w.heap[gp]? = some (.cells (pc b m d O) 51 (0, 0))) :
    Calls Try.prog 99 #[.int .i8 x, .pointer (some ⟨gp, 0, none⟩)] w fun e w' => e = .returned (.bool (!inB x (-1) ((m : Int) - 1))) ∧ Below w.heap.size w w' := by
  have p0 := row_cell 0 hp
  rw [pc_get0] at p0
  have PP := Lib.hid hp; clear hp
  have q1 := i64_id (x := x) (by omega)
  have q2 := i64_id (x := (m : Int) - 1) (by omega)
  go_enter Try.func99, Try.ntmps99
  go_wp2_with (first | (go_at_call 60; refine (within_any _ _ _ _).mono ?_; rintro e w2 ⟨rfl, rfl⟩) | (go_at_call 82; refine (sizeSection_any _ _ _ _ (by omega)).mono ?_; rintro e w2 ⟨rfl, rfl⟩))
  go_ret
  exact ⟨rfl, Below.refl _ _⟩
set_option maxRecDepth 100000 in
theorem indexFuncI8_any (gp : Nat) (b : Option Addr) (m d : Nat) (O : Nat → Int) (w : World) (hm : m ≤ 1048576) (hO : I8 O) (hp : w.heap[gp]? = some (.cells (pc b m d O) 51 (0, 0))) :
    Calls Try.prog 105 #[.slice (some ⟨gp, 1, none⟩) 48 48, .func (.func 99) #[] #[.pointer (some ⟨gp, 0, none⟩)]] w fun e w' => ∃ r, e = .returned (.int .i64 r) ∧ IdxOf (fun k => !inB (O k) (-1) ((m : Int) - 1)) 48 r ∧ Below w.heap.size w w' := by
  have HO := Lib.hid hO; clear hO
  have KP := kp_row hp; clear hp
  go_enter Try.func105, Try.ntmps105
  go_wp2
  go_loopw [8] (fun i w' => Below w.heap.size w w' ∧ ∃ k : Nat, k ≤ 48 ∧ i = .int .i64 k ∧ ∀ j, j < k → (!inB (O j) (-1) ((m : Int) - 1)) = false) (fun i _ => 48 - (intOf i).toNat)
  case atStart => exact ⟨Below.refl _ _, 0, by omega, rfl, fun j hj => by omega⟩
  case round =>
    obtain ⟨hb, k, hk, rfl, hK⟩ := hrel
    have HK := Lib.hid hK; clear hK
    replace KP := KP.on hb
    by_cases hlt : k < 48
    · have c0 : wr.cell? ⟨gp, 1 + k, none⟩ = some (.int .i8 (O k)) := by rw [row_cell (1 + k) KP.here, pc_get _ _ _ _ k hlt]
      have hk' : (k : Int) < 48 := by omega
      cases hp : (!inB (O k) (-1) ((m : Int) - 1))
      · have HPP := Lib.hid hp
        go_wp2_with (go_at_call 99; refine (validProgramme1_any gp b m d O (O k) _ hm (HO.out k) KP.here).mono ?_; rw [hp]; rintro e w1 ⟨rfl, hb1⟩)
        go_roundw
        case rel => exact ⟨hb.trans (hb1.mono hb.size), k + 1, by omega, by go_num, fun j hj => if e : j = k then e ▸ HPP.out else HK.out j (by omega)⟩
        case measure => simp [intOf]; omega
      · have HPP := Lib.hid hp
        go_wp2_with (go_at_call 99; refine (validProgramme1_any gp b m d O (O k) _ hm (HO.out k) KP.here).mono ?_; rw [hp]; rintro e w1 ⟨rfl, hb1⟩)
        go_ret
        exact ⟨_, rfl, .inr ⟨k, rfl, hlt, HPP.out, HK.out⟩, hb.trans (hb1.mono hb.size)⟩
    · go_wp2
      go_ret
      exact ⟨_, rfl, .inl ⟨rfl, fun j hj => HK.out j (by omega)⟩, hb⟩
set_option maxRecDepth 100000 in
theorem containsFuncI8_any (gp : Nat) (b : Option Addr) (m d : Nat) (O : Nat → Int) (w : World) (hm : m ≤ 1048576) (hO : I8 O) (hp : w.heap[gp]? = some (.cells (pc b m d O) 51 (0, 0))) :
    Calls Try.prog 98 #[.slice (some ⟨gp, 1, none⟩) 48 48, .func (.func 99) #[] #[.pointer (some ⟨gp, 0, none⟩)]] w fun e w' => e = .returned (.bool (!vOrd m O)) ∧ Below w.heap.size w w' := by
  have HO := Lib.hid hO; clear hO
  have HP := Lib.hid hp; clear hp
  go_enter Try.func98, Try.ntmps98
  go_wp2_with (go_at_call 105; refine (indexFuncI8_any gp b m d O _ hm HO.out HP.out).mono ?_; rintro e w1 ⟨r, rfl, hr, hb⟩)
  go_ret
  refine ⟨ret_bool ?_, hb⟩
  rw [hr.any]
  cases hv : vOrd m O
  · have hx : ∃ k, k < 48 ∧ ¬ (-1 ≤ O k ∧ O k ≤ (m : Int) - 1) := by
      apply Classical.byContradiction
      intro H
      rw [vOrd_iff.2 fun k hk => Classical.byContradiction fun h => H ⟨k, hk, h⟩] at hv
      exact absurd hv (by simp)
    obtain ⟨k, hk, h⟩ := hx
    rw [anyB_iff.2 ⟨k, hk, by rw [inB_false h]; rfl⟩]
    rfl
  · rw [anyB_false fun k hk => by rw [inB_true (vOrd_iff.1 hv k hk)]; rfl]
    rfl
set_option maxRecDepth 100000 in
theorem validProgramme_any (s : Int) (a : Option Addr) (n c : Nat) (P R : Nat → Int) (b : Option Addr) (m d : Nat) (F S O : Nat → Int) (w : World) (hs : -32768 ≤ s ∧ s ≤ 32767) (hn : n ≤ 1048576) (hP : I8 P) (hR : I8 R) (hh : HamAt w a n P R)
    (hm : m ≤ 1048576) (hF : I16 F) (hS : I16 S) (hO : I8 O) (hl : SecAt w b m F S) :
    Calls Try.prog 77 #[.agg #[.int .i16 s, .slice a n c], .agg (pc b m d O)] w fun e w' => e = .returned (.bool (vProg s n P R m F S O)) ∧ Below w.heap.size w w' := by
  have HP := Lib.hid hP; have HR := Lib.hid hR; have HF := Lib.hid hF; have HS := Lib.hid hS; have HO := Lib.hid hO
  clear hP hR hF hS hO
  have KB := Kp.base w
  have KH := kp_ham hh; have KL := kp_sec hl; clear hh hl
  replace KB := KB.alloc (.cells #[.int .i16 s, .slice a n c] 27)
  replace KH := KH.alloc (.cells #[.int .i16 s, .slice a n c] 27)
  replace KL := KL.alloc (.cells #[.int .i16 s, .slice a n c] 27)
  have KF := kp_new1 w #[.int .i16 s, .slice a n c] 27 (g := w.heap.size) (by simp)
  replace KB := KB.alloc (.cells (pc b m d O) 51)
  replace KH := KH.alloc (.cells (pc b m d O) 51)
  replace KL := KL.alloc (.cells (pc b m d O) 51)
  replace KF := KF.alloc (.cells (pc b m d O) 51)
  have KP := kp_new1 (w.alloc (.cells #[.int .i16 s, .slice a n c] 27)) (pc b m d O) 51 (g := w.heap.size + 1) (by simp)
  have HZ := Lib.hid (show ((w.alloc (.cells #[.int .i16 s, .slice a n c] 27)).alloc (.cells (pc b m d O) 51)).heap.size = w.heap.size + 1 + 1 by simp)
  go_enter Try.func77, Try.ntmps77
  go_wp2_with (with_reducible refine load_iframe rfl _ rfl w.heap.size rfl _ s a n c KF.here ?_)
  generalize ((w.alloc (.cells #[.int .i16 s, .slice a n c] 27)).alloc (.cells (pc b m d O) 51)) = W at KB KH KL KF KP HZ ⊢
  have hz := HZ.out; clear HZ
  refine (validFrame_any s a n c P R W (by omega) hs HP.out HR.out KH.here).mono ?_
  rintro e w1 ⟨rfl, hb1⟩
  replace KB := KB.on hb1
  replace KF := KF.on hb1
  replace KP := KP.on hb1
  replace KL := KL.on hb1
  clear hb1
  have p0 := row_cell 0 KP.here
  rw [pc_get0] at p0
  have d0 := row_cell 0 KF.here
  have d1 := row_cell 1 KF.here
  cases hv : vFrame s n P R
  · go_wp2
    go_ret
    exact ⟨ret_bool (vProg_f1 hv).symm, KB.here⟩
  · obtain ⟨hS0, hN, _⟩ := vFrame_iff.1 hv
    have HV := Lib.hid hv; clear hv
    go_wp2_with fail
    refine (areSections_any s a n c b m d F S w1 hS0 hm HF.out HS.out KL.here).mono ?_
    rintro e w2 ⟨rfl, hb2⟩
    clear p0 d0 d1
    replace KB := KB.on hb2
    replace KF := KF.on hb2
    replace KP := KP.on hb2
    replace KL := KL.on hb2
    clear hb2
    cases hse : vSecs s m F S
    · go_wp2
      go_ret
      exact ⟨ret_bool (vProg_f2 hse).symm, KB.here⟩
    · have HSE := Lib.hid hse; clear hse
      go_wp2_with fail
      refine (containsFuncI8_any (w.heap.size + 1) b m d O w2 hm HO.out KP.here).mono ?_
      rintro e w3 ⟨rfl, hb3⟩
      have KB3 := KB.on hb3
      clear hb3
      cases hvo : vOrd m O
      · go_wp2
        go_ret
        exact ⟨ret_bool (vProg_f3 hvo).symm, KB3.here⟩
      · have HVO := Lib.hid hvo; clear hvo
        go_wp2
        go_ret
        exact ⟨ret_bool (vProg_iff.2 ⟨HV.out, HSE.out, HVO.out⟩).symm, KB3.here⟩
end Go.Proofs.Ytlcfjeofphncgaa
namespace Go.Proofs.Ytlcfjeofphncgaa
open Go.RowKit
set_option linter.unusedVariables false
set_option linter.unusedSimpArgs false

/-- a slice at the address a reads as n numbers -/
def IntAt (w : World) (a : Option Addr) (n : Nat) (Z : Nat → Int) : Prop :=
  0 < n → ∃ g off, a = some ⟨g, off, none⟩ ∧ g < w.heap.size ∧ ∀ i, i < n → w.cell? ⟨g, off + i, none⟩ = some (.int .i64 (Z i))
theorem IntAt.get {w : World} {a : Option Addr} {n : Nat} {Z : Nat → Int} (h : IntAt w a n Z) (hn : 0 < n) : ∃ g off, a = some ⟨g, off, none⟩ ∧ g < w.heap.size ∧ ∀ i, i < n → w.cell? ⟨g, off + i, none⟩ = some (.int .i64 (Z i)) := h hn
theorem IntAt.below {w w' : World} {a : Option Addr} {n : Nat} {Z : Nat → Int} (h : IntAt w a n Z) (hb : Below w.heap.size w w') : IntAt w' a n Z := by
  intro hn
  obtain ⟨g, off, rfl, hg, hc⟩ := h hn
  refine ⟨g, off, rfl, Nat.lt_of_lt_of_le hg hb.size, fun i hi => ?_⟩
  rw [hb.cell (p := ⟨g, off + i, none⟩) hg]
  exact hc i hi
theorem IntAt.nil (w : World) (Z : Nat → Int) : IntAt w none 0 Z := fun h => absurd h (by omega)
theorem IntAt.one (w : World) (x : Int) (T : Nat) (Z : Nat → Int) (hz : Z 0 = x) : IntAt (w.alloc (.cells #[.int .i64 x] T)) (some ⟨w.heap.size, 0, none⟩) 1 Z := fun _ =>
  ⟨w.heap.size, 0, rfl, by simp, fun i hi => by
    obtain rfl : i = 0 := by omega
    rw [row_cell (0 + 0) (heap_alloc_new w _), hz]; rfl⟩
theorem kp_int {w : World} {a : Option Addr} {n : Nat} {Z : Nat → Int} (h : IntAt w a n Z) : Kp w (fun V => IntAt V a n Z) := Kp.mk fun _ hb => h.below hb
/-- all of n numbers lie in bounds -/
def allIn (Z : Nat → Int) (n : Nat) (lo hi : Int) : Bool := !anyB (fun k => !inB (Z k) lo hi) n
theorem allIn_zero (Z : Nat → Int) (lo hi : Int) : allIn Z 0 lo hi = true := by unfold allIn; rw [anyB_false fun k hk => by omega]; rfl
theorem allIn_one (Z : Nat → Int) (lo hi : Int) : allIn Z 1 lo hi = inB (Z 0) lo hi := by
  unfold allIn
  cases h : inB (Z 0) lo hi
  · rw [anyB_iff.2 ⟨0, by omega, by rw [h]; rfl⟩]; rfl
  · have e : anyB (fun k => !inB (Z k) lo hi) 1 = false := anyB_false fun k hk => by
      have h0 : k = 0 := by omega
      subst h0
      rw [h]; rfl
    rw [e]; rfl
theorem anyB_not (Z : Nat → Int) (n : Nat) (lo hi : Int) : anyB (fun k => !inB (Z k) lo hi) n = !allIn Z n lo hi := by unfold allIn; simp
attribute [irreducible] allIn
/-- the code of a programme (valid or not), and whether all numbers are in their bounds -/
def pcode (ok b : Bool) : Int := if ok then (if b then 0 else 2) else 1
theorem pcode_f (b : Bool) : pcode false b = 1 := rfl
theorem pcode_tf : pcode true false = 2 := rfl
theorem pcode_tt : pcode true true = 0 := rfl
theorem pcode_zero {ok b : Bool} (h : pcode ok b = 0) : ok = true ∧ b = true := by
  cases ok <;> cases b <;> simp [pcode] at h ⊢
attribute [irreducible] pcode
theorem isQuarter_any (x : Int) (w : World) :
    Calls Try.prog 80 #[.int .i64 x] w fun e w' => e = .returned (.bool (inB x 0 47)) ∧ w = w' := by
  go_enter Try.func80, Try.ntmps80
  go_wp2_with (go_at_call 60; refine (within_any _ _ _ _).mono ?_; rintro e w2 ⟨rfl, rfl⟩)
  go_ret
  exact ⟨rfl, rfl⟩
theorem programmeCode1_any (x : Int) (w : World) :
    Calls Try.prog 79 #[.int .i64 x] w fun e w' => e = .returned (.bool (!inB x 0 47)) ∧ Below w.heap.size w w' := by
  go_enter Try.func79, Try.ntmps79
  go_wp2_with (go_at_call 80; refine (isQuarter_any _ _).mono ?_; rintro e w2 ⟨rfl, rfl⟩)
  go_ret
  exact ⟨rfl, Below.refl _ _⟩
set_option maxRecDepth 100000 in
theorem programmeCode2_any (gp : Nat) (b : Option Addr) (m d : Nat) (O : Nat → Int) (x : Int) (w : World) (hm : m ≤ 1048576) (hp : w.heap[gp]? = some (.cells (pc b m d O) 51 (0, 0))) :
    Calls Try.prog 81 #[.int .i64 x, .pointer (some ⟨gp, 0, none⟩)] w fun e w' => e = .returned (.bool (!inB x 0 ((m : Int) - 1))) ∧ Below w.heap.size w w' := by
  have p0 := row_cell 0 hp
  rw [pc_get0] at p0
  have PP := Lib.hid hp; clear hp
  have q2 := i64_id (x := (m : Int) - 1) (by omega)
  go_enter Try.func81, Try.ntmps81
  go_wp2_with (first | (go_at_call 60; refine (within_any _ _ _ _).mono ?_; rintro e w2 ⟨rfl, rfl⟩) | (go_at_call 82; refine (sizeSection_any _ _ _ _ (by omega)).mono ?_; rintro e w2 ⟨rfl, rfl⟩))
  go_ret
  exact ⟨rfl, Below.refl _ _⟩
set_option maxRecDepth 100000 in
theorem indexFuncQ1 (a : Option Addr) (n c : Nat) (Z : Nat → Int) (w : World) (hn : n ≤ 1000000000) (hh : IntAt w a n Z) :
    Calls Try.prog 100 #[.slice a n c, .func (.func 79) #[] #[]] w fun e w' => ∃ r, e = .returned (.int .i64 r) ∧ IdxOf (fun k => !inB (Z k) 0 47) n r ∧ Below w.heap.size w w' := by
  have KH := kp_int hh; clear hh
  go_enter Try.func100, Try.ntmps100
  go_wp2
  go_loopw [8] (fun i w' => Below w.heap.size w w' ∧ ∃ k : Nat, k ≤ n ∧ i = .int .i64 k ∧ ∀ j : Nat, j < k → (!inB (Z j) 0 47) = false) (fun i _ => n - (intOf i).toNat)
  case atStart => exact ⟨Below.refl _ _, 0, by omega, rfl, fun j hj => by omega⟩
  case round =>
    obtain ⟨hb, k, hk, rfl, hK⟩ := hrel
    have HK := Lib.hid hK; clear hK
    replace KH := KH.on hb
    by_cases hlt : k < n
    · have hx := IntAt.get KH.here (show 0 < n by omega)
      obtain ⟨g, off, rfl, hg, hc⟩ := hx
      have c0 := hc k hlt
      clear hc
      have hk' : (k : Int) < n := by omega
      cases hp : (!inB (Z k) 0 47)
      · have HPP := Lib.hid hp
        go_wp2_with (go_at_call 79; refine (programmeCode1_any _ _).mono ?_; rw [hp]; rintro e w1 ⟨rfl, hb1⟩)
        go_roundw
        case rel => exact ⟨hb.trans (hb1.mono hb.size), k + 1, by omega, by go_num, fun j hj => if e : j = k then e ▸ HPP.out else HK.out j (by omega)⟩
        case measure => simp [intOf]; omega
      · have HPP := Lib.hid hp
        go_wp2_with (go_at_call 79; refine (programmeCode1_any _ _).mono ?_; rw [hp]; rintro e w1 ⟨rfl, hb1⟩)
        go_ret
        exact ⟨_, rfl, .inr ⟨k, rfl, hlt, HPP.out, HK.out⟩, hb.trans (hb1.mono hb.size)⟩
    · go_wp2
      go_ret
      exact ⟨_, rfl, .inl ⟨rfl, fun j hj => HK.out j (by omega)⟩, hb⟩
set_option maxRecDepth 100000 in
theorem containsFuncQ1 (a : Option Addr) (n c : Nat) (Z : Nat → Int) (w : World) (hn : n ≤ 1000000000) (hh : IntAt w a n Z) :
    Calls Try.prog 78 #[.slice a n c, .func (.func 79) #[] #[]] w fun e w' => e = .returned (.bool (anyB (fun k => !inB (Z k) 0 47) n)) ∧ Below w.heap.size w w' := by
  have HH := Lib.hid hh; clear hh
  go_enter Try.func78, Try.ntmps78
  go_wp2_with (go_at_call 100; refine (indexFuncQ1 a n c Z _ hn HH.out).mono ?_; rintro e w1 ⟨r, rfl, hr, hb⟩)
  go_ret
  exact ⟨ret_bool hr.any, hb⟩
set_option maxRecDepth 100000 in
theorem indexFuncQ2 (a : Option Addr) (n c : Nat) (Z : Nat → Int) (gp : Nat) (b : Option Addr) (m d : Nat) (O : Nat → Int) (w : World) (hn : n ≤ 1000000000) (hh : IntAt w a n Z) (hm : m ≤ 1048576) (hp : w.heap[gp]? = some (.cells (pc b m d O) 51 (0, 0))) :
    Calls Try.prog 100 #[.slice a n c, .func (.func 81) #[] #[.pointer (some ⟨gp, 0, none⟩)]] w fun e w' => ∃ r, e = .returned (.int .i64 r) ∧ IdxOf (fun k => !inB (Z k) 0 ((m : Int) - 1)) n r ∧ Below w.heap.size w w' := by
  have KH := kp_int hh; clear hh
  have KP := kp_row hp; clear hp
  go_enter Try.func100, Try.ntmps100
  go_wp2
  go_loopw [8] (fun i w' => Below w.heap.size w w' ∧ ∃ k : Nat, k ≤ n ∧ i = .int .i64 k ∧ ∀ j : Nat, j < k → (!inB (Z j) 0 ((m : Int) - 1)) = false) (fun i _ => n - (intOf i).toNat)
  case atStart => exact ⟨Below.refl _ _, 0, by omega, rfl, fun j hj => by omega⟩
  case round =>
    obtain ⟨hb, k, hk, rfl, hK⟩ := hrel
    have HK := Lib.hid hK; clear hK
    replace KH := KH.on hb
    replace KP := KP.on hb
    by_cases hlt : k < n
    · have hx := IntAt.get KH.here (show 0 < n by omega)
      obtain ⟨g, off, rfl, hg, hc⟩ := hx
      have c0 := hc k hlt
      clear hc
      have hk' : (k : Int) < n := by omega
      cases hp : (!inB (Z k) 0 ((m : Int) - 1))
      · have HPP := Lib.hid hp
        go_wp2_with (go_at_call 81; refine (programmeCode2_any gp b m d O _ _ hm KP.here).mono ?_; rw [hp]; rintro e w1 ⟨rfl, hb1⟩)
        go_roundw
        case rel => exact ⟨hb.trans (hb1.mono hb.size), k + 1, by omega, by go_num, fun j hj => if e : j = k then e ▸ HPP.out else HK.out j (by omega)⟩
        case measure => simp [intOf]; omega
      · have HPP := Lib.hid hp
        go_wp2_with (go_at_call 81; refine (programmeCode2_any gp b m d O _ _ hm KP.here).mono ?_; rw [hp]; rintro e w1 ⟨rfl, hb1⟩)
        go_ret
        exact ⟨_, rfl, .inr ⟨k, rfl, hlt, HPP.out, HK.out⟩, hb.trans (hb1.mono hb.size)⟩
    · go_wp2
      go_ret
      exact ⟨_, rfl, .inl ⟨rfl, fun j hj => HK.out j (by omega)⟩, hb⟩
set_option maxRecDepth 100000 in
theorem containsFuncQ2 (a : Option Addr) (n c : Nat) (Z : Nat → Int) (gp : Nat) (b : Option Addr) (m d : Nat) (O : Nat → Int) (w : World) (hn : n ≤ 1000000000) (hh : IntAt w a n Z) (hm : m ≤ 1048576) (hp : w.heap[gp]? = some (.cells (pc b m d O) 51 (0, 0))) :
    Calls Try.prog 78 #[.slice a n c, .func (.func 81) #[] #[.pointer (some ⟨gp, 0, none⟩)]] w fun e w' => e = .returned (.bool (anyB (fun k => !inB (Z k) 0 ((m : Int) - 1)) n)) ∧ Below w.heap.size w w' := by
  have HH := Lib.hid hh; clear hh
  have HP := Lib.hid hp; clear hp
  go_enter Try.func78, Try.ntmps78
  go_wp2_with (go_at_call 100; refine (indexFuncQ2 a n c Z gp b m d O _ hn HH.out hm HP.out).mono ?_; rintro e w1 ⟨r, rfl, hr, hb⟩)
  go_ret
  exact ⟨ret_bool hr.any, hb⟩
set_option maxRecDepth 100000 in
theorem programmeCode_any (s : Int) (a : Option Addr) (n c : Nat) (P R : Nat → Int) (b : Option Addr) (m d : Nat) (F S O : Nat → Int) (qa : Option Addr) (qn qc : Nat) (QZ : Nat → Int) (sa : Option Addr) (sn sc : Nat) (SZ : Nat → Int) (w : World)
    (hs : -32768 ≤ s ∧ s ≤ 32767) (hn : n ≤ 1048576) (hP : I8 P) (hR : I8 R) (hh : HamAt w a n P R)
    (hm : m ≤ 1048576) (hF : I16 F) (hS : I16 S) (hO : I8 O) (hl : SecAt w b m F S) (hqn : qn ≤ 1048576) (hq : IntAt w qa qn QZ) (hsn : sn ≤ 1048576) (hsz : IntAt w sa sn SZ) :
    Calls Try.prog 53 #[.agg #[.int .i16 s, .slice a n c], .agg (pc b m d O), .slice qa qn qc, .slice sa sn sc] w fun e w' => e = .returned (.int .i64 (pcode (vProg s n P R m F S O) (allIn QZ qn 0 47 && allIn SZ sn 0 ((m : Int) - 1)))) ∧ Below w.heap.size w w' := by
  have HP := Lib.hid hP; have HR := Lib.hid hR; have HF := Lib.hid hF; have HS := Lib.hid hS; have HO := Lib.hid hO
  clear hP hR hF hS hO
  have KB := Kp.base w
  have KH := kp_ham hh; have KL := kp_sec hl; have KQ := kp_int hq; have KS := kp_int hsz; clear hh hl hq hsz
  replace KB := KB.alloc (.cells #[.int .i16 s, .slice a n c] 27)
  replace KH := KH.alloc (.cells #[.int .i16 s, .slice a n c] 27)
  replace KL := KL.alloc (.cells #[.int .i16 s, .slice a n c] 27)
  replace KQ := KQ.alloc (.cells #[.int .i16 s, .slice a n c] 27)
  replace KS := KS.alloc (.cells #[.int .i16 s, .slice a n c] 27)
  have KF := kp_new1 w #[.int .i16 s, .slice a n c] 27 (g := w.heap.size) (by simp)
  replace KB := KB.alloc (.cells (pc b m d O) 51)
  replace KH := KH.alloc (.cells (pc b m d O) 51)
  replace KL := KL.alloc (.cells (pc b m d O) 51)
  replace KQ := KQ.alloc (.cells (pc b m d O) 51)
  replace KS := KS.alloc (.cells (pc b m d O) 51)
  replace KF := KF.alloc (.cells (pc b m d O) 51)
  have KP := kp_new1 (w.alloc (.cells #[.int .i16 s, .slice a n c] 27)) (pc b m d O) 51 (g := w.heap.size + 1) (by simp)
  have HZ := Lib.hid (show ((w.alloc (.cells #[.int .i16 s, .slice a n c] 27)).alloc (.cells (pc b m d O) 51)).heap.size = w.heap.size + 1 + 1 by simp)
  go_enter Try.func53, Try.ntmps53
  go_wp2_with (first | (with_reducible refine load_iframe rfl _ rfl w.heap.size rfl _ s a n c KF.here ?_) | (with_reducible refine load_iprog rfl _ rfl (w.heap.size + 1) rfl _ b m d O KP.here ?_))
  generalize ((w.alloc (.cells #[.int .i16 s, .slice a n c] 27)).alloc (.cells (pc b m d O) 51)) = W at KB KH KL KQ KS KF KP HZ ⊢
  clear HZ
  refine (validProgramme_any s a n c P R b m d F S O W hs hn HP.out HR.out KH.here hm HF.out HS.out HO.out KL.here).mono ?_
  rintro e w1 ⟨rfl, hb1⟩
  replace KB := KB.on hb1
  replace KQ := KQ.on hb1
  replace KS := KS.on hb1
  replace KP := KP.on hb1
  clear hb1
  cases hv : vProg s n P R m F S O
  · have HV := Lib.hid hv; clear hv
    go_wp2
    go_ret
    exact ⟨ret_int (by rw [HV.out, pcode_f]), KB.here⟩
  · have HV := Lib.hid hv; clear hv
    go_wp2_with fail
    refine (containsFuncQ1 qa qn qc QZ w1 (by omega) KQ.here).mono ?_
    rw [anyB_not]
    rintro e w2 ⟨rfl, hb2⟩
    replace KB := KB.on hb2
    replace KS := KS.on hb2
    replace KP := KP.on hb2
    clear hb2
    cases hq : allIn QZ qn 0 47
    · have HQ := Lib.hid hq; clear hq
      go_wp2_with (go_at_call 54; refine (unless_any _ _ _).mono ?_; rintro e w3 ⟨rfl, rfl⟩)
      go_ret
      exact ⟨ret_int (by rw [HV.out, HQ.out, Bool.false_and, pcode_tf, unl_false]), KB.here⟩
    · have HQ := Lib.hid hq; clear hq
      go_wp2_with fail
      refine (containsFuncQ2 sa sn sc SZ (w.heap.size + 1) b m d O w2 (by omega) KS.here hm KP.here).mono ?_
      rw [anyB_not]
      rintro e w3 ⟨rfl, hb3⟩
      replace KB := KB.on hb3
      clear hb3
      cases hq : allIn SZ sn 0 ((m : Int) - 1)
      · have HQ2 := Lib.hid hq; clear hq
        go_wp2_with (go_at_call 54; refine (unless_any _ _ _).mono ?_; rintro e w4 ⟨rfl, rfl⟩)
        go_ret
        exact ⟨ret_int (by rw [HV.out, HQ.out, HQ2.out, Bool.and_false, pcode_tf, unl_false]), KB.here⟩
      · have HQ2 := Lib.hid hq; clear hq
        go_wp2_with (go_at_call 54; refine (unless_any _ _ _).mono ?_; rintro e w4 ⟨rfl, rfl⟩)
        go_ret
        exact ⟨ret_int (by rw [HV.out, HQ.out, HQ2.out, Bool.and_true, pcode_tt, unl_true]), KB.here⟩
end Go.Proofs.Ytlcfjeofphncgaa
namespace Go.Proofs.Ytlcfjeofphncgaa
open Go.RowKit
set_option linter.unusedVariables false
set_option linter.unusedSimpArgs false

/-- the slice value v owns the numbers l, in blocks from base on -/
def OwnI (w : World) (base : Nat) (v : Value) (l : List Int) : Prop := w.ownsRow base 2 1 v l.length (l.map (Value.int .i64))
theorem infoI64 : (Try.prog.info? 2).map (fun i => (i.zero, i.size, i.bytes)) = some (some (.int .i64 0), 1, 8) := by kernel_rfl
theorem OwnI.alloc {w : World} {base : Nat} {v : Value} {l : List Int} (h : OwnI w base v l) (o : Obj) : OwnI (w.alloc o) base v l := World.ownsRow.alloc h o
theorem OwnI.at {w : World} {base : Nat} {v : Value} {l : List Int} (h : OwnI w base v l) : ∃ b c, v = .slice b l.length c ∧ IntAt w b l.length (fun i => l.getD i 0) := by
  obtain ⟨hl, h⟩ := h
  rcases h with ⟨rfl, h0⟩ | ⟨g, cap, cur, rfl, hg, hb, hc, hm, hs, ht⟩
  · exact ⟨none, 0, by rw [h0], fun hn => absurd hn (by omega)⟩
  · refine ⟨some ⟨g, 0, none⟩, cap, rfl, fun _ => ⟨g, 0, rfl, (Array.getElem?_eq_some_iff.1 hb).1, fun i hi => ?_⟩⟩
    rw [Nat.zero_add, row_cell i hb]
    have h1 : (cur.toList.take (l.length * 1))[i]? = (l.map (Value.int .i64))[i]? := by rw [ht]
    rw [List.getElem?_take, if_pos (by omega)] at h1
    rw [← Array.getElem?_toList, h1, List.getElem?_map, List.getElem?_eq_getElem hi]
    simp [List.getD, List.getElem?_eq_getElem hi]
section
variable {ops : Array Oper} {rest : List Oper} {o : Oper} {a : Act} {w : World} {Q : Exit → Act → World → Prop}
/-- a number is appended -/
theorem append_int (hgd : o.guard = none) (s x : Operand) (ho : o.op = .call { callee := .builtin .append, args := #[s, x], argTypes := #[38, 38] }) (base : Nat) (v : Value) (l : List Int) (hs : a.eval s = v) (hown : OwnI w base v l)
    (g : Nat) (y : Int) (hx : a.eval x = .slice (some ⟨g, 0, none⟩) 1 1) (hc : w.cell? ⟨g, 0, none⟩ = some (.int .i64 y)) (hl : l.length ≤ 1000000) (hbase : base ≤ w.heap.size)
    (h : ∀ v' w', OwnI w' base v' (l ++ [y]) → Below base w w' → wpList Try.prog ops Q rest (a.put o.dst v') w') : wpList Try.prog ops Q (o :: rest) a w := by
  obtain ⟨i0, hi, hz0, hz1, hz2⟩ := info_parts infoI64
  refine wpList_append_own w hgd s x 38 ho base 2 i0 (.int .i64 0) 1 8 Try.underlying38 hi hz0 hz1 hz2 rfl (by decide) v l.length _ hs hown ⟨g, 0, none⟩ 1 1 [.int .i64 y] hx rfl ?_ ?_ ?_ ?_ hbase ?_
  · intro j u hj
    match j, hj with
    | 0, hj => simp at hj; subst hj; simpa [Addr.add] using hc
  · intro u hu; simp at hu; subst hu; rfl
  · unfold maxLen; omega
  · omega
  · intro v' w' hown' hgrow _
    refine h v' w' ?_ (Below.grown (Below.refl _ _) hgrow hbase fun k hk => (World.ownsRow.lt hown k hk).1)
    unfold OwnI
    rw [List.length_append, List.map_append]
    exact hown'
end
section
variable {md : Region.Mode} {ops : Array Oper} {Q : Exit → Act → World → Prop} {S : World → Prop} {fuel : Nat} {listed : Array Bool} {a : Act} {w : World}
/-- a number is appended, in a region that draws -/
theorem step_append_int (i : Nat) {o : Oper} (hr : Region.ready md ops listed = [i]) (hoi : ops[i]? = some o) (hw : Region.wanted o (yielded ops a.tmps) = true)
    (s x : Operand) (ho : o.op = .call { callee := .builtin .append, args := #[s, x], argTypes := #[38, 38] }) (base : Nat) (v : Value) (l : List Int) (hs : a.eval s = v) (hown : OwnI w base v l)
    (g : Nat) (y : Int) (hx : a.eval x = .slice (some ⟨g, 0, none⟩) 1 1) (hc : w.cell? ⟨g, 0, none⟩ = some (.int .i64 y)) (hl : l.length ≤ 1000000) (hbase : base ≤ w.heap.size)
    (h : ∀ v' w', OwnI w' base v' (l ++ [y]) → Below base w w' → S w' ∧ wpAnyH Try.prog md ops Q S fuel (listed.setIfInBounds i true) (a.put o.dst v') w') : wpAnyH Try.prog md ops Q S (fuel + 1) listed a w := by
  refine wpAnyH_ready hr (by simp) (AllReadyH.cons hoi (fun K hK => ?_) AllReadyH.nil)
  rw [if_pos hw]
  obtain ⟨i0, hi, hz0, hz1, hz2⟩ := info_parts infoI64
  refine wp_append_own w s x 38 ho base 2 i0 (.int .i64 0) 1 8 Try.underlying38 hi hz0 hz1 hz2 rfl (by decide) v l.length _ hs hown ⟨g, 0, none⟩ 1 1 [.int .i64 y] hx rfl ?_ ?_ ?_ ?_ hbase ?_
  · intro j u hj
    match j, hj with
    | 0, hj => simp at hj; subst hj; simpa [Addr.add] using hc
  · intro u hu; simp at hu; subst hu; rfl
  · unfold maxLen; omega
  · omega
  · intro v' w' hown' hgrow _
    have h1 := h v' w' (by unfold OwnI; rw [List.length_append, List.map_append]; exact hown') (Below.grown (Below.refl _ _) hgrow hbase fun k hk => (World.ownsRow.lt hown k hk).1)
    exact hK.out _ _ h1.1 fun _ => h1.2
end
end Go.Proofs.Ytlcfjeofphncgaa
namespace Go.Proofs.Ytlcfjeofphncgaa
open Go.RowKit
set_option linter.unusedVariables false
set_option linter.unusedSimpArgs false

theorem l02DrumO_any (gf gd o : Nat) (s : Int) (a : Option Addr) (n c : Nat) (D : Nat → Nat) (w : World) (hn : n ≤ 24) (hs0 : 2 ≤ s) (hs1 : s ≤ 96)
    (h0 : w.cell? ⟨gf, 0, none⟩ = some (.int .i16 s)) (h1 : w.cell? ⟨gf, 1, none⟩ = some (.slice a n c)) (hd : DrumCells w gd o D) :
    Calls Try.prog 67 #[.pointer (some ⟨gf, 0, none⟩), .pointer (some ⟨gd, o, none⟩)] w fun e w' => e = .returned (.bool (vDrum s n D)) ∧ ∃ q, w' = w.drewN q := by
  have Hd := Lib.hid hd; clear hd
  go_enter Try.func67, Try.ntmps67
  go_wp2
  go_loopw [5] (fun i w' => (∃ q, w' = w.drewN q) ∧ ∃ k : Nat, k ≤ 96 ∧ i = .int .i64 k ∧ ∀ j, j < k → D j / 2 ^ n = 0 ∧ (s ≤ (j : Int) → D j = 0)) (fun i _ => 96 - (intOf i).toNat)
  case atStart => exact ⟨⟨0, rfl⟩, 0, by omega, rfl, fun j hj => by omega⟩
  case round =>
    obtain ⟨⟨q, rfl⟩, k, hk, rfl, hP⟩ := hrel
    have HP := Lib.hid hP; clear hP
    by_cases hlt : k < 96
    · have hdk := Hd.out k hlt
      have hw1 := u64_nat n (by omega)
      have hw2 : min n 32 = n := by omega
      by_cases h1 : D k / 2 ^ n = 0
      · have hb1 := ne0_false h1
        have H1 := Lib.hid h1; clear h1
        by_cases h2 : s ≤ k
        · have h2' : decide (s ≤ (k : Int)) = true := by simpa using h2
          by_cases h3 : D k = 0
          · have hb3 := z0_false h3
            have H3 := Lib.hid h3; clear h3
            go_wp2
            go_quiet (fail)
            go_wp2
            go_roundw
            case rel => exact ⟨⟨q + nq, by first | rfl | rw [World.drewN_drewN]⟩, k + 1, by omega, by go_num, fun j hj => if e : j = k then e ▸ ⟨H1.out, fun _ => H3.out⟩ else HP.out j (by omega)⟩
            case measure => simp [intOf]; omega
          · have hb3 := z0_true h3
            have H3 := Lib.hid h3; clear h3
            go_wp2
            go_quiet (fail)
            go_wp2
            go_ret
            exact ⟨ret_bool (vDrum_false k hlt fun H => H3.out (H.2 h2)).symm, q + nq, by first | rfl | rw [World.drewN_drewN]⟩
        · have h2' : decide (s ≤ (k : Int)) = false := by simpa using h2
          have H2 := Lib.hid h2; clear h2
          go_wp2
          go_quiet (fail)
          go_wp2
          go_roundw
          case rel => exact ⟨⟨q + nq, by first | rfl | rw [World.drewN_drewN]⟩, k + 1, by omega, by go_num, fun j hj => if e : j = k then e ▸ ⟨H1.out, fun h => absurd h (by have := H2.out; omega)⟩ else HP.out j (by omega)⟩
          case measure => simp [intOf]; omega
      · have hb1 := ne0_true h1
        have H1 := Lib.hid h1; clear h1
        go_wp2
        go_quiet (fail)
        go_wp2
        go_ret
        exact ⟨ret_bool (vDrum_false k hlt fun H => H1.out H.1).symm, q + nq, by first | rfl | rw [World.drewN_drewN]⟩
    · go_wp2
      go_ret
      exact ⟨ret_bool (vDrum_iff.2 fun j hj => HP.out j (by omega)).symm, _, rfl⟩
theorem below_setCells {B : Nat} {a : World} {g : Nat} (hg : B ≤ g) (vs : List Value) : ∀ {o : Nat} {w : World}, Below B a w → Below B a (w.setCells g o vs) := by
  induction vs with
  | nil => intro o w h; exact h
  | cons v r ih => intro o w h; rw [World.setCells]; exact ih (h.setCell hg _)
theorem blk_setCells {T g N : Nat} (vs : List Value) : ∀ {o : Nat} {w : World} {f : Nat → Value}, BlkAt w T g N f → o + vs.length ≤ N → ∃ f', BlkAt (w.setCells g o vs) T g N f' := by
  induction vs with
  | nil => intro o w f h _; exact ⟨f, h⟩
  | cons v r ih => intro o w f h hl; rw [World.setCells]; exact ih (h.setCell o v (by simp at hl; omega)) (by simp at hl ⊢; omega)
/-- numbers of 32 bits in all drums -/
def L32 (L : Nat → Nat → Nat) : Prop := ∀ i, D32 (L i)
/-- a slice that came in reads as n drums -/
def DrumsIn (w : World) (a : Option Addr) (n : Nat) (L : Nat → Nat → Nat) : Prop :=
  0 < n → ∃ ad, a = some ad ∧ ad.block < w.heap.size ∧ ∀ i, i < n → ∀ k, k < 96 → w.cell? ((ad.add (i * 96)).add k) = some (.int .u32 (L i k))
theorem DrumsIn.get {w : World} {a : Option Addr} {n : Nat} {L : Nat → Nat → Nat} (h : DrumsIn w a n L) (hn : 0 < n) : ∃ ad, a = some ad ∧ ad.block < w.heap.size ∧ ∀ i, i < n → ∀ k, k < 96 → w.cell? ((ad.add (i * 96)).add k) = some (.int .u32 (L i k)) := h hn
theorem DrumsIn.below {w w' : World} {a : Option Addr} {n : Nat} {L : Nat → Nat → Nat} (h : DrumsIn w a n L) (hb : Below w.heap.size w w') : DrumsIn w' a n L := by
  intro hn
  obtain ⟨ad, rfl, hg, hc⟩ := h hn
  refine ⟨ad, rfl, Nat.lt_of_lt_of_le hg hb.size, fun i hi k hk => ?_⟩
  rw [hb.cell (p := (ad.add (i * 96)).add k) (by rw [add_block, add_block]; exact hg)]
  exact hc i hi k hk
theorem kp_drumsIn {w : World} {a : Option Addr} {n : Nat} {L : Nat → Nat → Nat} (h : DrumsIn w a n L) : Kp w (fun V => DrumsIn V a n L) := Kp.mk fun _ hb => h.below hb
set_option maxRecDepth 100000 in
/-- a whole drum is read, wherever it lies -/
theorem run_load_at (w : World) (p : Addr) (D : Nat → Nat) (h : ∀ k, k < 96 → w.cell? (p.add k) = some (.int .u32 (D k))) : (loadVar 32 p).run Try.prog w = .ok (.agg (dc D)) w := by
  have hl : (loadCells p (dc D).toList.length).run Try.prog w = .ok (dc D).toList.toArray w := run_loadCells_list (P := Try.prog) w p (dc D).toList (fun j v hv => by
    have hj : j < 96 := by have := (List.getElem?_eq_some_iff.1 hv).1; simpa [dc_size] using this
    rw [h j hj, ← dc_get D j hj]; simpa using hv)
  rw [Array.length_toList, dc_size] at hl
  have hagg : (isAgg 32).run Try.prog w = .ok true w := by kernel_rfl
  have hs : (sizeOf 32).run Try.prog w = .ok 96 w := by kernel_rfl
  simp only [loadVar, Sem.run_bind, hagg, Result.andThen_ok, if_true, hs, hl, Array.toArray_toList]
  rfl
section
variable {ops : Array Oper} {rest : List Oper} {o : Oper} {a : Act} {w : World} {Q : Exit → Act → World → Prop}
theorem load_arr_in (hgd : o.guard = none) (x : Operand) (ho : o.op = .load 32 x) (p : Addr) (hx : a.eval x = .pointer (some p)) (D : Nat → Nat) (hc : ∀ k, k < 96 → w.cell? (p.add k) = some (.int .u32 (D k)))
    (h : wpList Try.prog ops Q rest (a.put o.dst (.agg (dc D))) w) : wpList Try.prog ops Q (o :: rest) a w := by
  refine wpList_plain hgd fun K hK => ?_
  unfold Oper.wp execOp
  simp only [ho, hx, Instr.loadAt, Instr.sureAddr, Sem.run_bind, Sem.run_pure, Result.andThen_ok, run_load_at w p D hc]
  exact hK _ _ h
theorem store_drum_mid (hgd : o.guard = none) (x y : Operand) (ho : o.op = .store 33 x y) (g p : Nat) (E : Nat → Nat) (hx : a.eval x = .pointer (some ⟨g, p, none⟩)) (hy : a.eval y = .agg (dc E)) (ht : w.there g p 96)
    (h : wpList Try.prog ops Q rest (a.put o.dst undef) (w.setCells g p (dc E).toList)) : wpList Try.prog ops Q (o :: rest) a w :=
  wpList_store_mid hgd _ x y ho g p (dc E) hx hy (by rw [dc_size]; exact ht) (by rw [dc_size]; exact size_drum) (dc_one E) h
end
theorem ex_load_drum_mid {o : Oper} {a : Act} {W : World} (x : Operand) (ho : o.op = .load 33 x) (g p : Nat) (hx : a.eval x = .pointer (some ⟨g, p, none⟩)) (D : Nat → Nat) (hg : DrumCells W g p D) :
    (execOp a.eval o).run Try.prog W = .ok (.value (.agg (dc D))) W := by
  have h := run_loadVar_mid (P := Try.prog) W g p 33 (dc D).toList _ hg.range und_drum rfl (by rw [Array.length_toList, dc_size]; exact size_drum)
  rw [Array.toArray_toList] at h
  unfold execOp
  simp only [ho, hx, Instr.loadAt, Instr.sureAddr, Sem.run_bind, Sem.run_pure, Result.andThen_ok, h]
theorem there_part {w : World} {g N : Nat} (h : w.there g 0 N) (o n : Nat) (hn : o + n ≤ N) : w.there g o n := fun j hj => by have := h (o + j) (by omega); rw [Nat.zero_add] at this; exact this
theorem drum_same {w : World} {g o : Nat} (E : Nat → Nat) (h : w.there g o 96) : DrumCells (w.setCells g o (dc E).toList) g o E := fun k hk => by
  have := World.rangeAt_setCells_same w g o (dc E).toList (by rw [Array.length_toList, dc_size]; exact h) k (.int .u32 (E k)) (by have := dc_get E k hk; simpa using this)
  exact this
theorem drum_apart {w : World} {g' o' : Nat} {D : Nat → Nat} (h : DrumCells w g' o' D) (g o : Nat) (E : Nat → Nat) (hap : g' ≠ g ∨ o' + 96 ≤ o ∨ o + 96 ≤ o') : DrumCells (w.setCells g o (dc E).toList) g' o' D := fun k hk => by
  have := World.rangeAt_setCells_apart h.range g o (dc E).toList (by simpa [dc_size] using hap) k (.int .u32 (D k)) (by have := dc_get D k hk; simpa using this)
  exact this
theorem infoDrum : (Try.prog.info? 33).map (fun i => (i.zero, i.size, i.bytes)) = some (some (.agg (Array.replicate 96 (.int .u32 0))), 96, 384) := by kernel_rfl
theorem BlkAt.there {w : World} {T g N : Nat} {f : Nat → Value} (h : BlkAt w T g N f) : w.there g 0 N := fun j hj => by
  rw [Nat.zero_add]
  exact ⟨by rw [h.cell j hj]; rfl, h.frozen j⟩
theorem there_below {B : Nat} {w w' : World} {g o n : Nat} (h : w.there g o n) (hb : Below B w w') (hg : g < B) : w'.there g o n := fun j hj => by
  have := hb.block g hg
  unfold World.cell? World.frozen?
  have h2 := h j hj
  unfold World.cell? World.frozen? at h2
  simp only [this] at *
  exact h2

end Go.Proofs.Ytlcfjeofphncgaa
namespace Go.Proofs.Ytlcfjeofphncgaa
open Go.RowKit
set_option linter.unusedVariables false
set_option linter.unusedSimpArgs false

/-- the first number of a list that is not 0, 0 if there is none -/
def firstL : List Int → Int
  | [] => 0
  | x :: l => if x = 0 then firstL l else x
theorem firstL_nil : firstL [] = 0 := rfl
theorem firstL_zero {x : Int} (l : List Int) (h : x = 0) : firstL (x :: l) = firstL l := if_pos h
theorem firstL_at {x : Int} (l : List Int) (h : ¬ x = 0) : firstL (x :: l) = x := if_neg h
attribute [irreducible] firstL
set_option maxRecDepth 100000 in
theorem firstOf_any (l : List Int) (g T : Nat) (w : World) (hl : l.length ≤ 1000) (hg : w.heap[g]? = some (.cells (l.map (Value.int .i64)).toArray T (0, 0))) :
    Calls Try.prog 52 #[.slice (some ⟨g, 0, none⟩) l.length l.length] w fun e w' => e = .returned (.int .i64 (firstL l)) ∧ w = w' := by
  have HG := Lib.hid hg; clear hg
  obtain ⟨n, hn⟩ : ∃ n, l.length = n := ⟨_, rfl⟩
  rw [hn]
  have HN := Lib.hid hn
  rw [hn] at hl
  clear hn
  go_enter Try.func52, Try.ntmps52
  go_wp2
  go_loop [7] (fun i => ∃ k : Nat, k ≤ n ∧ i = .int .i64 k ∧ firstL l = firstL (l.drop k)) (fun i => n - (intOf i).toNat)
  case atStart => exact ⟨0, by omega, rfl, rfl⟩
  case round =>
    obtain ⟨k, hk, rfl, hF⟩ := hrel
    have HF := Lib.hid hF; clear hF
    by_cases hlt : k < n
    · obtain ⟨x, hx⟩ : ∃ x, l[k]? = some x := ⟨l[k]'(by rw [HN.out]; exact hlt), List.getElem?_eq_getElem _⟩
      have hd := Lib.hid (show l.drop k = x :: l.drop (k + 1) by
        obtain ⟨h1, h2⟩ := List.getElem?_eq_some_iff.1 hx
        rw [← h2]; exact List.drop_eq_getElem_cons h1)
      have c0 : w.cell? ⟨g, k, none⟩ = some (.int .i64 x) := by
        rw [cell_of_row w g k _ _ _ HG.out]; simp [hx]
      clear hx
      by_cases h0 : x = 0
      · have hs := Lib.hid (firstL_zero (l.drop (k + 1)) h0)
        subst h0
        go_wp2
        go_round
        case rel => exact ⟨k + 1, by omega, by go_num, by rw [HF.out, hd.out, hs.out]⟩
        case measure => simp [intOf]; omega
      · have hs := Lib.hid (firstL_at (l.drop (k + 1)) h0)
        go_wp2
        go_ret
        exact ⟨ret_int (by rw [HF.out, hd.out, hs.out]), rfl⟩
    · have hkn : k = n := by omega
      subst hkn
      have hs := Lib.hid (show l.drop k = [] from List.drop_eq_nil_of_le (by rw [HN.out]; omega))
      go_wp2
      go_ret
      exact ⟨ret_int (by rw [HF.out, hs.out, firstL_nil]), rfl⟩
/-- the code of a frame and m drums -/
def lcode (ok : Bool) (m : Nat) : Int := if ok then (if m ≤ 8 then 0 else 3) else 1
theorem lcode_false (m : Nat) : lcode false m = 1 := rfl
theorem lcode_few {m : Nat} (h : m ≤ 8) : lcode true m = 0 := by simp [lcode, h]
theorem lcode_many {m : Nat} (h : ¬ m ≤ 8) : lcode true m = 3 := by simp [lcode, h]
theorem lcode_zero {ok : Bool} {m : Nat} (h : lcode ok m = 0) : ok = true ∧ m ≤ 8 := by
  cases ok
  · simp [lcode] at h
  · by_cases hm : m ≤ 8
    · exact ⟨rfl, hm⟩
    · simp [lcode, hm] at h
attribute [irreducible] lcode
theorem firstL_lcode (ok : Bool) (m : Nat) : firstL [unl ok 1, unl (decide ((m : Int) ≤ 8)) 3] = lcode ok m := by
  cases ok
  · rw [firstL_at _ (by rw [unl_false]; simp), unl_false, lcode_false]
  · rw [firstL_zero _ (unl_true 1)]
    by_cases h : m ≤ 8
    · rw [decide_eq_true (by omega), firstL_zero _ (unl_true 3), firstL_nil, lcode_few h]
    · rw [decide_eq_false (by omega), firstL_at _ (by rw [unl_false]; simp), unl_false, lcode_many h]
/-- the same, of a list that must not be empty, and a first one -/
def scode (ok : Bool) (m : Nat) (f : Int) : Int := if lcode ok m = 0 then (if -1 ≤ f ∧ f ≤ (m : Int) - 1 then (if m = 0 then 6 else 0) else 2) else lcode ok m
theorem scode_bad {ok : Bool} {m : Nat} (f : Int) (h : ¬ lcode ok m = 0) : scode ok m f = lcode ok m := if_neg h
theorem scode_range {ok : Bool} {m : Nat} (f : Int) (h : lcode ok m = 0) (h1 : ¬ (-1 ≤ f ∧ f ≤ (m : Int) - 1)) : scode ok m f = 2 := by unfold scode; rw [if_pos h, if_neg h1]
theorem scode_none {ok : Bool} {m : Nat} (f : Int) (h : lcode ok m = 0) (h1 : -1 ≤ f ∧ f ≤ (m : Int) - 1) (h2 : m = 0) : scode ok m f = 6 := by unfold scode; rw [if_pos h, if_pos h1, if_pos h2]
theorem scode_ok {ok : Bool} {m : Nat} (f : Int) (h : lcode ok m = 0) (h1 : -1 ≤ f ∧ f ≤ (m : Int) - 1) (h2 : ¬ m = 0) : scode ok m f = 0 := by unfold scode; rw [if_pos h, if_pos h1, if_neg h2]
theorem scode_zero {ok : Bool} {m : Nat} {f : Int} (h : scode ok m f = 0) : (ok = true ∧ m ≤ 8) ∧ (-1 ≤ f ∧ f ≤ (m : Int) - 1) ∧ 0 < m := by
  by_cases h0 : lcode ok m = 0
  · refine ⟨lcode_zero h0, ?_⟩
    by_cases h1 : -1 ≤ f ∧ f ≤ (m : Int) - 1
    · by_cases h2 : m = 0
      · rw [scode_none f h0 h1 h2] at h; simp at h
      · exact ⟨h1, by omega⟩
    · rw [scode_range f h0 h1] at h; simp at h
  · rw [scode_bad f h0] at h; exact absurd h h0
attribute [irreducible] scode
set_option maxRecDepth 100000 in
theorem listCode_any (s : Int) (a : Option Addr) (n c : Nat) (P R : Nat → Int) (b : Option Addr) (m d : Nat) (L : Nat → Nat → Nat) (w : World) (hs : -32768 ≤ s ∧ s ≤ 32767) (hn : n ≤ 1048576) (hP : I8 P) (hR : I8 R) (hh : HamAt w a n P R) (hm : m ≤ 1048576) (hl : DrumsAt w b m L) :
    Calls Try.prog 35 #[.agg #[.int .i16 s, .slice a n c], .slice b m d] w fun e w' => e = .returned (.int .i64 (lcode (okAll s n P R m L) m)) ∧ Below w.heap.size w w' := by
  have HP := Lib.hid hP; have HR := Lib.hid hR
  clear hP hR
  have KB := Kp.base w
  have KH := kp_ham hh; have KL := kp_drums hl; clear hh hl
  replace KB := KB.alloc (.cells #[.int .i16 s, .slice a n c] 27)
  replace KH := KH.alloc (.cells #[.int .i16 s, .slice a n c] 27)
  replace KL := KL.alloc (.cells #[.int .i16 s, .slice a n c] 27)
  have KF := kp_new1 w #[.int .i16 s, .slice a n c] 27 (g := w.heap.size) (by simp)
  have HZ := Lib.hid (show (w.alloc (.cells #[.int .i16 s, .slice a n c] 27)).heap.size = w.heap.size + 1 by simp)
  go_enter Try.func35, Try.ntmps35
  go_wp2_with fail
  generalize (w.alloc (.cells #[.int .i16 s, .slice a n c] 27)) = W at KB KH KL KF HZ ⊢
  refine (drumCode_any s a n c P R b m d L W (by omega) (by omega) hs HP.out HR.out KH.here KL.here).mono ?_
  rintro e w1 ⟨rfl, hb1⟩
  replace KB := KB.on hb1
  obtain ⟨x, hx⟩ : ∃ x, unl (okAll s n P R m L) 1 = x := ⟨_, rfl⟩
  rw [hx]
  have HX := Lib.hid hx; clear hx
  clear hb1
  go_wp2_with (first | (go_at_call 54; refine (unless_any _ _ _).mono ?_; rintro e w2 ⟨rfl, rfl⟩) | (go_at_call 52; refine (firstOf_any [x, unl (decide ((m : Int) ≤ 8)) 3] w1.heap.size 2 _ (by simp) (heap_alloc_new w1 _)).mono ?_; rintro e w2 ⟨rfl, rfl⟩))
  go_ret
  exact ⟨ret_int (by rw [← HX.out, firstL_lcode]), (KB.alloc _).here⟩
set_option maxRecDepth 100000 in
theorem l05Asked_any (gf : Nat) (s : Int) (a : Option Addr) (n c : Nat) (P R : Nat → Int) (b : Option Addr) (m d : Nat) (L : Nat → Nat → Nat) (w : World) (hs : -32768 ≤ s ∧ s ≤ 32767) (hn : n ≤ 1048576) (hP : I8 P) (hR : I8 R) (hf : w.heap[gf]? = some (.cells #[.int .i16 s, .slice a n c] 27 (0, 0))) (hh : HamAt w a n P R) (hm : m ≤ 1048576) (hl : DrumsAt w b m L) :
    Calls Try.prog 37 #[.pointer (some ⟨gf, 0, none⟩), .slice b m d] w fun e w' => e = .returned (.int .i64 (lcode (okAll s n P R m L) m)) ∧ Below w.heap.size w w' := by
  have HP := Lib.hid hP; have HR := Lib.hid hR
  clear hP hR
  have KB := Kp.base w; have KF := kp_row hf
  have KH := kp_ham hh; have KL := kp_drums hl; clear hh hl hf
  cases hv : vFrame s n P R
  · go_enter Try.func37, Try.ntmps37
    go_wp2_with fail
    refine (l02Frame_any gf s a n c P R w (by omega) hs HP.out HR.out (row_lt KF.here) (row_cell 0 KF.here) (row_cell 1 KF.here) KH.here).mono ?_
    rw [hv]
    rintro e w1 ⟨rfl, hb1⟩
    go_wp2
    go_ret
    have : okAll s n P R m L = false := by
      rw [← Bool.not_eq_true, okAll_iff]
      rintro ⟨H, _⟩
      rw [hv] at H
      exact absurd H (by simp)
    exact ⟨ret_int (by rw [this, lcode_false]), KB.at hb1⟩
  · obtain ⟨hS, hN, _⟩ := vFrame_iff.1 hv
    go_enter Try.func37, Try.ntmps37
    go_wp2_with fail
    refine (l02Frame_any gf s a n c P R w (by omega) hs HP.out HR.out (row_lt KF.here) (row_cell 0 KF.here) (row_cell 1 KF.here) KH.here).mono ?_
    rw [hv]
    have HV := Lib.hid hv; clear hv
    rintro e w1 ⟨rfl, hb1⟩
    replace KB := KB.on hb1
    replace KF := KF.on hb1
    replace KH := KH.on hb1
    replace KL := KL.on hb1
    go_wp2
    go_loopw [5] (fun i w' => Below w1.heap.size w1 w' ∧ ∃ k : Nat, k ≤ m ∧ i = .int .i64 k ∧ ∀ j, j < k → vDrum s n (L j) = true) (fun i _ => m - (intOf i).toNat)
    case atStart => exact ⟨Below.refl _ _, 0, by omega, rfl, fun j hj => by omega⟩
    case round =>
      obtain ⟨hb, k, hk, rfl, hK⟩ := hrel
      have HK := Lib.hid hK; clear hK
      replace KB := KB.on hb
      replace KF := KF.on hb
      replace KH := KH.on hb
      replace KL := KL.on hb
      by_cases hlt : k < m
      · have hx := DrumsAt.get KL.here (show 0 < m by omega)
        obtain ⟨g, off, rfl, hg, hc⟩ := hx
        have HC := Lib.hid (hc k hlt); clear hc
        cases hd : vDrum s n (L k)
        all_goals
          go_wp2_with fail
          refine (l02DrumO_any gf g (off + k * 96) s a n c (L k) wr hN.2 hS.1 hS.2 (row_cell 0 KF.here) (row_cell 1 KF.here) HC.out).mono ?_
          rw [hd]
          rintro e w2 ⟨rfl, q, rfl⟩
          go_wp2
        · go_ret
          have : okAll s n P R m L = false := by
            rw [← Bool.not_eq_true, okAll_iff]
            rintro ⟨_, H⟩
            rw [H k hlt] at hd
            exact absurd hd (by simp)
          exact ⟨ret_int (by rw [this, lcode_false]), below_drewN KB.here _⟩
        · go_roundw
          case rel => exact ⟨below_drewN hb _, k + 1, by omega, by go_num, fun j hj => if e : j = k then e ▸ hd else HK.out j (by omega)⟩
          case measure => simp [intOf]; omega
      · have hok : okAll s n P R m L = true := okAll_iff.2 ⟨HV.out, fun j hj => HK.out j (by omega)⟩
        have HOK := Lib.hid hok; clear hok
        by_cases h8 : m ≤ 8
        · go_wp2
          go_ret
          exact ⟨ret_int (by rw [HOK.out, lcode_few h8]), KB.here⟩
        · go_wp2
          go_ret
          exact ⟨ret_int (by rw [HOK.out, lcode_many h8]), KB.here⟩
end Go.Proofs.Ytlcfjeofphncgaa
namespace Go.Proofs.Ytlcfjeofphncgaa
open Go.RowKit
set_option linter.unusedVariables false
set_option linter.unusedSimpArgs false

/-- a drum without pins, built -/
theorem built_drum : Try.prog.built 33 [] = some (Array.replicate 96 (.int .u32 0)) := by kernel_rfl
section
variable {ops : Array Oper} {rest : List Oper} {o : Oper} {a : Act} {w : World} {Q : Exit → Act → World → Prop}
theorem build_drum (hgd : o.guard = none) (ho : o.op = .build 33 #[]) (h : wpList Try.prog ops Q rest (a.put o.dst (.agg (dc fun _ => 0))) w) : wpList Try.prog ops Q (o :: rest) a w := by
  refine wpList_plain hgd fun K hK => ?_
  unfold Oper.wp
  have e : (execOp a.eval o).run Try.prog w = .ok (.value (.agg (dc fun _ => 0))) w := by
    have hb := run_build (P := Try.prog) w 33 #[] _ built_drum
    simp only [execOp, ho, Array.map_empty, Sem.run_bind, hb, Result.andThen_ok, dc_zero]
    rfl
  rw [e]
  exact hK _ _ h
/-- a drum without pins is built, and laid: what the world is then -/
theorem new_drum {o1 o2 o3 : Oper} (hg1 : o1.guard = none) (hg2 : o2.guard = none) (hg3 : o3.guard = none) (h1 : o1.op = .build 33 #[]) (h2 : o2.op = .alloc 33) (x y : Operand) (h3 : o3.op = .store 33 x y)
    (hx : ((a.put o1.dst (.agg (dc fun _ => 0))).put o2.dst (.pointer (some ⟨w.heap.size, 0, none⟩))).eval x = .pointer (some ⟨w.heap.size, 0, none⟩)) (hy : ((a.put o1.dst (.agg (dc fun _ => 0))).put o2.dst (.pointer (some ⟨w.heap.size, 0, none⟩))).eval y = .agg (dc fun _ => 0))
    (h : ∀ W, Below w.heap.size w W → W.heap.size = w.heap.size + 1 → DrumAt W 33 w.heap.size (fun _ => 0) → wpList Try.prog ops Q rest (((a.put o1.dst (.agg (dc fun _ => 0))).put o2.dst (.pointer (some ⟨w.heap.size, 0, none⟩))).put o3.dst undef) W) :
    wpList Try.prog ops Q (o1 :: o2 :: o3 :: rest) a w := by
  refine build_drum hg1 h1 (alloc_drum hg2 h2 (store_drum hg3 x y h3 w.heap.size (fun _ => 0) hx hy _ _ (DrumAt.new w _ _) ?_))
  exact h _ (below_setRow ((Below.refl _ _).alloc (Nat.le_refl _) _) (Nat.le_refl _) _) (by simp) ((DrumAt.new w _ _).setRow _)
/-- a copy of a drum is laid: what the world is then -/
theorem copy_drum {o2 o3 : Oper} (hg2 : o2.guard = none) (hg3 : o3.guard = none) (h2 : o2.op = .alloc 33) (x y : Operand) (h3 : o3.op = .store 33 x y) (E : Nat → Nat)
    (hx : (a.put o2.dst (.pointer (some ⟨w.heap.size, 0, none⟩))).eval x = .pointer (some ⟨w.heap.size, 0, none⟩)) (hy : (a.put o2.dst (.pointer (some ⟨w.heap.size, 0, none⟩))).eval y = .agg (dc E))
    (h : ∀ W, Below w.heap.size w W → W.heap.size = w.heap.size + 1 → DrumAt W 33 w.heap.size E → wpList Try.prog ops Q rest ((a.put o2.dst (.pointer (some ⟨w.heap.size, 0, none⟩))).put o3.dst undef) W) :
    wpList Try.prog ops Q (o2 :: o3 :: rest) a w := by
  refine alloc_drum hg2 h2 (store_drum hg3 x y h3 w.heap.size E hx hy _ _ (DrumAt.new w _ _) ?_)
  exact h _ (below_setRow ((Below.refl _ _).alloc (Nat.le_refl _) _) (Nat.le_refl _) _) (by simp) ((DrumAt.new w _ _).setRow _)
end
/-- two results: a drum in its own cell, and one more -/
theorem results_drum2 {fn : Func} {p q : Tmp} (h : fn.results = #[.cell p 33, .tmp q]) (tmps : Array Value) (w : World) (g T : Nat) (D : Nat → Nat) (v : Value)
    (hp : tmps.getD p undef = .pointer (some ⟨g, 0, none⟩)) (hg : DrumAt w T g D) (hv : tmps.getD q undef = v) : (results fn tmps).run Try.prog w = .ok (.tuple #[.agg (dc D), v]) w := by
  have hp' : tmps[p]?.getD undef = .pointer (some ⟨g, 0, none⟩) := by simpa using hp
  have hv' : tmps[q]?.getD undef = v := by simpa using hv
  simp [results, h, hp', hv', asAddr, run_loadVar_row w g T 33 (dc D) (0, 0) _ hg und_drum rfl (by rw [dc_size]; exact size_drum)]
end Go.Proofs.Ytlcfjeofphncgaa
namespace Go.Proofs.Ytlcfjeofphncgaa
open Go.RowKit
set_option linter.unusedVariables false
set_option linter.unusedSimpArgs false

theorem l05Both_any (gf ga gb : Nat) (s : Int) (a : Option Addr) (n c : Nat) (P R : Nat → Int) (L : Nat → Nat → Nat) (w : World) (hn : n ≤ 1000000000) (hs : -32768 ≤ s ∧ s ≤ 32767) (hP : I8 P) (hR : I8 R)
    (hgf : gf < w.heap.size) (h0 : w.cell? ⟨gf, 0, none⟩ = some (.int .i16 s)) (h1 : w.cell? ⟨gf, 1, none⟩ = some (.slice a n c)) (hh : HamAt w a n P R)
    (hga : ga < w.heap.size) (hgb : gb < w.heap.size) (hda : DrumCells w ga 0 (L 0)) (hdb : DrumCells w gb 0 (L 1)) :
    Calls Try.prog 49 #[.pointer (some ⟨gf, 0, none⟩), .pointer (some ⟨ga, 0, none⟩), .pointer (some ⟨gb, 0, none⟩)] w fun e w' => e = .returned (.int .i64 (unl (okAll s n P R 2 L) 1)) ∧ Below w.heap.size w w' := by
  have HP := Lib.hid hP; have HR := Lib.hid hR; have HH := Lib.hid hh; have HA := Lib.hid hda; have HB := Lib.hid hdb; have F0 := Lib.hid h0; have F1 := Lib.hid h1
  clear hP hR hh hda hdb h0 h1
  have hno : ∀ i, i < 2 → vDrum s n (L i) = false → okAll s n P R 2 L = false := fun i hi h => by
    rw [← Bool.not_eq_true, okAll_iff]
    rintro ⟨_, H⟩
    rw [H i hi] at h
    exact absurd h (by simp)
  have HNO := Lib.hid hno; clear hno
  cases hv : vFrame s n P R
  · go_enter Try.func49, Try.ntmps49
    go_wp2_with (go_at_call 66; refine (l02Frame_any gf s a n c P R _ (by omega) hs HP.out HR.out hgf F0.out F1.out HH.out).mono ?_; rintro e w1 ⟨rfl, hb1⟩)
    go_ret
    have : okAll s n P R 2 L = false := by
      rw [← Bool.not_eq_true, okAll_iff]
      rintro ⟨H, _⟩
      rw [hv] at H
      exact absurd H (by simp)
    exact ⟨ret_int (by rw [this, unl_false]), hb1⟩
  · obtain ⟨hS, hN, _⟩ := vFrame_iff.1 hv
    cases hd0 : vDrum s n (L 0)
    · go_enter Try.func49, Try.ntmps49
      go_wp2_with fail
      refine (l02Frame_any gf s a n c P R _ (by omega) hs HP.out HR.out hgf F0.out F1.out HH.out).mono ?_
      rintro e w1 ⟨rfl, hb1⟩
      go_wp2_with fail
      refine (l02Drum_any gf ga s a n c (L 0) _ hN.2 hS.1 hS.2 ((hb1.cell hgf).trans F0.out) ((hb1.cell hgf).trans F1.out) (HA.out.below hb1 hga)).mono ?_
      rintro e w2 ⟨rfl, q, rfl⟩
      go_wp2
      go_ret
      exact ⟨ret_int (by rw [HNO.out 0 (by omega) hd0, unl_false]), below_drewN hb1 _⟩
    · cases hd1 : vDrum s n (L 1)
      all_goals
        go_enter Try.func49, Try.ntmps49
        go_wp2_with fail
        refine (l02Frame_any gf s a n c P R _ (by omega) hs HP.out HR.out hgf F0.out F1.out HH.out).mono ?_
        rintro e w1 ⟨rfl, hb1⟩
        go_wp2_with fail
        refine (l02Drum_any gf ga s a n c (L 0) _ hN.2 hS.1 hS.2 ((hb1.cell hgf).trans F0.out) ((hb1.cell hgf).trans F1.out) (HA.out.below hb1 hga)).mono ?_
        rintro e w2 ⟨rfl, q, rfl⟩
        go_wp2_with fail
        refine (l02Drum_any gf gb s a n c (L 1) (w1.drewN q) hN.2 hS.1 hS.2 ((hb1.cell hgf).trans F0.out) ((hb1.cell hgf).trans F1.out) (HB.out.below (below_drewN hb1 q) hgb)).mono ?_
        rintro e w3 ⟨rfl, q', rfl⟩
        go_wp2
        go_ret
      · exact ⟨ret_int (by rw [HNO.out 1 (by omega) hd1, unl_false]), below_drewN hb1 _⟩
      · refine ⟨ret_int ?_, below_drewN hb1 _⟩
        rw [okAll_iff.2 ⟨hv, fun i hi => by rcases (by omega : i = 0 ∨ i = 1) with rfl | rfl <;> assumption⟩, unl_true]
end Go.Proofs.Ytlcfjeofphncgaa
