/- The pins of a drum are called for, one by one. No conditions. -/
import Derived.Test.YtlcfjeofphncgaaWp
import Derived.Test.YtlcfjeofphncgaaOwn
import Derived.Outline
namespace Go.Proofs.Ytlcfjeofphncgaa
open Go.RowKit
set_option linter.unusedVariables false
set_option linter.unusedSimpArgs false

/-- memory but for blocks of two types is as it was -/
def KeepT (T1 T2 : Nat) (w w' : World) : Prop := w.heap.size ≤ w'.heap.size ∧ ∀ (x : Nat) cs (T : Nat) f, w.heap[x]? = some (.cells cs T f) → T ≠ T1 → T ≠ T2 → w'.heap[x]? = some (.cells cs T f)
theorem KeepT.refl (T1 T2 : Nat) (w : World) : KeepT T1 T2 w w := ⟨Nat.le_refl _, fun _ _ _ _ h _ _ => h⟩
theorem KeepT.trans {T1 T2 : Nat} {w w1 w2 : World} (h : KeepT T1 T2 w w1) (h2 : KeepT T1 T2 w1 w2) : KeepT T1 T2 w w2 :=
  ⟨Nat.le_trans h.1 h2.1, fun x cs T f hx n1 n2 => h2.2 x cs T f (h.2 x cs T f hx n1 n2) n1 n2⟩
theorem KeepT.below {T1 T2 : Nat} {w w' : World} (h : Below w.heap.size w w') : KeepT T1 T2 w w' := ⟨h.size, fun x cs T f hx _ _ => (h.block x (Array.getElem?_eq_some_iff.1 hx).1).trans hx⟩
theorem KeepT.row {T1 T2 : Nat} {w w' : World} (h : KeepT T1 T2 w w') {x : Nat} {cs : Array Value} {T : Nat} {f : Nat × Nat} (hx : w.heap[x]? = some (.cells cs T f)) (n1 : T ≠ T1) (n2 : T ≠ T2) : w'.heap[x]? = some (.cells cs T f) := h.2 x cs T f hx n1 n2
theorem place_div {n k t : Nat} (ht : t < n) : (k * n + t) / n = k ∧ (k * n + t) % n = t := by
  have hn : 0 < n := by omega
  constructor
  · rw [Nat.mul_comm, Nat.mul_add_div hn, Nat.div_eq_of_lt ht, Nat.add_zero]
  · rw [Nat.mul_comm, Nat.mul_add_mod, Nat.mod_eq_of_lt ht]
theorem call_enter (K : FuncId) (fn : Func) (h : Try.prog.funcs[K]? = some fn) (h1 : (fn.name == "runtime.NumGoroutine") = false) (h2 : fn.body.isNone = false) : ∀ (args : Array Value) (W : World), (callFunc K args).run Try.prog W = .ok (.enter K args) W := by
  intro args W
  unfold callFunc
  rw [Sem.run_bind]
  show Result.andThen (.ok Try.prog W) _ = _
  simp only [Result.andThen_ok, h, h1, h2, Bool.false_eq_true, if_false, Sem.run_pure]
set_option maxRecDepth 100000 in
set_option maxHeartbeats 1000000 in
/-- Inv j: what holds when the first j places (by the step, then by the track) have been looked at -/
theorem pins_any (T1 T2 : Nat) (s : Int) (a : Option Addr) (n c : Nat) (D : Nat → Nat) (K : FuncId) (caps : Array Value) (Inv : Nat → World → Prop) (w : World) (hs : 2 ≤ s ∧ s ≤ 96) (hn : 1 ≤ n ∧ n ≤ 24) (hD : D32 D)
    (hT1 : T1 ≠ 27 ∧ T1 ≠ 33) (hT2 : T2 ≠ 27 ∧ T2 ≠ 33)
    (hK : ∀ (args : Array Value) (W : World), (callFunc K args).run Try.prog W = .ok (.enter K args) W)
    (hyes : ∀ (j k t : Nat) (W : World), (k : Int) < s → t < n → j = k * n + t → hasPin D k t = true → Inv j W → Calls Try.prog K (#[.int .i64 (k : Int), .int .i64 (t : Int)] ++ caps) W fun e W' => e = .returned (.tuple #[]) ∧ Inv (j + 1) W' ∧ KeepT T1 T2 W W')
    (hno : ∀ (j k t : Nat) (W : World), (k : Int) < s → t < n → j = k * n + t → hasPin D k t = false → Inv j W → Inv (j + 1) W)
    (hst : ∀ (j : Nat) (W W' : World), Inv j W → Below W.heap.size W W' → Inv j W') (h0 : Inv 0 w) :
    Calls Try.prog 69 #[.agg #[.int .i16 s, .slice a n c], .agg (dc D), .func (.func K) #[] caps] w fun e w' => e = .returned (.tuple #[]) ∧ Inv (s.toNat * n) w' ∧ KeepT T1 T2 w w' := by
  have HD := Lib.hid hD; have HY := Lib.hid hyes; have HNO := Lib.hid hno; have HST := Lib.hid hst; have H0 := Lib.hid h0; have HT1 := Lib.hid hT1; have HT2 := Lib.hid hT2
  clear hD hyes hno hst h0 hT1 hT2
  have KB := Kp.base w
  replace KB := KB.alloc (.cells #[.int .i16 s, .slice a n c] 27)
  have KF := kp_new1 w #[.int .i16 s, .slice a n c] 27 (g := w.heap.size) (by simp)
  replace KB := KB.alloc (.cells (dc D) 33)
  replace KF := KF.alloc (.cells (dc D) 33)
  have KD := kp_newd (w.alloc (.cells #[.int .i16 s, .slice a n c] 27)) (D) 33 (g := w.heap.size + 1) (by simp)
  have HZ := Lib.hid (show ((w.alloc (.cells #[.int .i16 s, .slice a n c] 27)).alloc (.cells (dc D) 33)).heap.size = w.heap.size + 1 + 1 by simp)
  have kf := KF.here; have kd := KD.here
  have hi0 := HST.out 0 _ _ H0.out KB.here
  have hk0 := KeepT.below (T1 := T1) (T2 := T2) KB.here
  obtain ⟨W, hW⟩ : ∃ W, W = (w.alloc (.cells #[.int .i16 s, .slice a n c] 27)).alloc (.cells (dc D) 33) := ⟨_, rfl⟩
  rw [← hW] at kf kd hi0 hk0
  have HKF := Lib.hid kf; have HKD := Lib.hid kd; have HI0 := Lib.hid hi0; have HK0 := Lib.hid hk0
  clear kf kd hi0 hk0 KF KD KB H0
  have f0 := row_cell 0 HKF.out
  rw [hW] at f0
  have HW := Lib.hid hW; clear hW
  go_enter Try.func69, Try.ntmps69
  go_wp2
  rw [← HW.out]
  clear f0 HW HZ
  go_loopw [11] (fun i w' => KeepT T1 T2 w w' ∧ w'.heap[w.heap.size]? = some (.cells #[.int .i16 s, .slice a n c] 27 (0, 0)) ∧ DrumAt w' 33 (w.heap.size + 1) D ∧ ∃ k : Nat, (k : Int) ≤ s ∧ i = .int .i64 k ∧ Inv (k * n) w') (fun i _ => (s - intOf i).toNat)
  case atStart => exact ⟨HK0.out, HKF.out, HKD.out, 0, by omega, rfl, by rw [Nat.zero_mul]; exact HI0.out⟩
  case round =>
    clear HKF HKD HI0 HK0
    obtain ⟨hkp, hkf, hkd, k, hk, rfl, hinv⟩ := hrel
    have HKP := Lib.hid hkp; have HKF := Lib.hid hkf; have HKD := Lib.hid hkd; have HINV := Lib.hid hinv
    clear hkp hkf hkd hinv
    have f1 := row_cell 1 HKF.out
    by_cases hlt : (k : Int) < s
    · go_wp2_with (go_at_call 90; refine (sizeHammer_any _ _ _ _ (by omega)).mono ?_; rintro e w2 ⟨rfl, rfl⟩)
      clear f1
      go_loopw [17] (fun i w' => KeepT T1 T2 w w' ∧ w'.heap[w.heap.size]? = some (.cells #[.int .i16 s, .slice a n c] 27 (0, 0)) ∧ DrumAt w' 33 (w.heap.size + 1) D ∧ ∃ t : Nat, t ≤ n ∧ i = .int .i64 t ∧ Inv (k * n + t) w') (fun i _ => n - (intOf i).toNat)
      case atStart => exact ⟨HKP.out, HKF.out, HKD.out, 0, by omega, rfl, HINV.out⟩
      case round =>
        clear HKP HKF HKD HINV
        obtain ⟨hkp, hkf, hkd, t, ht, rfl, hinv⟩ := hrel
        have HKP := Lib.hid hkp; have HKF := Lib.hid hkf; have HKD := Lib.hid hkd; have HINV := Lib.hid hinv
        clear hkp hkf hkd hinv
        by_cases hlt2 : t < n
        · have ht' : (t : Int) < n := by omega
          cases hp : hasPin D k t
          · have hi := Lib.hid (HNO.out _ k t _ hlt hlt2 rfl hp HINV.out)
            go_wp2_with (go_at_call 91; refine (has_any (w.heap.size + 1) 33 D k t _ HD.out (by omega) (by omega) HKD.out).mono ?_; rw [hp]; rintro e w2 ⟨rfl, rfl⟩)
            go_roundw
            case rel => exact ⟨HKP.out, HKF.out, HKD.out, t + 1, by omega, by go_num, hi.out⟩
            case measure => simp [intOf]; omega
          · have hcall := Lib.hid (HY.out _ k t _ hlt hlt2 rfl hp HINV.out)
            go_wp2_with (go_at_call 91; refine (has_any (w.heap.size + 1) 33 D k t _ HD.out (by omega) (by omega) HKD.out).mono ?_; rw [hp]; rintro e w2 ⟨rfl, rfl⟩)
            refine hcall.out.mono ?_
            rintro e w2 ⟨rfl, hi2, hk2⟩
            have HI2 := Lib.hid hi2; have HKP2 := Lib.hid (HKP.out.trans hk2); have HKF2 := Lib.hid (hk2.row HKF.out HT1.out.1.symm HT2.out.1.symm); have HKD2 := Lib.hid (show DrumAt w2 33 (w.heap.size + 1) D from hk2.row HKD.out HT1.out.2.symm HT2.out.2.symm)
            clear hi2 hk2
            go_wp2
            go_roundw
            case rel => exact ⟨HKP2.out, HKF2.out, HKD2.out, t + 1, by omega, by go_num, HI2.out⟩
            case measure => simp [intOf]; omega
        · have htn : t = n := by omega
          subst htn
          go_wp2
          go_roundw
          case rel => exact ⟨HKP.out, HKF.out, HKD.out, k + 1, by omega, by go_num, by rw [Nat.add_mul, Nat.one_mul]; exact HINV.out⟩
          case measure => simp [intOf]; omega
    · have hks : (k : Int) = s := by omega
      go_wp2
      go_end0
      exact ⟨rfl, by rw [show s.toNat = k by omega]; exact HINV.out, HKP.out⟩
end Go.Proofs.Ytlcfjeofphncgaa
