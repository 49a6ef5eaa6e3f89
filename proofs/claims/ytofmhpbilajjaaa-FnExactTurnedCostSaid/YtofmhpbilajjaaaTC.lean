/- TurnedCost by the reference and by the program. No conditions. -/
import Derived.Test.YtofmhpbilajjaaaCC
import Derived.Test.YtofmhpbilajjaaaKp
import Derived.Outline
namespace Go.Proofs.Ytofmhpbilajjaaa
open Go.RowKit
set_option linter.unusedVariables false
set_option linter.unusedSimpArgs false

/-- a drum without pins, built -/
theorem built_drum : Try.prog.built 63 [] = some (Array.replicate 96 (.int .u32 0)) := by kernel_rfl
section
variable {ops : Array Oper} {rest : List Oper} {o : Oper} {a : Act} {w : World} {Q : Exit → Act → World → Prop}
theorem build_drum (hgd : o.guard = none) (ho : o.op = .build 63 #[]) (h : wpList Try.prog ops Q rest (a.put o.dst (.agg (dc fun _ => 0))) w) : wpList Try.prog ops Q (o :: rest) a w := by
  refine wpList_plain hgd fun K hK => ?_
  unfold Oper.wp
  have e : (execOp a.eval o).run Try.prog w = .ok (.value (.agg (dc fun _ => 0))) w := by
    have hb := run_build (P := Try.prog) w 63 #[] _ built_drum
    simp only [execOp, ho, Array.map_empty, Sem.run_bind, hb, Result.andThen_ok, dc_zero]
    rfl
  rw [e]
  exact hK _ _ h
/-- a drum without pins is built, and laid: what the world is then -/
theorem new_drum {o1 o2 o3 : Oper} (hg1 : o1.guard = none) (hg2 : o2.guard = none) (hg3 : o3.guard = none) (h1 : o1.op = .build 63 #[]) (h2 : o2.op = .alloc 63) (x y : Operand) (h3 : o3.op = .store 63 x y)
    (hx : ((a.put o1.dst (.agg (dc fun _ => 0))).put o2.dst (.pointer (some ⟨w.heap.size, 0, none⟩))).eval x = .pointer (some ⟨w.heap.size, 0, none⟩)) (hy : ((a.put o1.dst (.agg (dc fun _ => 0))).put o2.dst (.pointer (some ⟨w.heap.size, 0, none⟩))).eval y = .agg (dc fun _ => 0))
    (h : ∀ W, Below w.heap.size w W → W.heap.size = w.heap.size + 1 → DrumAt W 63 w.heap.size (fun _ => 0) → wpList Try.prog ops Q rest (((a.put o1.dst (.agg (dc fun _ => 0))).put o2.dst (.pointer (some ⟨w.heap.size, 0, none⟩))).put o3.dst undef) W) :
    wpList Try.prog ops Q (o1 :: o2 :: o3 :: rest) a w := by
  refine build_drum hg1 h1 (alloc_drum hg2 h2 (store_drum hg3 x y h3 w.heap.size (fun _ => 0) hx hy _ _ (DrumAt.new w _ _) ?_))
  exact h _ (below_setRow ((Below.refl _ _).alloc (Nat.le_refl _) _) (Nat.le_refl _) _) (by simp) ((DrumAt.new w _ _).setRow _)
end
/-- the first k rows, turned -/
def turnTo (m b : Nat) (D : Nat → Nat) : Nat → Nat → Nat
  | 0 => fun _ => 0
  | k + 1 => upd (turnTo m b D k) ((k + b) % m) (D k)
theorem turnTo_zero (m b : Nat) (D : Nat → Nat) : turnTo m b D 0 = fun _ => 0 := rfl
theorem turnTo_succ (m b : Nat) (D : Nat → Nat) (k : Nat) : turnTo m b D (k + 1) = upd (turnTo m b D k) ((k + b) % m) (D k) := rfl
theorem turnTo_32 {m b : Nat} {D : Nat → Nat} (h : D32 D) (k : Nat) : D32 (turnTo m b D k) := by
  induction k with
  | zero => intro j; rw [turnTo_zero]; simp
  | succ k ih => rw [turnTo_succ]; exact upd_32 ih (h k)
/-- a drum turned by b of m steps -/
def turnD (m b : Nat) (D : Nat → Nat) : Nat → Nat := turnTo m b D m
theorem turnD_32 {m b : Nat} {D : Nat → Nat} (h : D32 D) : D32 (turnD m b D) := turnTo_32 h m
theorem turnD_def (m b : Nat) (D : Nat → Nat) : turnD m b D = turnTo m b D m := rfl
attribute [irreducible] turnTo turnD
def tcCost (D E : Nat → Nat) (m b : Nat) : Nat := cnt (lessD D (turnD m b E)) + cnt (lessD (turnD m b E) D)
theorem tcCost_def (D E : Nat → Nat) (m b : Nat) : tcCost D E m b = cnt (lessD D (turnD m b E)) + cnt (lessD (turnD m b E) D) := rfl
theorem tcCost_le (D E : Nat → Nat) (m b : Nat) : tcCost D E m b ≤ 6144 := by
  have h1 := cnt_le (lessD D (turnD m b E)); have h2 := cnt_le (lessD (turnD m b E) D)
  rw [tcCost_def]; omega
/-- the least cost of the first b turns, and its turn -/
def tc (c : Nat → Nat) : Nat → Int × Int
  | 0 => (-1, 0)
  | b + 1 => if (tc c b).1 < 0 ∨ (c b : Int) < (tc c b).1 then ((c b : Int), (b : Int)) else tc c b
theorem tc_zero (c : Nat → Nat) : tc c 0 = (-1, 0) := rfl
theorem tc_yes (c : Nat → Nat) (b : Nat) (h : (tc c b).1 < 0 ∨ (c b : Int) < (tc c b).1) : tc c (b + 1) = ((c b : Int), (b : Int)) := if_pos h
theorem tc_no (c : Nat → Nat) (b : Nat) (h : ¬ ((tc c b).1 < 0 ∨ (c b : Int) < (tc c b).1)) : tc c (b + 1) = tc c b := if_neg h
theorem tc_bound (c : Nat → Nat) (M : Nat) (hc : ∀ b, c b ≤ M) (b : Nat) : -1 ≤ (tc c b).1 ∧ (tc c b).1 ≤ M ∧ 0 ≤ (tc c b).2 ∧ (tc c b).2 ≤ b := by
  induction b with
  | zero => rw [tc_zero]; simp <;> omega
  | succ b ih =>
    by_cases h : (tc c b).1 < 0 ∨ (c b : Int) < (tc c b).1
    · rw [tc_yes c b h]; have := hc b; simp; omega
    · rw [tc_no c b h]; omega
attribute [irreducible] tcCost tc
def twoD (D E : Nat → Nat) : Nat → Nat → Nat := fun i => if i = 0 then D else E
theorem twoD_0 (D E : Nat → Nat) : twoD D E 0 = D := rfl
theorem twoD_1 (D E : Nat → Nat) : twoD D E 1 = E := rfl
def tcLeast (s : Int) (n : Nat) (P R : Nat → Int) (D E : Nat → Nat) : Int := sel (okAll s n P R 2 (twoD D E)) (tc (tcCost D E s.toNat) s.toNat).1
def tcBest (s : Int) (n : Nat) (P R : Nat → Int) (D E : Nat → Nat) : Int := sel (okAll s n P R 2 (twoD D E)) (tc (tcCost D E s.toNat) s.toNat).2
def tcCode (s : Int) (n : Nat) (P R : Nat → Int) (D E : Nat → Nat) : Int := unl (okAll s n P R 2 (twoD D E)) 1
theorem mod_nat (k b m : Nat) : ((k : Int) + (b : Int)) % (m : Int) = (((k + b) % m : Nat) : Int) := by rw [← Int.natCast_add, ← Int.natCast_emod]
theorem tmod_nat (k b m : Nat) : ((k : Int) + (b : Int)).tmod (m : Int) = (((k + b) % m : Nat) : Int) := by rw [← Int.natCast_add, ← Int.ofNat_tmod]

set_option maxRecDepth 100000 in
theorem turned_any (m : Nat) (a : Option Addr) (n c : Nat) (D : Nat → Nat) (b : Nat) (w : World) (hm : 2 ≤ m) (hm2 : m ≤ 96) (hbm : b < m) (hD : D32 D) :
    Calls Try.prog 90 #[.agg #[.int .i16 (m : Int), .slice a n c], .agg (dc D), .int .i64 (b : Int)] w fun e w' => e = .returned (.agg (dc (turnD m b D))) ∧ Below w.heap.size w w' := by
  have hg2 := DrumAt.new ((w.alloc (.cells #[.int .i16 (m : Int), .slice a n c] 61)).alloc (.cells (dc D) 63)) 63 (fun _ => 0)
  have hg1 := (DrumAt.new (w.alloc (.cells #[.int .i16 (m : Int), .slice a n c] 61)) 63 D).alloc (.cells (dc fun _ => 0) 63)
  have hg0 := ((FrameAt.new w (m : Int) a n c).alloc (.cells (dc D) 63)).alloc (.cells (dc fun _ => 0) 63)
  have hb0 : Below w.heap.size w (((w.alloc (.cells #[.int .i16 (m : Int), .slice a n c] 61)).alloc (.cells (dc D) 63)).alloc (.cells (dc fun _ => 0) 63)) := (((Below.refl _ _).alloc (Nat.le_refl _) _).alloc (by simp) _).alloc (by simp; omega) _
  have hz0 : (((w.alloc (.cells #[.int .i16 (m : Int), .slice a n c] 61)).alloc (.cells (dc D) 63)).alloc (.cells (dc fun _ => 0) 63)).heap.size = w.heap.size + 1 + 1 + 1 := by simp
  rw [show ((w.alloc (.cells #[.int .i16 (m : Int), .slice a n c] 61)).alloc (.cells (dc D) 63)).heap.size = w.heap.size + 1 + 1 by simp] at hg2
  rw [show (w.alloc (.cells #[.int .i16 (m : Int), .slice a n c] 61)).heap.size = w.heap.size + 1 by simp] at hg1
  have H0 := Lib.hid hg0; have H1 := Lib.hid hg1; have H2 := Lib.hid hg2; have HB := Lib.hid hb0; have HD := Lib.hid hD; have HZ := Lib.hid hz0
  clear hg0 hg1 hg2 hb0 hD hz0
  go_enter Try.func90, Try.ntmps90
  go_wp2_with (first | (with_reducible refine new_drum rfl rfl rfl rfl rfl _ _ rfl rfl rfl ?_; intro W hb hz hg3; rw [HZ.out] at hb hz hg3; have HBW := Lib.hid (HB.out.trans (hb.mono (by omega))); have K0 := Lib.hid (H0.out.below hb (by omega)); have K1 := Lib.hid (H1.out.below hb (by omega)); have K2 := Lib.hid (H2.out.below hb (by omega)); have HZ1 := Lib.hid hz; have H3 := Lib.hid hg3; clear hz hg3 hb H0 H1 H2; have c0 := K0.out.c0) | (with_reducible refine alloc_drum ?_ ?_ ?_; with_reducible rfl; with_reducible rfl))
  clear c0 HZ HB
  go_loopw [13] (fun i w' => Below w.heap.size w w' ∧ FrameAt w' w.heap.size (m : Int) a n c ∧ DrumAt w' 63 (w.heap.size + 1) D ∧ DrumAt w' 63 (w.heap.size + 1 + 1) (fun _ => 0) ∧ ∃ k : Nat, k ≤ m ∧ i = .int .i64 k ∧ DrumAt w' 63 (w.heap.size + 1 + 1 + 1) (turnTo m b D k)) (fun i _ => m - (intOf i).toNat)
  case atStart => exact ⟨HBW.out, K0.out, K1.out, K2.out, 0, by omega, rfl, by rw [turnTo_zero]; exact H3.out⟩
  case round =>
    clear HBW K0 K1 K2 H3 HZ1
    obtain ⟨hb, h0, h1, h2, k, hk, rfl, h3⟩ := hrel
    have H0 := Lib.hid h0; have H1 := Lib.hid h1; have H2 := Lib.hid h2; have H3 := Lib.hid h3; clear h0 h1 h2 h3
    by_cases hlt : k < m
    · have c0 := H0.out.c0
      have c1 := H1.out.cell k (by omega)
      have hq := Nat.mod_lt (k + b) (show 0 < m by omega)
      have hmod := mod_nat k b m
      have hmod' := tmod_nat k b m
      obtain ⟨r, hr⟩ : ∃ r, (k + b) % m = r := ⟨_, rfl⟩
      rw [hr] at hq hmod hmod'
      have HR := Lib.hid hr; clear hr
      have c3 := H3.out.cell r (by omega)
      have hf := H3.out.frozen r
      have q1 := i64_id (x := (k : Int) + (b : Int)) (by omega)
      have q2 := i64_id (x := (m : Int)) (by omega)
      go_wp2
      have hm0 : ¬ m = 0 := by omega
      have hk96 : (k : Int) < 96 := by omega
      have hr96 : (r : Int) < 96 := by omega
      go_still_tail 11, (by kernel_rfl)
      go_wp2
      go_roundw
      case rel =>
        have h3 := H3.out.setCell r (D k) (by omega)
        rw [show upd (turnTo m b D k) r (D k) = turnTo m b D (k + 1) by rw [turnTo_succ, HR.out]] at h3
        exact ⟨(hb.setCell (by simp; omega) _).drew, (heap_setCell_other wr _ _ _ (by simp; omega)).trans H0.out, (H1.out.setOther _ _ (by simp)), H2.out.setOther _ _ (by simp), k + 1, by omega, by go_num, h3⟩
      case measure => simp [intOf]; omega
    · have hkm : k = m := by omega
      subst hkm
      have h2 := H2.out
      have h3 := H3.out
      rw [← turnD_def] at h3
      have h2' := h2.setRow (turnD k b D)
      go_wp2_with (first | (with_reducible refine load_drum rfl _ rfl (w.heap.size + 1 + 1 + 1) rfl _ (turnD k b D) h3 ?_) | (with_reducible refine store_drum rfl _ _ rfl (w.heap.size + 1 + 1) (turnD k b D) rfl rfl _ _ h2 ?_))
      refine bodyPost_ret (results_drum rfl _ _ (w.heap.size + 1 + 1) _ (turnD k b D) rfl h2') rfl ⟨rfl, below_setRow hb (by omega) _⟩
set_option maxRecDepth 100000 in
set_option maxHeartbeats 1000000 in
theorem specTurnedCost_any (s : Int) (a : Option Addr) (n c : Nat) (P R : Nat → Int) (D E : Nat → Nat) (w : World) (hs : -32768 ≤ s ∧ s ≤ 32767) (hn : n ≤ 1048576) (hP : I8 P) (hR : I8 R) (hh : HamAt w a n P R) (hD : D32 D) (hE : D32 E) :
    Calls Try.prog 37 #[.agg #[.int .i16 s, .slice a n c], .agg (dc D), .agg (dc E)] w fun e w' =>
      e = .returned (.tuple #[.int .i64 (tcLeast s n P R D E), .int .i64 (tcBest s n P R D E), .int .i64 (tcCode s n P R D E)]) ∧ Below w.heap.size w w' := by
  have HP := Lib.hid hP; have HR := Lib.hid hR; have HD := Lib.hid hD; have HE := Lib.hid hE
  clear hP hR hD hE
  have KB := Kp.base w
  have KH := kp_ham hh; clear hh
  replace KB := KB.alloc (.cells #[.int .i16 s, .slice a n c] 61)
  replace KH := KH.alloc (.cells #[.int .i16 s, .slice a n c] 61)
  have KF := kp_new1 w #[.int .i16 s, .slice a n c] 61 (g := w.heap.size) (by simp)
  replace KB := KB.alloc (.cells (dc D) 63)
  replace KH := KH.alloc (.cells (dc D) 63)
  replace KF := KF.alloc (.cells (dc D) 63)
  have K1 := kp_newd (w.alloc (.cells #[.int .i16 s, .slice a n c] 61)) (D) 63 (g := w.heap.size + 1) (by simp)
  replace KB := KB.alloc (.cells (dc E) 63)
  replace KH := KH.alloc (.cells (dc E) 63)
  replace KF := KF.alloc (.cells (dc E) 63)
  replace K1 := K1.alloc (.cells (dc E) 63)
  have K2 := kp_newd ((w.alloc (.cells #[.int .i16 s, .slice a n c] 61)).alloc (.cells (dc D) 63)) (E) 63 (g := w.heap.size + 1 + 1) (by simp)
  have HZ := Lib.hid (show (((w.alloc (.cells #[.int .i16 s, .slice a n c] 61)).alloc (.cells (dc D) 63)).alloc (.cells (dc E) 63)).heap.size = w.heap.size + 1 + 1 + 1 by simp)
  go_enter Try.func37, Try.ntmps37
  go_wp2_with fail
  generalize (((w.alloc (.cells #[.int .i16 s, .slice a n c] 61)).alloc (.cells (dc D) 63)).alloc (.cells (dc E) 63)) = W at KB KH KF K1 K2 HZ ⊢
  refine (l05Both_any w.heap.size (w.heap.size + 1) (w.heap.size + 1 + 1) s a n c P R (twoD D E) W (by omega) hs HP.out HR.out (row_lt KF.here) (row_cell 0 KF.here) (row_cell 1 KF.here) KH.here (row_lt K1.here) (row_lt K2.here) (DrumAt.cells K1.here) (DrumAt.cells K2.here)).mono ?_
  rintro e w1 ⟨rfl, hb1⟩
  replace KB := KB.on hb1
  replace KH := KH.on hb1
  replace KF := KF.on hb1
  replace K1 := K1.on hb1
  replace K2 := K2.on hb1
  cases hv : okAll s n P R 2 (twoD D E)
  · rw [unl_false]
    go_wp2
    go_ret3
    exact ⟨by rw [tcLeast, tcBest, tcCode, hv]; simp [sel_false, unl_false], KB.here⟩
  · rw [unl_true]
    have hok := okAll_iff.1 hv
    have hf := (vFrame_iff.1 hok.1).1
    clear hok
    obtain ⟨m, rfl⟩ : ∃ m : Nat, s = m := ⟨s.toNat, by omega⟩
    have HV := Lib.hid hv; clear hv
    have q0 := i64_id (x := (m : Int)) (by omega)
    have c0 := (KF.here : w1.heap[_]? = _)
    have d0 := row_cell 0 c0
    clear c0
    go_wp2
    clear q0 d0 hb1
    go_loopw [10, 11, 13] (fun x y i w' => Below w1.heap.size w1 w' ∧ ∃ b : Nat, b ≤ m ∧ i = .int .i64 b ∧ x = .int .i64 (tc (tcCost D E m) b).1 ∧ y = .int .i64 (tc (tcCost D E m) b).2) (fun _ _ i _ => m - (intOf i).toNat)
    case atStart => exact ⟨Below.refl _ _, 0, by omega, rfl, by rw [tc_zero], by rw [tc_zero]⟩
    case round =>
      obtain ⟨hb, b, hbm, rfl, rfl, rfl⟩ := hrel
      replace KB := KB.on hb
      replace KH := KH.on hb
      replace KF := KF.on hb
      replace K1 := K1.on hb
      replace K2 := K2.on hb
      by_cases hlt : b < m
      · go_wp2_with (with_reducible refine new_drum rfl rfl rfl rfl rfl _ _ rfl rfl rfl ?_; intro W2 hb2 hz2 hg2; have HB2 := Lib.hid hb2; have HZ2 := Lib.hid hz2; have HG2 := Lib.hid hg2; clear hb2 hz2 hg2)
        obtain ⟨U, rfl⟩ : ∃ U, U = wr := ⟨wr, rfl⟩
        go_loopw [15] (fun i w' => Below U.heap.size U w' ∧ ∃ k : Nat, k ≤ m ∧ i = .int .i64 k ∧ DrumAt w' 63 U.heap.size (turnTo m b E k)) (fun i _ => m - (intOf i).toNat)
        case atStart => exact ⟨HB2.out, 0, by omega, rfl, by rw [turnTo_zero]; exact HG2.out⟩
        case round =>
          clear HB2 HZ2 HG2
          obtain ⟨hb3, k, hk, rfl, h3⟩ := hrel
          have H3 := Lib.hid h3; clear h3
          by_cases hlk : k < m
          · have c1 := DrumAt.cell (K2.at hb3) k (by omega)
            have hq := Nat.mod_lt (k + b) (show 0 < m by omega)
            have hmod := mod_nat k b m
            have hmod' := tmod_nat k b m
            obtain ⟨r, hr⟩ : ∃ r, (k + b) % m = r := ⟨_, rfl⟩
            rw [hr] at hq hmod hmod'
            have HR' := Lib.hid hr; clear hr
            have c3 := H3.out.cell r (by omega)
            have hfz := H3.out.frozen r
            have q1 := i64_id (x := (k : Int) + (b : Int)) (by omega)
            have hm0 : ¬ m = 0 := by omega
            have hk96 : (k : Int) < 96 := by omega
            have hr96 : (r : Int) < 96 := by omega
            go_wp2
            go_still_tail 9, (by kernel_rfl)
            go_wp2
            go_roundw
            case rel =>
              have h3 := H3.out.setCell r (E k) (by omega)
              rw [show upd (turnTo m b E k) r (E k) = turnTo m b E (k + 1) by rw [turnTo_succ, HR'.out]] at h3
              exact ⟨(hb3.setCell (Nat.le_refl _) _).drew, k + 1, by omega, by go_num, h3⟩
            case measure => simp [intOf]; omega
          · have hkm : k = m := by omega
            subst hkm
            have hg3 := H3.out
            rw [← turnD_def] at hg3
            have hcb := tcCost_le D E k b
            have hbd := tc_bound (tcCost D E k) 6144 (tcCost_le D E k) b
            have e0 := tcCost_def D E k b
            go_wp2_with fail
            refine (l05Cost_any (w.heap.size + 1) U.heap.size D (turnD k b E) HD.out (turnD_32 HE.out) _ (DrumAt.cells (K1.at hb3)) hg3.cells).mono ?_
            rw [← e0]
            rintro e w4 ⟨rfl, q, rfl⟩
            have hbe := Lib.hid (below_drewN (hb.trans (hb3.mono hb.size)) q)
            by_cases h1 : (tc (tcCost D E k) b).1 < 0
            · have hst := Lib.hid (tc_yes (tcCost D E k) b (.inl h1))
              clear hg3 e0 hb hb3
              go_wp2
              go_roundw
              case rel => exact ⟨hbe.out, b + 1, by omega, by go_num, by rw [hst.out], by rw [hst.out]⟩
              case measure => simp [intOf]; omega
            · by_cases h2 : (tcCost D E k b : Int) < (tc (tcCost D E k) b).1
              · have hst := Lib.hid (tc_yes (tcCost D E k) b (.inr h2))
                clear hg3 e0 hb hb3
                go_wp2
                go_roundw
                case rel => exact ⟨hbe.out, b + 1, by omega, by go_num, by rw [hst.out], by rw [hst.out]⟩
                case measure => simp [intOf]; omega
              · have hst := Lib.hid (tc_no (tcCost D E k) b (by omega))
                clear hg3 e0 hb hb3
                go_wp2
                go_roundw
                case rel => exact ⟨hbe.out, b + 1, by omega, by go_num, by rw [hst.out], by rw [hst.out]⟩
                case measure => simp [intOf]; omega
      · have hbm' : b = m := by omega
        subst hbm'
        go_wp2
        go_ret3
        refine ⟨?_, KB.here⟩
        rw [tcLeast, tcBest, tcCode, HV.out, sel_true, sel_true, unl_true, Int.toNat_natCast]
        rfl
set_option maxRecDepth 100000 in
set_option maxHeartbeats 1000000 in
theorem implTurnedCost_any (s : Int) (a : Option Addr) (n c : Nat) (P R : Nat → Int) (D E : Nat → Nat) (w : World) (hs : -32768 ≤ s ∧ s ≤ 32767) (hn : n ≤ 1048576) (hP : I8 P) (hR : I8 R) (hh : HamAt w a n P R) (hD : D32 D) (hE : D32 E) :
    Calls Try.prog 38 #[.agg #[.int .i16 s, .slice a n c], .agg (dc D), .agg (dc E)] w fun e w' =>
      e = .returned (.tuple #[.int .i64 (tcLeast s n P R D E), .int .i64 (tcBest s n P R D E), .int .i64 (tcCode s n P R D E)]) ∧ Below w.heap.size w w' := by
  have HP := Lib.hid hP; have HR := Lib.hid hR; have HD := Lib.hid hD; have HE := Lib.hid hE
  clear hP hR hD hE
  have KB := Kp.base w
  have KH := kp_ham hh; clear hh
  replace KB := KB.alloc (.cells #[.int .i16 s, .slice a n c] 61)
  replace KH := KH.alloc (.cells #[.int .i16 s, .slice a n c] 61)
  have KF := kp_new1 w #[.int .i16 s, .slice a n c] 61 (g := w.heap.size) (by simp)
  replace KB := KB.alloc (.cells (dc D) 63)
  replace KH := KH.alloc (.cells (dc D) 63)
  replace KF := KF.alloc (.cells (dc D) 63)
  have K1 := kp_newd (w.alloc (.cells #[.int .i16 s, .slice a n c] 61)) (D) 63 (g := w.heap.size + 1) (by simp)
  replace KB := KB.alloc (.cells (dc E) 63)
  replace KH := KH.alloc (.cells (dc E) 63)
  replace KF := KF.alloc (.cells (dc E) 63)
  replace K1 := K1.alloc (.cells (dc E) 63)
  have K2 := kp_newd ((w.alloc (.cells #[.int .i16 s, .slice a n c] 61)).alloc (.cells (dc D) 63)) (E) 63 (g := w.heap.size + 1 + 1) (by simp)
  have HZ := Lib.hid (show (((w.alloc (.cells #[.int .i16 s, .slice a n c] 61)).alloc (.cells (dc D) 63)).alloc (.cells (dc E) 63)).heap.size = w.heap.size + 1 + 1 + 1 by simp)
  go_enter Try.func38, Try.ntmps38
  go_wp2_with (first | (with_reducible refine load_drum rfl _ rfl (w.heap.size + 1) rfl _ D K1.here ?_) | (with_reducible refine load_drum rfl _ rfl (w.heap.size + 1 + 1) rfl _ E K2.here ?_) | (with_reducible refine build2 rfl _ _ rfl D E rfl rfl ?_))
  generalize (((w.alloc (.cells #[.int .i16 s, .slice a n c] 61)).alloc (.cells (dc D) 63)).alloc (.cells (dc E) 63)) = W at KB KH KF K1 K2 HZ ⊢
  replace KB := KB.alloc (.cells (dc D ++ dc E) 63)
  replace KH := KH.alloc (.cells (dc D ++ dc E) 63)
  replace KF := KF.alloc (.cells (dc D ++ dc E) 63)
  replace K1 := K1.alloc (.cells (dc D ++ dc E) 63)
  replace K2 := K2.alloc (.cells (dc D ++ dc E) 63)
  have hl := DrumsAt.two W D E (twoD D E) rfl rfl
  rw [HZ.out] at hl
  clear HZ
  refine (drumCode_any s a n c P R _ 2 2 (twoD D E) _ (by omega) (by omega) hs HP.out HR.out KH.here hl).mono ?_
  rintro e w1 ⟨rfl, hb1⟩
  clear hl
  replace KB := KB.on hb1
  replace KH := KH.on hb1
  replace KF := KF.on hb1
  replace K1 := K1.on hb1
  replace K2 := K2.on hb1
  cases hv : okAll s n P R 2 (twoD D E)
  · rw [unl_false]
    go_wp2
    go_ret3
    exact ⟨by rw [tcLeast, tcBest, tcCode, hv]; simp [sel_false, unl_false], KB.here⟩
  · rw [unl_true]
    have hok := okAll_iff.1 hv
    have hf := (vFrame_iff.1 hok.1).1
    clear hok
    obtain ⟨m, rfl⟩ : ∃ m : Nat, s = m := ⟨s.toNat, by omega⟩
    have HV := Lib.hid hv; clear hv
    have q0 := i64_id (x := (m : Int)) (by omega)
    have c0 := (KF.here : w1.heap[_]? = _)
    have d0 := row_cell 0 c0
    clear c0
    go_wp2
    clear q0 d0 hb1
    go_loopw [10, 11, 25] (fun y x i w' => Below w1.heap.size w1 w' ∧ ∃ b : Nat, b ≤ m ∧ i = .int .i64 b ∧ x = .int .i64 (tc (tcCost D E m) b).1 ∧ y = .int .i64 (tc (tcCost D E m) b).2) (fun _ _ i _ => m - (intOf i).toNat)
    case atStart => exact ⟨Below.refl _ _, 0, by omega, rfl, by rw [tc_zero], by rw [tc_zero]⟩
    case round =>
      obtain ⟨hb, b, hbm, rfl, rfl, rfl⟩ := hrel
      replace KB := KB.on hb
      replace KH := KH.on hb
      replace KF := KF.on hb
      replace K1 := K1.on hb
      replace K2 := K2.on hb
      by_cases hlt : b < m
      · have hcb := tcCost_le D E m b
        have hbd := tc_bound (tcCost D E m) 6144 (tcCost_le D E m) b
        have e0 := Lib.hid (tcCost_def D E m b)
        go_wp2
        refine wp_region_below (B := wr.heap.size) (by kernel_rfl) (by kernel_rfl) (Below.refl _ _) ?_
        refine quiet_load_drum rfl _ rfl (w.heap.size + 1) rfl _ D (fun W hW => K1.at hW) ?_
        refine quiet_val rfl (.agg #[.int .i16 (m : Int), .slice a n c]) (fun V hV => ex_load_iframe _ rfl (w.heap.size) rfl _ (m : Int) a n c (KF.at hV)) ?_
        refine quiet_load_drum rfl _ rfl (w.heap.size + 1 + 1) rfl _ E (fun W hW => K2.at hW) ?_
        refine quiet_val rfl (.int .i64 (b : Int)) (fun V hV => by simp [go_sem]) ?_
        refine quiet_call rfl 90 #[.agg #[.int .i16 (m : Int), .slice a n c], .agg (dc E), .int .i64 (b : Int)] (.agg (dc (turnD m b E))) (fun W => by simp [go_sem]) (fun W hW => (turned_any m a n c E b W (by omega) (by omega) hlt HE.out).mono fun e W' ⟨he, hb⟩ => ⟨he, hW.trans (hb.mono hW.size)⟩) ?_
        refine quiet_call rfl 88 #[.agg (dc D), .agg (dc (turnD m b E))] (.int .i64 (tcCost D E m b)) (fun W => by simp [go_sem]) (fun W hW => (cost_any D _ HD.out (turnD_32 HE.out) W).mono fun e W' ⟨he, hb⟩ => ⟨by rw [he, e0.out], hW.trans (hb.mono hW.size)⟩) ?_
        refine quiet_val rfl (.int .i64 (tcCost D E m b)) (fun V hV => by simp [go_sem]) ?_
        refine wpQuiet_nil ?_
        intro W hW
        simp only [Act.put, List.setIfInBounds_toArray, List.set_cons_zero, List.set_cons_succ]
        have hbe := Lib.hid (hb.trans (hW.mono hb.size))
        by_cases h1 : (tc (tcCost D E m) b).1 < 0
        · have hst := Lib.hid (tc_yes (tcCost D E m) b (.inl h1))
          clear hb hW
          go_wp2
          go_roundw
          case rel => exact ⟨hbe.out, b + 1, by omega, by go_num, by rw [hst.out], by rw [hst.out]⟩
          case measure => simp [intOf]; omega
        · by_cases h2 : (tcCost D E m b : Int) < (tc (tcCost D E m) b).1
          · have hst := Lib.hid (tc_yes (tcCost D E m) b (.inr h2))
            clear hb hW
            go_wp2
            go_roundw
            case rel => exact ⟨hbe.out, b + 1, by omega, by go_num, by rw [hst.out], by rw [hst.out]⟩
            case measure => simp [intOf]; omega
          · have hst := Lib.hid (tc_no (tcCost D E m) b (by omega))
            clear hb hW
            go_wp2
            go_roundw
            case rel => exact ⟨hbe.out, b + 1, by omega, by go_num, by rw [hst.out], by rw [hst.out]⟩
            case measure => simp [intOf]; omega
      · have hbm' : b = m := by omega
        subst hbm'
        go_wp2
        go_ret3
        refine ⟨?_, KB.here⟩
        rw [tcLeast, tcBest, tcCode, HV.out, sel_true, sel_true, unl_true, Int.toNat_natCast]
        rfl
end Go.Proofs.Ytofmhpbilajjaaa
