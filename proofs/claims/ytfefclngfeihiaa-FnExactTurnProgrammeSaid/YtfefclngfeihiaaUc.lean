/- TurnProgramme, by the reference. No conditions. -/
import Derived.Test.YtfefclngfeihiaaUa
import Derived.Test.YtfefclngfeihiaaOwnS
import Derived.Test.YtfefclngfeihiaaAg
import Derived.Test.YtfefclngfeihiaaHeld2
import Derived.Outline
namespace Go.Proofs.Ytfefclngfeihiaa
open Go.RowKit
set_option linter.unusedVariables false
set_option linter.unusedSimpArgs false

section
variable (s : Int) (n : Nat) (P R : Nat → Int) (m : Nat) (F T O : Nat → Int) (x : Int)
/-- the code -/
def tpC : Int := if vProg s n P R m F T O then (if inB x 0 (s - 1) then (if crB s x m F T then 4 else 0) else 2) else 1
def tpL : List (Int × Int) := if tpC s n P R m F T O x = 0 then rotL s x m F T else []
def tpO : Nat → Int := if tpC s n P R m F T O x = 0 then tuO s x m F O else fun _ => 0
theorem tp_err {y : Int} (hy : y ≠ 0) (h : tpC s n P R m F T O x = y) : tpL s n P R m F T O x = [] ∧ tpO s n P R m F T O x = (fun _ => 0) ∧ tpC s n P R m F T O x = y := ⟨if_neg (by rw [h]; exact hy), if_neg (by rw [h]; exact hy), h⟩
theorem tp_bad (h : vProg s n P R m F T O = false) : tpL s n P R m F T O x = [] ∧ tpO s n P R m F T O x = (fun _ => 0) ∧ tpC s n P R m F T O x = 1 := tp_err s n P R m F T O x (by decide) (by unfold tpC; rw [h]; rfl)
theorem tp_range (h : vProg s n P R m F T O = true) (h2 : inB x 0 (s - 1) = false) : tpL s n P R m F T O x = [] ∧ tpO s n P R m F T O x = (fun _ => 0) ∧ tpC s n P R m F T O x = 2 := tp_err s n P R m F T O x (by decide) (by unfold tpC; rw [h, h2]; rfl)
theorem tp_cross (h : vProg s n P R m F T O = true) (h2 : inB x 0 (s - 1) = true) (h3 : crB s x m F T = true) : tpL s n P R m F T O x = [] ∧ tpO s n P R m F T O x = (fun _ => 0) ∧ tpC s n P R m F T O x = 4 := tp_err s n P R m F T O x (by decide) (by unfold tpC; rw [h, h2, h3]; rfl)
theorem tp_ok (h : vProg s n P R m F T O = true) (h2 : inB x 0 (s - 1) = true) (h3 : crB s x m F T = false) : tpL s n P R m F T O x = rotL s x m F T ∧ tpO s n P R m F T O x = tuO s x m F O ∧ tpC s n P R m F T O x = 0 := by
  have e : tpC s n P R m F T O x = 0 := by unfold tpC; rw [h, h2, h3]; rfl
  exact ⟨if_pos e, if_pos e, e⟩
theorem tpL_len : (tpL s n P R m F T O x).length ≤ 1000000 := by
  unfold tpL
  split
  · rename_i h
    rw [rotL_len]
    unfold tpC at h
    cases hv : vProg s n P R m F T O
    · rw [hv] at h; simp at h
    · have := (vProg_facts hv).2.1; omega
  · simp
end
theorem vProg_secs {s : Int} {n : Nat} {P R : Nat → Int} {m : Nat} {F T O : Nat → Int} (h : vProg s n P R m F T O = true) : ∀ k, k < m → endTo F T k ≤ F k ∧ F k < s ∧ 1 ≤ T k ∧ F k + T k ≤ s := (vSecs_iff.1 (vProg_iff.1 h).2.1).2
attribute [irreducible] tpC tpL tpO
section
variable {ops : Array Oper} {rest : List Oper} {o : Oper} {a : Act} {w : World} {Q : Exit → Act → World → Prop}
/-- an empty programme is stored -/
theorem store_prog0 (hgd : o.guard = none) (x y : Operand) (ho : o.op = .store 35 x y) (g : Nat) (hx : a.eval x = .pointer (some ⟨g, 0, none⟩)) (hy : a.eval y = .agg (#[.slice none 0 0] ++ Array.replicate 48 (Value.int .i8 0))) (T : Nat) (b' : Option Addr) (n' c' : Nat) (D : Nat → Int) (hg : w.heap[g]? = some (.cells (pc b' n' c' D) T (0, 0)))
    (h : wpList Try.prog ops Q rest (a.put o.dst undef) (w.setRow g (pc none 0 0 fun _ => 0))) : wpList Try.prog ops Q (o :: rest) a w :=
  store_iprog hgd x y ho g none 0 0 (fun _ => 0) hx (by rw [pc_zero]; exact hy) T b' n' c' D hg h
end
theorem results_prog2 {fn : Func} {p q : Tmp} (h : fn.results = #[.cell p 35, .tmp q]) (tmps : Array Value) (w : World) (g T : Nat) (b : Option Addr) (n c : Nat) (O : Nat → Int) (v : Value)
    (hp : tmps.getD p undef = .pointer (some ⟨g, 0, none⟩)) (hg : w.heap[g]? = some (.cells (pc b n c O) T (0, 0))) (hv : tmps.getD q undef = v) : (results fn tmps).run Try.prog w = .ok (.tuple #[.agg (pc b n c O), v]) w := by
  have hp' : tmps[p]?.getD undef = .pointer (some ⟨g, 0, none⟩) := by simpa using hp
  have hv' : tmps[q]?.getD undef = v := by simpa using hv
  simp [results, h, hp', hv', asAddr, run_loadVar_row w g T 35 (pc b n c O) (0, 0) _ hg Try.underlying35 rfl (by rw [pc_size]; exact size_iprog)]
theorem pc_setO (b : Option Addr) (n c : Nat) (O : Nat → Int) (k : Nat) (v : Int) (h : k < 48) : (pc b n c O).setIfInBounds (1 + k) (.int .i8 v) = pc b n c (updI O k v) := by
  unfold pc
  rw [← oc_set O k v h]
  apply Array.ext_getElem?
  intro i
  rw [Array.getElem?_setIfInBounds]
  by_cases e : i = 1 + k
  · subst e
    rw [if_pos rfl, if_pos (by simp [oc_size]; omega), Array.getElem?_append_right (by simp)]
    simp [oc_size, h]
  · rw [if_neg (fun e2 => e e2.symm)]
    by_cases h0 : i = 0
    · subst h0; rw [Array.getElem?_append_left (by simp), Array.getElem?_append_left (by simp)]
    · rw [Array.getElem?_append_right (by simp; omega), Array.getElem?_append_right (by simp; omega), Array.getElem?_setIfInBounds_ne (by simp; omega)]
theorem updI_twice (O : Nat → Int) (k : Nat) (a b : Int) : updI (updI O k a) k b = updI O k b := by
  funext j; unfold updI; split <;> rfl
theorem i16_idU {x : Int} (h : -32768 ≤ x ∧ x ≤ 32767) : IntKind.i16.wrap x = x := by rw [wrapI16]; omega
theorem i8_idU {x : Int} (h : -128 ≤ x ∧ x ≤ 127) : IntKind.i8.wrap x = x := by
  simp [IntKind.wrap, IntKind.bits, IntKind.signed]
  split <;> omega
section
variable {ops : Array Oper} {rest : List Oper} {a : Act} {w : World} {Q : Exit → Act → World → Prop}
/-- an empty programme is laid -/
theorem new_prog0 {o2 o3 : Oper} (hg2 : o2.guard = none) (hg3 : o3.guard = none) (h2 : o2.op = .alloc 35) (x y : Operand) (h3 : o3.op = .store 35 x y)
    (hx : (a.put o2.dst (.pointer (some ⟨w.heap.size, 0, none⟩))).eval x = .pointer (some ⟨w.heap.size, 0, none⟩)) (hy : (a.put o2.dst (.pointer (some ⟨w.heap.size, 0, none⟩))).eval y = .agg (#[.slice none 0 0] ++ Array.replicate 48 (Value.int .i8 0)))
    (h : ∀ W, Below w.heap.size w W → W.heap.size = w.heap.size + 1 → W.heap[w.heap.size]? = some (.cells (pc none 0 0 fun _ => 0) 35 (0, 0)) → wpList Try.prog ops Q rest ((a.put o2.dst (.pointer (some ⟨w.heap.size, 0, none⟩))).put o3.dst undef) W) :
    wpList Try.prog ops Q (o2 :: o3 :: rest) a w := copy_prog hg2 hg3 h2 x y h3 none 0 0 (fun _ => 0) hx (by rw [pc_zero]; exact hy) h
end
theorem grown_setRowU (w : World) (g : Nat) (cs : Array Value) : w.grownBy (w.setRow g cs) (some g) :=
  ⟨rfl, rfl, rfl, by simp, fun k _ hk => setRow_other w g k cs fun e => hk (by rw [e])⟩
theorem ntmodU (k b m : Nat) : ((k : Int) + (b : Int)).tmod (m : Int) = (((k + b) % m : Nat) : Int) := by rw [← Int.natCast_add, ← Int.ofNat_tmod]
theorem ex_build_sec {o : Oper} {a : Act} {V : World} (x : Operand) (ho : o.op = .buildSlice 33 1 #[(0, x)]) (p q : Int) (hx : a.eval x = .agg #[.int .i16 p, .int .i16 q]) :
    (execOp a.eval o).run Try.prog V = .ok (.value (.slice (some ⟨V.heap.size, 0, none⟩) 1 1)) (V.alloc (.cells #[.int .i16 p, .int .i16 q] 55)) := by
  have hm : (#[(0, x)] : Array (Nat × Operand)).map (fun (i, y) => (i, a.eval y)) = #[(0, .agg #[.int .i16 p, .int .i16 q])] := by simp [hx]
  have hr : (Instr.buildSlice 33 1 #[(0, .agg #[.int .i16 p, .int .i16 q])]).run Try.prog V = .ok (.slice (some ⟨V.heap.size, 0, none⟩) 1 1) (V.alloc (.cells #[.int .i16 p, .int .i16 q] 55)) := by kernel_rfl
  simp only [execOp, ho, hm, Sem.run_bind, hr, Result.andThen_ok]
  rfl
/-- the programme that is laid, and its sections -/
structure TPS (Wb : World) (b : Option Addr) (n c : Nat) (O : Nat → Int) (L : List (Int × Int)) (W : World) : Prop where
  k : Below Wb.heap.size Wb W
  r : W.heap[Wb.heap.size]? = some (.cells (pc b n c O) 35 (0, 0))
  o : OwnS W (Wb.heap.size + 1) (.slice b n c) L
section
variable {Wb W V : World} {b : Option Addr} {n c : Nat} {O : Nat → Int} {L : List (Int × Int)}
theorem TPS.lt (h : TPS Wb b n c O L W) : Wb.heap.size < W.heap.size := row_lt h.r
theorem TPS.stay (h : TPS Wb b n c O L W) (hb : Below W.heap.size W V) : TPS Wb b n c O L V :=
  ⟨h.k.trans (hb.mono (Nat.le_of_lt h.lt)), (hb.block _ h.lt).trans h.r, h.o.below hb⟩
theorem TPS.kp (h : TPS Wb b n c O L W) : Kp W (TPS Wb b n c O L) := Kp.mk fun _ hb => h.stay hb
/-- a section more -/
theorem TPS.push (h : TPS Wb b n c O L W) (hb : Below (Wb.heap.size + 1) W V) {b' : Option Addr} {n' c' : Nat} {L' : List (Int × Int)} (ho : OwnS V (Wb.heap.size + 1) (.slice b' n' c') L') : TPS Wb b' n' c' O L' (V.setCell ⟨Wb.heap.size, 0, none⟩ (.slice b' n' c')) := by
  have r9 := (hb.block Wb.heap.size (by omega)).trans h.r
  have hg := grown_set (grown_refl V (some Wb.heap.size)) rfl 0 (.slice b' n' c')
  refine ⟨(h.k.trans (hb.mono (by omega))).setCell (Nat.le_refl _) _, ?_, own_grown ho hg (fun k e => by cases e; omega)⟩
  have e := heap_setCell_same V Wb.heap.size 0 _ _ (.slice b' n' c') r9
  rw [pc_set0] at e
  exact e
/-- a quarter is written -/
theorem TPS.set (h : TPS Wb b n c O L W) {q : Nat} (hq : q < 48) (v : Int) : TPS Wb b n c (updI O q v) L (W.setCell ⟨Wb.heap.size, 1 + q, none⟩ (.int .i8 v)) := by
  have hg := grown_set (grown_refl W (some Wb.heap.size)) rfl (1 + q) (.int .i8 v)
  refine ⟨h.k.setCell (Nat.le_refl _) _, ?_, own_grown h.o hg (fun k e => by cases e; omega)⟩
  have e := heap_setCell_same W Wb.heap.size (1 + q) _ _ (.int .i8 v) h.r
  rw [pc_setO _ _ _ _ _ _ hq] at e
  exact e
theorem TPS.cellO (h : TPS Wb b n c O L W) {q : Nat} (hq : q < 48) : W.cell? ⟨Wb.heap.size, 1 + q, none⟩ = some (.int .i8 (O q)) := by rw [row_cell (1 + q) h.r, pc_get _ _ _ _ _ hq]
theorem TPS.cell0 (h : TPS Wb b n c O L W) : W.cell? ⟨Wb.heap.size, 0, none⟩ = some (.slice b n c) := by rw [row_cell 0 h.r, pc_get0]
theorem TPS.frozen (h : TPS Wb b n c O L W) (i : Nat) : W.frozen? ⟨Wb.heap.size, i, none⟩ = false := frozen_of_row W Wb.heap.size i _ _ h.r
end
set_option maxRecDepth 100000 in
set_option maxHeartbeats 4000000 in
theorem specTurnProgramme_any (s : Int) (a : Option Addr) (n c : Nat) (P R : Nat → Int) (b : Option Addr) (m d : Nat) (F T O : Nat → Int) (x : Int) (w : World) (hs : -32768 ≤ s ∧ s ≤ 32767) (hn : n ≤ 1048576) (hP : I8 P) (hR : I8 R) (hh : HamAt w a n P R) (hm : m ≤ 1048576) (hF : I16 F) (hT : I16 T) (hO : I8 O) (hl : SecAt w b m F T) (hx : -9223372036854775808 ≤ x ∧ x ≤ 9223372036854775807) :
    Calls Try.prog 6 #[.agg #[.int .i16 s, .slice a n c], .agg (pc b m d O), .int .i64 x] w fun e w' => ∃ v u, e = .returned (.tuple #[.agg (pc v (tpL s n P R m F T O x).length u (tpO s n P R m F T O x)), .int .i64 (tpC s n P R m F T O x)]) ∧ Below w.heap.size w w' ∧ OwnS w' w.heap.size (.slice v (tpL s n P R m F T O x).length u) (tpL s n P R m F T O x) := by
  have HP := Lib.hid hP; have HR := Lib.hid hR; have HF := Lib.hid hF; have HT := Lib.hid hT; have HO := Lib.hid hO
  clear hP hR hF hT hO
  have KB := Kp.base w
  have KH := kp_ham hh; have KL := kp_sec hl; clear hh hl
  replace KB := KB.alloc (.cells #[.int .i16 s, .slice a n c] 40)
  replace KH := KH.alloc (.cells #[.int .i16 s, .slice a n c] 40)
  replace KL := KL.alloc (.cells #[.int .i16 s, .slice a n c] 40)
  have KF := kp_new1 w #[.int .i16 s, .slice a n c] 40 (g := w.heap.size) (by simp)
  replace KB := KB.alloc (.cells (pc b m d O) 35)
  replace KH := KH.alloc (.cells (pc b m d O) 35)
  replace KL := KL.alloc (.cells (pc b m d O) 35)
  replace KF := KF.alloc (.cells (pc b m d O) 35)
  have KP := kp_new1 (w.alloc (.cells #[.int .i16 s, .slice a n c] 40)) (pc b m d O) 35 (g := w.heap.size + 1) (by simp)
  replace KB := KB.alloc (.cells (pc none 0 0 fun _ => 0) 35)
  replace KH := KH.alloc (.cells (pc none 0 0 fun _ => 0) 35)
  replace KL := KL.alloc (.cells (pc none 0 0 fun _ => 0) 35)
  replace KF := KF.alloc (.cells (pc none 0 0 fun _ => 0) 35)
  replace KP := KP.alloc (.cells (pc none 0 0 fun _ => 0) 35)
  have K6 := kp_new1 ((w.alloc (.cells #[.int .i16 s, .slice a n c] 40)).alloc (.cells (pc b m d O) 35)) (pc none 0 0 fun _ => 0) 35 (g := w.heap.size + 1 + 1) (by simp)
  have HZ := Lib.hid (show (((w.alloc (.cells #[.int .i16 s, .slice a n c] 40)).alloc (.cells (pc b m d O) 35)).alloc (.cells (pc none 0 0 fun _ => 0) 35)).heap.size = w.heap.size + 1 + 1 + 1 by simp)
  go_enter Try.func6, Try.ntmps6
  go_wp2_with (first | (with_reducible refine alloc_iprog ?_ ?_ ?_; with_reducible rfl; with_reducible rfl) | fail)
  generalize (((w.alloc (.cells #[.int .i16 s, .slice a n c] 40)).alloc (.cells (pc b m d O) 35)).alloc (.cells (pc none 0 0 fun _ => 0) 35)) = W at KB KH KL KF KP K6 HZ ⊢
  clear HZ
  refine (l04Ok_any w.heap.size (w.heap.size + 1) s a n c P R b m d F T O W hs hn HP.out HR.out KF.here KH.here hm HF.out HT.out HO.out KP.here KL.here).mono ?_
  rintro e w1 ⟨rfl, hb1⟩
  replace KB := KB.on hb1
  replace KH := KH.on hb1
  replace KL := KL.on hb1
  replace KF := KF.on hb1
  replace KP := KP.on hb1
  replace K6 := K6.on hb1
  have HLO := Lib.hid (tp_bad s n P R m F T O x)
  cases hv : vProg s n P R m F T O
  · have HX := Lib.hid (HLO.out hv)
    clear hv
    go_wp2_with (first | (refine store_prog0 rfl _ _ rfl (w.heap.size + 1 + 1) rfl (by rfl) _ none 0 0 (fun _ => 0) K6.here ?_) | fail)
    exact bodyPost_ret (results_prog2 rfl _ _ (w.heap.size + 1 + 1) _ none 0 0 (fun _ => 0) (.int .i64 1) rfl (setRow_heap _ _ _ _ _ _ K6.here) rfl) rfl ⟨none, 0, by rw [HX.out.1, HX.out.2.1, HX.out.2.2]; rfl, below_setRow KB.here (by omega) _, by rw [HX.out.1]; exact OwnL.none0 _ _⟩
  · obtain ⟨hs2, hm12, hsec, hord⟩ := vProg_facts hv
    have HSEC := Lib.hid hsec; have HORD := Lib.hid hord
    have HV := Lib.hid hv
    clear hv hsec hord
    have d0 := row_cell 0 KF.here
    have q1 := i64_id (x := s) (by omega)
    have q2 := i64_id (x := s - 1) (by omega)
    cases hin : inB x 0 (s - 1)
    · have HX := Lib.hid (tp_range s n P R m F T O x HV.out hin)
      go_wp2_with (first | (go_at_call 18; refine (l00In_any _ _ _ _).mono ?_; rw [hin]; rintro e w2 ⟨rfl, rfl⟩) | (refine store_prog0 rfl _ _ rfl (w.heap.size + 1 + 1) rfl (by rfl) _ none 0 0 (fun _ => 0) K6.here ?_) | fail)
      exact bodyPost_ret (results_prog2 rfl _ _ (w.heap.size + 1 + 1) _ none 0 0 (fun _ => 0) (.int .i64 2) rfl (setRow_heap _ _ _ _ _ _ K6.here) rfl) rfl ⟨none, 0, by rw [HX.out.1, HX.out.2.1, HX.out.2.2]; rfl, below_setRow KB.here (by omega) _, by rw [HX.out.1]; exact OwnL.none0 _ _⟩
    · have hxb := inB_iff.1 hin
      have HIN := Lib.hid hin
      have p0 := row_cell 0 KP.here
      rw [pc_get0] at p0
      have q3 := i64_id (x := (m : Int) - 1) (by omega)
      go_wp2_with (first | (go_at_call 18; refine (l00In_any _ _ _ _).mono ?_; rw [hin]; rintro e w2 ⟨rfl, rfl⟩) | fail)
      clear hin p0 d0
      go_loopw [10, 11] (fun u i w' => Below w1.heap.size w1 w' ∧ ∃ d : Nat, d ≤ m ∧ i = .int .i64 ((m : Int) - 1 - d) ∧ u = .int .i64 (stD s x m F d) ∧ ∀ j, m - d ≤ j → j < m → crQ s x F T j = false) (fun _ i _ => (intOf i + 1).toNat)
      case atStart => exact ⟨Below.refl _ _, 0, by omega, by simp, by rw [stD_zero], fun j h1 h2 => by omega⟩
      case round =>
        obtain ⟨hb, d, hd, rfl, rfl, hcr⟩ := hrel
        have HCR := Lib.hid hcr; clear hcr
        replace KB := KB.on hb
        replace KH := KH.on hb
        replace KL := KL.on hb
        replace KF := KF.on hb
        replace KP := KP.on hb
        replace K6 := K6.on hb
        by_cases hlt : d < m
        · obtain ⟨k, hk⟩ : ∃ k : Nat, m - (d + 1) = k := ⟨_, rfl⟩
          have hkm : k < m := by omega
          have hki : (m : Int) - 1 - d = k := by omega
          rw [hki]
          have hx := SecAt.get KL.here (show 0 < m by omega)
          obtain ⟨g, off, rfl, hg, hc⟩ := hx
          have c0 := (hc k hkm).1
          have c1 := (hc k hkm).2
          clear hc
          have hfk := HSEC.out k hkm
          have p0 := row_cell 0 KP.here
          rw [pc_get0] at p0
          have hkm' : (k : Int) < m := by omega
          have q4 := i64_id (x := F k) (by omega)
          have q5 := i64_id (x := T k) (by omega)
          have q6 := i64_id (x := F k + x) (by omega)
          have q7 := i64_id (x := F k + x + T k) (by omega)
          have q8 := i64_id (x := (k : Int) - 1) (by omega)
          have hki2 : (m : Int) - 1 - (d + 1 : Nat) = (k : Int) - 1 := by omega
          have hy := stD_yes s x m F (d := d)
          have hn := stD_no s x m F (d := d)
          rw [hk] at hy hn
          have HY := Lib.hid hy; have HN := Lib.hid hn; clear hy hn
          have HCY := Lib.hid (crQ_yes s x F T (i := k))
          have HCN := Lib.hid (crQ_no s x F T (i := k))
          have HKI := Lib.hid hki2
          clear hki hki2
          have hck : ∀ j, m - (d + 1) ≤ j → j < m → j = k ∨ m - d ≤ j := fun j h1 h2 => by omega
          have HCK := Lib.hid hck; clear hck hk
          by_cases h1 : F k + x < s
          · by_cases h2 : s < F k + x + T k
            · have hc1 : crB s x m F T = true := crB_yes s x m F T hkm (HCY.out h1 h2)
              have HX := Lib.hid (tp_cross s n P R m F T O x HV.out HIN.out hc1)
              clear hc1
              go_wp2_with (first | (refine store_prog0 rfl _ _ rfl (w.heap.size + 1 + 1) rfl (by rfl) _ none 0 0 (fun _ => 0) K6.here ?_) | fail)
              exact bodyPost_ret (results_prog2 rfl _ _ (w.heap.size + 1 + 1) _ none 0 0 (fun _ => 0) (.int .i64 4) rfl (setRow_heap _ _ _ _ _ _ K6.here) rfl) rfl ⟨none, 0, by rw [HX.out.1, HX.out.2.1, HX.out.2.2]; rfl, below_setRow KB.here (by omega) _, by rw [HX.out.1]; exact OwnL.none0 _ _⟩
            · have hno := HCN.out (fun h => h2 h.2)
              have HNO := Lib.hid hno; clear hno
              have h3 : ¬ s ≤ F k + x := by omega
              have HST := Lib.hid (HN.out h3)
              go_wp2
              go_roundw
              case rel => exact ⟨hb, d + 1, by omega, by rw [HKI.out], by rw [HST.out], fun j a b => by rcases HCK.out j a b with rfl | h; exact HNO.out; exact HCR.out j h b⟩
              case measure => simp [intOf]
          · have hno := HCN.out (fun h => h1 h.1)
            have HNO := Lib.hid hno; clear hno
            have h3 : s ≤ F k + x := by omega
            have HST := Lib.hid (HY.out h3)
            go_wp2
            go_roundw
            case rel => exact ⟨hb, d + 1, by omega, by rw [HKI.out], by rw [HST.out], fun j a b => by rcases HCK.out j a b with rfl | h; exact HNO.out; exact HCR.out j h b⟩
            case measure => simp [intOf]
        · have hdm : m = d := by omega
          subst hdm
          have hcb := crB_no s x m F T fun i hi => HCR.out i (by omega) hi
          have HX := Lib.hid (tp_ok s n P R m F T O x HV.out HIN.out hcb)
          clear hcb HCR hlt
          obtain ⟨st, hst⟩ : ∃ st, stD s x m F m = st := ⟨_, rfl⟩
          rw [hst]
          have hstn : stN s x m F = st := by rw [stN_def, hst]
          have hstle : st ≤ m := by rw [← hst]; exact stD_le s x m F m
          have HSTN := Lib.hid hstn
          clear hst hstn
          obtain ⟨U, rfl⟩ : ∃ U, U = wr := ⟨wr, rfl⟩
          go_wp2_with (first | (refine new_prog0 rfl rfl rfl _ _ rfl rfl (by rfl) ?_; intro W2 hbn hsn hrn; have HBN := Lib.hid hbn; have HSN := Lib.hid hsn; have HRN := Lib.hid hrn; clear hbn hsn hrn) | fail)
          have htp0 : TPS U none 0 0 (fun _ => 0) ((rotL s x m F T).take 0) W2 := ⟨HBN.out, HRN.out, OwnL.none0 _ _⟩
          have HTP0 := Lib.hid htp0; clear htp0
          clear HBN HSN HRN
          have KBU := KB; have KPU := KP; have K6U := K6
          have HGP := Lib.hid (row_lt KP.here)
          have HK6L := Lib.hid (row_lt K6.here)
          go_loopw [15] (fun i w' => ∃ k : Nat, k ≤ m ∧ i = .int .i64 k ∧ ∃ b' c', TPS U b' k c' (fun _ => 0) ((rotL s x m F T).take k) w') (fun i _ => m - (intOf i).toNat)
          case atStart => exact ⟨0, by omega, rfl, none, 0, HTP0.out⟩
          case round =>
            clear HTP0
            obtain ⟨k, hk, rfl, b', c', htp⟩ := hrel
            have hkU := htp.k
            replace KB := KB.on hkU
            replace KH := KH.on hkU
            replace KL := KL.on hkU
            replace KF := KF.on hkU
            replace KP := KP.on hkU
            replace K6 := K6.on hkU
            clear hkU
            have hob : ∀ x, (Value.slice b' k c').ownBlock = some x → x < wr.heap.size := fun x hx => (OwnS.lt htp.o x hx).2
            have hUw := htp.lt
            have KT := htp.kp; clear htp
            by_cases hlt : k < m
            · have hx := SecAt.get KL.here (show 0 < m by omega)
              obtain ⟨g, off, rfl, hg, hc⟩ := hx
              obtain ⟨r, hr⟩ : ∃ r, (st + k) % m = r := ⟨_, rfl⟩
              have hrm : r < m := by rw [← hr]; exact Nat.mod_lt _ (by omega)
              have C0 := Lib.hid (hc r hrm).1
              have C1 := Lib.hid (hc r hrm).2
              clear hc
              have hfr := HSEC.out r hrm
              have hrm' : (r : Int) < m := by omega
              have hk' : (k : Int) < m := by omega
              have hm0 : ¬ (m : Int) = 0 := by omega
              have hm1 : ¬ m = 0 := by omega
              have q4 := i64_id (x := (st : Int) + k) (by omega)
              have hmd : ((st : Int) + (k : Int)).tmod (m : Int) = (r : Int) := by rw [ntmodU, hr]
              have htk := rot_take s x m F T hlt
              rw [HSTN.out, hr] at htk
              clear hr
              go_wp2
              have hS0 : Below wr.heap.size wr wr.drew := (Below.refl _ _).drew
              refine wp_region_S (fun V => Below wr.heap.size wr V) (by kernel_rfl) hS0 ?_
              refine take_val 0 (.pointer (some ⟨w.heap.size + 1, 0, none⟩)) rfl (by kernel_rfl) (by kernel_rfl) (by kernel_rfl) (fun _ _ _ h => h) rfl (fun V hV => by simp [go_sem]) hS0 ?_
              simp only [List.getElem_toArray, List.getElem_cons_zero, List.getElem_cons_succ, Act.put, List.setIfInBounds_toArray, List.set_cons_zero, List.set_cons_succ]
              refine take_val 1 (.slice (some ⟨g, off, none⟩) m d) rfl (by kernel_rfl) (by kernel_rfl) (by kernel_rfl) (fun _ _ _ h => h) rfl (fun V hV => by have p0 := row_cell 0 (KP.at hV); rw [pc_get0] at p0; simp [go_sem, p0]) hS0 ?_
              simp only [List.getElem_toArray, List.getElem_cons_zero, List.getElem_cons_succ, Act.put, List.setIfInBounds_toArray, List.set_cons_zero, List.set_cons_succ]
              refine take_val 2 (.int .i64 (st : Int)) rfl (by kernel_rfl) (by kernel_rfl) (by kernel_rfl) (fun _ _ _ h => h) rfl (fun V hV => by simp [go_sem]) hS0 ?_
              simp only [List.getElem_toArray, List.getElem_cons_zero, List.getElem_cons_succ, Act.put, List.setIfInBounds_toArray, List.set_cons_zero, List.set_cons_succ]
              refine take_val 3 (.int .i64 (k : Int)) rfl (by kernel_rfl) (by kernel_rfl) (by kernel_rfl) (fun _ _ _ h => h) rfl (fun V hV => by simp [go_sem]) hS0 ?_
              simp only [List.getElem_toArray, List.getElem_cons_zero, List.getElem_cons_succ, Act.put, List.setIfInBounds_toArray, List.set_cons_zero, List.set_cons_succ]
              refine take_val 4 (.int .i64 ((st : Int) + k)) rfl (by kernel_rfl) (by kernel_rfl) (by kernel_rfl) (fun _ _ _ h => h) rfl (fun V hV => by simp [go_sem, q4]) hS0 ?_
              simp only [List.getElem_toArray, List.getElem_cons_zero, List.getElem_cons_succ, Act.put, List.setIfInBounds_toArray, List.set_cons_zero, List.set_cons_succ]
              refine take_val 5 (.int .i64 (m : Int)) rfl (by kernel_rfl) (by kernel_rfl) (by kernel_rfl) (fun _ _ _ h => h) rfl (fun V hV => by simp [go_sem]) hS0 ?_
              simp only [List.getElem_toArray, List.getElem_cons_zero, List.getElem_cons_succ, Act.put, List.setIfInBounds_toArray, List.set_cons_zero, List.set_cons_succ]
              refine take_val 6 (.int .i64 (r : Int)) rfl (by kernel_rfl) (by kernel_rfl) (by kernel_rfl) (fun _ _ _ h => h) rfl (fun V hV => by simp [go_sem, hmd, hm0, hm1]) hS0 ?_
              simp only [List.getElem_toArray, List.getElem_cons_zero, List.getElem_cons_succ, Act.put, List.setIfInBounds_toArray, List.set_cons_zero, List.set_cons_succ]
              refine take_val 7 (.pointer (some ⟨g, off + r * 2, none⟩)) rfl (by kernel_rfl) (by kernel_rfl) (by kernel_rfl) (fun _ _ _ h => h) rfl (fun V hV => by simp [go_sem, hrm, hrm']) hS0 ?_
              simp only [List.getElem_toArray, List.getElem_cons_zero, List.getElem_cons_succ, Act.put, List.setIfInBounds_toArray, List.set_cons_zero, List.set_cons_succ]
              refine take_val 8 (.agg #[.int .i16 (F r), .int .i16 (T r)]) rfl (by kernel_rfl) (by kernel_rfl) (by kernel_rfl) (fun _ _ _ h => h) rfl (fun V hV => by have c0 := (hV.cell (p := ⟨g, off + r * 2, none⟩) hg).trans C0.out; have c1 := (hV.cell (p := ⟨g, off + r * 2 + 1, none⟩) hg).trans C1.out; simp [go_sem, c0, c1]) hS0 ?_
              simp only [List.getElem_toArray, List.getElem_cons_zero, List.getElem_cons_succ, Act.put, List.setIfInBounds_toArray, List.set_cons_zero, List.set_cons_succ]
              refine step_val 9 (.pointer (some ⟨wr.heap.size, 0, none⟩)) (wr.drew.alloc (.cells #[.int .i16 0, .int .i16 0] 55)) (by kernel_rfl) rfl rfl (by simp [go_sem]) (hS0.alloc (Nat.le_refl _) _) ?_
              simp only [List.getElem_toArray, List.getElem_cons_zero, List.getElem_cons_succ, Act.put, List.setIfInBounds_toArray, List.set_cons_zero, List.set_cons_succ]
              refine step_skip 10 (wr.drew.alloc (.cells #[.int .i16 (F r), .int .i16 (T r)] 55)) (by kernel_rfl) rfl rfl (by simp [go_sem]) (hS0.alloc (Nat.le_refl _) _) ?_
              simp only [List.getElem_toArray, List.getElem_cons_zero, List.getElem_cons_succ, Act.put, List.setIfInBounds_toArray, List.set_cons_zero, List.set_cons_succ]
              refine wpAnyH_done (by kernel_rfl) ?_ _
              have hd := below_drew wr
              replace KB := KB.on hd
              replace KH := KH.on hd
              replace KL := KL.on hd
              replace KF := KF.on hd
              replace KP := KP.on hd
              replace K6 := K6.on hd
              replace KT := KT.on hd
              have KS := kp_new wr.drew #[.int .i16 (F r), .int .i16 (T r)] 55
              replace KB := KB.alloc (.cells #[.int .i16 (F r), .int .i16 (T r)] 55)
              replace KH := KH.alloc (.cells #[.int .i16 (F r), .int .i16 (T r)] 55)
              replace KL := KL.alloc (.cells #[.int .i16 (F r), .int .i16 (T r)] 55)
              replace KF := KF.alloc (.cells #[.int .i16 (F r), .int .i16 (T r)] 55)
              replace KP := KP.alloc (.cells #[.int .i16 (F r), .int .i16 (T r)] 55)
              replace K6 := K6.alloc (.cells #[.int .i16 (F r), .int .i16 (T r)] 55)
              replace KT := KT.alloc (.cells #[.int .i16 (F r), .int .i16 (T r)] 55)
              rw [show wr.drew.heap.size = wr.heap.size from rfl] at KS
              obtain ⟨gs, hgs⟩ : ∃ gs, wr.heap.size = gs := ⟨_, rfl⟩
              rw [hgs] at KS hob hUw ⊢
              have HOB := Lib.hid hob
              clear hgs hd C0 C1 hS0 hob
              generalize wr.drew.alloc (.cells #[.int .i16 (F r), .int .i16 (T r)] 55) = V1 at KS KB KH KL KF KP K6 KT ⊢
              have q5 := i64_id (x := F r) (by omega)
              have q6 := i64_id (x := F r + x) (by omega)
              have hmv := mvF_tmod s x F (i := r) (by omega)
              have hmb := mvF_in s x F (i := r) (by omega)
              obtain ⟨y, hy⟩ : ∃ y, mvF s x F r = y := ⟨_, rfl⟩
              rw [hy] at hmv hmb
              have HY := Lib.hid hy; clear hy
              have q7 := i16_idU (x := y) (by omega)
              have hs0 : ¬ s = 0 := by omega
              have HT1 := Lib.hid KT.here
              go_wp2
              have hS0 : (fun V : World => Below U.heap.size V1 V ∧ V.heap[gs]? = some (.cells #[.int .i16 (F r), .int .i16 (T r)] 55 (0, 0))) V1.drew := ⟨(Below.refl _ _).drew, KS.here⟩
              refine wp_region_S (fun V : World => Below U.heap.size V1 V ∧ V.heap[gs]? = some (.cells #[.int .i16 (F r), .int .i16 (T r)] 55 (0, 0))) (by kernel_rfl) hS0 ?_
              refine take_val 0 (.pointer (some ⟨U.heap.size, 0, none⟩)) rfl (by kernel_rfl) (by kernel_rfl) (by kernel_rfl) (fun _ _ _ h => h) rfl (fun V hV => by simp [go_sem]) hS0 ?_
              simp only [List.getElem_toArray, List.getElem_cons_zero, List.getElem_cons_succ, Act.put, List.setIfInBounds_toArray, List.set_cons_zero, List.set_cons_succ]
              refine take_val 2 (.pointer (some ⟨gs, 0, none⟩)) rfl (by kernel_rfl) (by kernel_rfl) (by kernel_rfl) (fun _ _ _ h => h) rfl (fun V hV => by simp [go_sem]) hS0 ?_
              simp only [List.getElem_toArray, List.getElem_cons_zero, List.getElem_cons_succ, Act.put, List.setIfInBounds_toArray, List.set_cons_zero, List.set_cons_succ]
              refine take_val 3 (.int .i16 (F r)) rfl (by kernel_rfl) (by kernel_rfl) (by kernel_rfl) (fun _ _ _ h => h) rfl (fun V hV => by have d0 := row_cell 0 hV.2; simp [go_sem, d0]) hS0 ?_
              simp only [List.getElem_toArray, List.getElem_cons_zero, List.getElem_cons_succ, Act.put, List.setIfInBounds_toArray, List.set_cons_zero, List.set_cons_succ]
              refine take_val 4 (.int .i64 (F r)) rfl (by kernel_rfl) (by kernel_rfl) (by kernel_rfl) (fun _ _ _ h => h) rfl (fun V hV => by simp [go_sem, q5]) hS0 ?_
              simp only [List.getElem_toArray, List.getElem_cons_zero, List.getElem_cons_succ, Act.put, List.setIfInBounds_toArray, List.set_cons_zero, List.set_cons_succ]
              refine take_val 5 (.int .i64 x) rfl (by kernel_rfl) (by kernel_rfl) (by kernel_rfl) (fun _ _ _ h => h) rfl (fun V hV => by simp [go_sem]) hS0 ?_
              simp only [List.getElem_toArray, List.getElem_cons_zero, List.getElem_cons_succ, Act.put, List.setIfInBounds_toArray, List.set_cons_zero, List.set_cons_succ]
              refine take_val 6 (.int .i64 (F r + x)) rfl (by kernel_rfl) (by kernel_rfl) (by kernel_rfl) (fun _ _ _ h => h) rfl (fun V hV => by simp [go_sem, q6]) hS0 ?_
              simp only [List.getElem_toArray, List.getElem_cons_zero, List.getElem_cons_succ, Act.put, List.setIfInBounds_toArray, List.set_cons_zero, List.set_cons_succ]
              refine take_val 7 (.int .i64 s) rfl (by kernel_rfl) (by kernel_rfl) (by kernel_rfl) (fun _ _ _ h => h) rfl (fun V hV => by simp [go_sem]) hS0 ?_
              simp only [List.getElem_toArray, List.getElem_cons_zero, List.getElem_cons_succ, Act.put, List.setIfInBounds_toArray, List.set_cons_zero, List.set_cons_succ]
              refine take_val 8 (.int .i64 y) rfl (by kernel_rfl) (by kernel_rfl) (by kernel_rfl) (fun _ _ _ h => h) rfl (fun V hV => by simp [go_sem, hmv, hs0]) hS0 ?_
              simp only [List.getElem_toArray, List.getElem_cons_zero, List.getElem_cons_succ, Act.put, List.setIfInBounds_toArray, List.set_cons_zero, List.set_cons_succ]
              refine take_val 9 (.int .i16 y) rfl (by kernel_rfl) (by kernel_rfl) (by kernel_rfl) (fun _ _ _ h => h) rfl (fun V hV => by simp [go_sem, q7]) hS0 ?_
              simp only [List.getElem_toArray, List.getElem_cons_zero, List.getElem_cons_succ, Act.put, List.setIfInBounds_toArray, List.set_cons_zero, List.set_cons_succ]
              refine take_val 10 (.pointer (some ⟨gs, 1, none⟩)) rfl (by kernel_rfl) (by kernel_rfl) (by kernel_rfl) (fun _ _ _ h => h) rfl (fun V hV => by simp [go_sem]) hS0 ?_
              simp only [List.getElem_toArray, List.getElem_cons_zero, List.getElem_cons_succ, Act.put, List.setIfInBounds_toArray, List.set_cons_zero, List.set_cons_succ]
              refine take_val 11 (.int .i16 (T r)) rfl (by kernel_rfl) (by kernel_rfl) (by kernel_rfl) (fun _ _ _ h => h) rfl (fun V hV => by have d0 := row_cell 1 hV.2; simp [go_sem, d0]) hS0 ?_
              simp only [List.getElem_toArray, List.getElem_cons_zero, List.getElem_cons_succ, Act.put, List.setIfInBounds_toArray, List.set_cons_zero, List.set_cons_succ]
              refine take_val 12 (.agg #[.int .i16 y, .int .i16 (T r)]) rfl (by kernel_rfl) (by kernel_rfl) (by kernel_rfl) (fun _ _ _ h => h) rfl (fun V hV => by simp [go_sem]) hS0 ?_
              simp only [List.getElem_toArray, List.getElem_cons_zero, List.getElem_cons_succ, Act.put, List.setIfInBounds_toArray, List.set_cons_zero, List.set_cons_succ]
              have htd := HT1.out.stay (below_drew V1)
              have g0 := htd.cell0
              have hta := htd.stay ((Below.refl _ _).alloc (Nat.le_refl _) (.cells #[.int .i16 y, .int .i16 (T r)] 55))
              have g1 : (V1.alloc (.cells #[.int .i16 y, .int .i16 (T r)] 55)).cell? ⟨U.heap.size, 0, none⟩ = some (.slice b' k c') := hta.cell0
              have hS1 : (fun V : World => Below U.heap.size V1 V ∧ V.heap[gs]? = some (.cells #[.int .i16 (F r), .int .i16 (T r)] 55 (0, 0))) (V1.drew.alloc (.cells #[.int .i16 y, .int .i16 (T r)] 55)) := ⟨hS0.1.alloc (Nat.le_of_lt htd.lt) _, (heap_alloc_old V1.drew _ (row_lt KS.here)).trans KS.here⟩
              refine step_pair 1 13 (.slice b' k c') (.slice (some ⟨V1.drew.heap.size, 0, none⟩) 1 1) (V1.drew.alloc (.cells #[.int .i16 y, .int .i16 (T r)] 55)) (by kernel_rfl) (by kernel_rfl) (by kernel_rfl) rfl rfl rfl rfl rfl rfl (by simp [go_sem, g0]) (ex_build_sec _ rfl _ _ rfl) (by simp [go_sem, g1]) (ex_build_sec _ rfl _ _ rfl) hS0 hS1 (by kernel_rfl) rfl ?_
              simp only [List.getElem_toArray, List.getElem_cons_zero, List.getElem_cons_succ, Act.put, List.setIfInBounds_toArray, List.set_cons_zero, List.set_cons_succ]
              have HTA := Lib.hid hta.o
              have hlk := rot_take_len s x m F T (k := k) (by omega)
              have hgl : U.heap.size + 1 ≤ (V1.drew.alloc (.cells #[.int .i16 y, .int .i16 (T r)] 55)).heap.size := Nat.succ_le_of_lt hta.lt
              have hown0 : ∀ x, (Value.slice b' k c').ownBlock = some x → x < V1.heap.size := fun x hx => (OwnS.lt HT1.out.o x hx).2
              refine step_append_Lg Try.underlying33 infoS2 rfl (by decide) (by decide) encS_len encS_one 14 (by kernel_rfl) rfl rfl _ _ rfl (U.heap.size + 1) _ _ rfl HTA.out ⟨V1.drew.heap.size, 0, none⟩ 1 1 [(y, T r)] rfl rfl (one_cells (enc := encS) (heap_alloc_new V1.drew _)) (by rw [hlk]; omega) hgl ?_
              intro v2 w2 hown2 hg2 hb2
              have hgs2 : w2.heap[gs]? = some (.cells #[.int .i16 (F r), .int .i16 (T r)] 55 (0, 0)) := by
                refine (hg2.block gs (row_lt hS1.2) fun e => ?_).trans hS1.2
                exact absurd (HOB.out gs e.symm) (Nat.lt_irrefl _)
              have hS2 : (fun V : World => Below U.heap.size V1 V ∧ V.heap[gs]? = some (.cells #[.int .i16 (F r), .int .i16 (T r)] 55 (0, 0))) w2 := ⟨hS1.1.trans (hb2.mono (by omega)), hgs2⟩
              refine ⟨hS2, ?_⟩
              simp only [List.getElem_toArray, List.getElem_cons_zero, List.getElem_cons_succ, Act.put, List.setIfInBounds_toArray, List.set_cons_zero, List.set_cons_succ]
              refine take_val 15 (.pointer (some ⟨U.heap.size, 0, none⟩)) rfl (by kernel_rfl) (by kernel_rfl) (by kernel_rfl) (fun _ _ _ h => h) rfl (fun V hV => by simp [go_sem]) hS2 ?_
              simp only [List.getElem_toArray, List.getElem_cons_zero, List.getElem_cons_succ, Act.put, List.setIfInBounds_toArray, List.set_cons_zero, List.set_cons_succ]
              obtain ⟨b2, c2, hv2⟩ := OwnL.form hown2
              subst hv2
              have hl2 : ((rotL s x m F T).take k ++ [(y, T r)]).length = k + 1 := by rw [List.length_append, hlk]; rfl
              rw [hl2] at hown2 ⊢
              have hps := hta.push hb2 hown2
              have hrw2 := (hb2.block U.heap.size (by omega)).trans hta.r
              have f2 := frozen_of_row w2 U.heap.size 0 _ _ hrw2
              have e2 := row_cell 0 hrw2
              rw [pc_get0] at e2
              have hS3 : (fun V : World => Below U.heap.size V1 V ∧ V.heap[gs]? = some (.cells #[.int .i16 (F r), .int .i16 (T r)] 55 (0, 0))) (w2.setCell ⟨U.heap.size, 0, none⟩ (.slice b2 (k + 1) c2)) := ⟨hS2.1.setCell (Nat.le_refl _) _, (heap_setCell_other w2 _ gs _ (show gs ≠ U.heap.size by omega)).trans hS2.2⟩
              refine step_skip 16 (w2.setCell ⟨U.heap.size, 0, none⟩ (.slice b2 (k + 1) c2)) (by kernel_rfl) rfl rfl (by simp [go_sem, e2, f2]) hS3 ?_
              simp only [List.getElem_toArray, List.getElem_cons_zero, List.getElem_cons_succ, Act.put, List.setIfInBounds_toArray, List.set_cons_zero, List.set_cons_succ]
              refine wpAnyH_done (by kernel_rfl) ?_ _
              have HPS := Lib.hid hps
              clear hps hrw2 f2 e2 hS3 hS2 hS1 hS0 hta htd g0 g1 hown2 hg2 hb2 hgs2 HTA HT1
              generalize w2.setCell ⟨U.heap.size, 0, none⟩ (.slice b2 (k + 1) c2) = W9 at HPS ⊢
              rw [HY.out] at htk
              rw [← htk] at HPS
              have q8 := i64_id (x := (k : Int) + 1) (by omega)
              go_wp2
              go_roundw
              case rel => exact ⟨k + 1, by omega, by go_num, b2, c2, HPS.out⟩
              case measure => simp [intOf]; omega
            · have hkm : m = k := by omega
              subst hkm
              have HT1 := Lib.hid KT.here
              rw [rot_take_all s x m F T] at HT1
              clear hlt KT
              go_wp2
              go_loopw [17] (fun i w' => ∃ k : Nat, k ≤ 48 ∧ i = .int .i64 k ∧ TPS U b' m c' (mixI (tuO s x m F O) (fun _ => 0) k) (rotL s x m F T) w') (fun i _ => 48 - (intOf i).toNat)
              case atStart => exact ⟨0, by omega, rfl, by rw [mixI_zero]; exact HT1.out⟩
              case round =>
                clear HT1
                obtain ⟨k, hk, rfl, htp⟩ := hrel
                have hkU := htp.k
                replace KBU := KBU.on hkU
                replace KPU := KPU.on hkU
                replace K6U := K6U.on hkU
                clear hkU
                by_cases hlt : k < 48
                · have hk' : (k : Int) < 48 := by omega
                  have e0 := htp.cellO hlt
                  have f0 := htp.frozen (1 + k)
                  have hx1 := htp.set hlt (-1)
                  have e1 : (wr.setCell ⟨U.heap.size, 1 + k, none⟩ (.int .i8 (-1))).cell? ⟨w.heap.size + 1, 1 + k, none⟩ = some (.int .i8 (O k)) := by
                    have hb := (Below.refl U.heap.size wr).setCell (p := ⟨U.heap.size, 1 + k, none⟩) (Nat.le_refl _) (.int .i8 (-1))
                    have hlt2 : w.heap.size + 1 < U.heap.size := HGP.out
                    rw [hb.cell (p := ⟨w.heap.size + 1, 1 + k, none⟩) hlt2, row_cell (1 + k) KPU.here, pc_get _ _ _ _ k hlt]
                  have ho := HORD.out k hlt
                  have hmx := mixI_upd (tuO s x m F O) (fun _ => 0) k
                  have q3 := i64_id (x := (k : Int) + 1) (by omega)
                  by_cases h0 : 0 ≤ O k
                  · have hz := tuO_yes s x m F (O := O) h0
                    rw [HSTN.out] at hz
                    have hmb := Int.emod_lt_of_pos (O k - (st : Int) + m) (show 0 < (m : Int) by omega)
                    have hmc := Int.emod_nonneg (O k - (st : Int) + m) (show (m : Int) ≠ 0 by omega)
                    have hmd : (O k - (st : Int) + m).tmod m = (O k - (st : Int) + m) % m := Int.tmod_eq_emod_of_nonneg (by omega)
                    rw [← hz] at hmb hmc hmd
                    obtain ⟨z, hzz⟩ : ∃ z, tuO s x m F O k = z := ⟨_, rfl⟩
                    rw [hzz] at hmb hmc hmd hmx
                    clear hz hzz
                    have q4 := i64_id (x := O k) (by omega)
                    have q5 := i64_id (x := O k - (st : Int)) (by omega)
                    have q6 := i64_id (x := O k - (st : Int) + m) (by omega)
                    have q7 := i8_idU (x := z) (by omega)
                    have hm0 : ¬ m = 0 := by omega
                    have e2 := hx1.cellO hlt
                    have f2 := hx1.frozen (1 + k)
                    have hx2 := hx1.set hlt z
                    rw [updI_twice, hmx] at hx2
                    have HX2 := Lib.hid hx2
                    clear hx1 hx2 hmx htp
                    go_wp2
                    go_roundw
                    case rel => exact ⟨k + 1, by omega, by go_num, HX2.out⟩
                    case measure => simp [intOf]; omega
                  · have hz := tuO_no s x m F (O := O) h0
                    rw [hz] at hmx
                    rw [hmx] at hx1
                    have HX2 := Lib.hid hx1
                    clear hx1 hmx htp
                    go_wp2
                    go_roundw
                    case rel => exact ⟨k + 1, by omega, by go_num, HX2.out⟩
                    case measure => simp [intOf]; omega
                · have hk48 : k = 48 := by omega
                  subst hk48
                  have HTP := Lib.hid htp
                  clear hlt
                  go_wp2_with (first | (with_reducible refine load_iprog rfl _ rfl U.heap.size rfl _ b' m c' (mixI (tuO s x m F O) (fun _ => 0) 48) HTP.out.r ?_) | (with_reducible refine store_iprog rfl _ _ rfl (w.heap.size + 1 + 1) b' m c' (mixI (tuO s x m F O) (fun _ => 0) 48) rfl rfl _ none 0 0 (fun _ => 0) K6U.here ?_) | fail)
                  have hpc : pc b' m c' (mixI (tuO s x m F O) (fun _ => 0) 48) = pc b' m c' (tuO s x m F O) := by unfold pc; rw [mixI_full]
                  refine bodyPost_ret (results_prog2 rfl _ _ (w.heap.size + 1 + 1) _ b' m c' (mixI (tuO s x m F O) (fun _ => 0) 48) (.int .i64 0) rfl (setRow_heap _ _ _ _ _ _ K6U.here) rfl) rfl ⟨b', c', by rw [hpc, HX.out.1, HX.out.2.1, HX.out.2.2, rotL_len], below_setRow KBU.here (by omega) _, ?_⟩
                  rw [HX.out.1, rotL_len]
                  exact OwnS.mono (own_grown HTP.out.o (grown_setRowU wr (w.heap.size + 1 + 1) (pc b' m c' (mixI (tuO s x m F O) (fun _ => 0) 48))) fun k e => by cases e; have := HK6L.out; omega) (by have := HK6L.out; omega)
end Go.Proofs.Ytfefclngfeihiaa
