/- PinTune and PinLike, by the program and by the reference. No conditions. -/
import Derived.Test.YtpfjmoodfodfhaaPq
import Derived.Test.YtpfjmoodfodfhaaPt
import Derived.Test.YtpfjmoodfodfhaaTf
import Derived.Outline
namespace Go.Proofs.Ytpfjmoodfodfhaa
open Go.RowKit
set_option linter.unusedVariables false
set_option linter.unusedSimpArgs false

/-- the search has not begun -/
def st0 : PnSt := ⟨0, false, false, fun _ => 0, 0⟩
theorem st0_run (like : Bool) : pnStop like st0 = false := by rw [pnStop_def]; rfl
theorem st0_ok {x : Int} (h : 0 ≤ x) : PnOK x st0 := ⟨Int.le_refl _, h, fun _ => by show 0 < _; decide, Int.le_refl _, by show (0 : Int) ≤ 200; decide⟩
/-- the code behind a search, c0 having been the code of what was asked -/
def psCode (c0 : Int) (st : PnSt) : Int := if c0 = 0 then (if st.over = true then 7 else if st.found = true then 0 else 6) else c0
def psDrum (c0 : Int) (st : PnSt) : Nat → Nat := if psCode c0 st = 0 then st.best else fun _ => 0
def psTries (c0 : Int) (st : PnSt) : Int := if psCode c0 st = 0 then st.tries else 0
def psMost (c0 : Int) (st : PnSt) : Int := if psCode c0 st = 0 then st.most else 0
section
variable {c0 x : Int} {st : PnSt}
theorem ps_bad (h : c0 = x) (hx : ¬ x = 0) : psCode c0 st = x ∧ psDrum c0 st = (fun _ => 0) ∧ psTries c0 st = 0 ∧ psMost c0 st = 0 := by
  subst h
  have h1 : psCode c0 st = c0 := if_neg hx
  unfold psDrum psTries psMost
  rw [h1, if_neg hx, if_neg hx, if_neg hx]; exact ⟨rfl, rfl, rfl, rfl⟩
theorem ps_code (h : c0 = 0) : psCode c0 st = if st.over = true then 7 else if st.found = true then 0 else 6 := if_pos h
theorem ps_fail (h : psCode c0 st = x) (hx : ¬ x = 0) : psDrum c0 st = (fun _ => 0) ∧ psTries c0 st = 0 ∧ psMost c0 st = 0 := by
  unfold psDrum psTries psMost
  rw [h, if_neg hx, if_neg hx, if_neg hx]; exact ⟨rfl, rfl, rfl⟩
theorem ps_yes (h : psCode c0 st = 0) : psDrum c0 st = st.best ∧ psTries c0 st = st.tries ∧ psMost c0 st = st.most := ⟨if_pos h, if_pos h, if_pos h⟩
end
attribute [irreducible] psCode psDrum psTries psMost
/-- PinTune: the code of what is asked, and what the search comes to -/
def ptA (s : Int) (n : Nat) (P R : Nat → Int) (l : Nat) (A B : Nat → Int) (x : Int) : Int := toC (vFrame s n P R) (vTune l A B) s (tLen l A) x
noncomputable def ptS (s : Int) (n : Nat) (P R : Nat → Int) (l : Nat) (A B : Nat → Int) (x : Int) : PnSt := pnB false x (fun _ => 0) s.toNat n P R A B l l (fun _ => 0) 0 st0
theorem ptA_def (s : Int) (n : Nat) (P R : Nat → Int) (l : Nat) (A B : Nat → Int) (x : Int) : ptA s n P R l A B x = toC (vFrame s n P R) (vTune l A B) s (tLen l A) x := rfl
theorem ptS_def (s : Int) (n : Nat) (P R : Nat → Int) (l : Nat) (A B : Nat → Int) (x : Int) : ptS s n P R l A B x = pnB false x (fun _ => 0) s.toNat n P R A B l l (fun _ => 0) 0 st0 := rfl
noncomputable def ptD (s : Int) (n : Nat) (P R : Nat → Int) (l : Nat) (A B : Nat → Int) (x : Int) : Nat → Nat := psDrum (ptA s n P R l A B x) (ptS s n P R l A B x)
noncomputable def ptT (s : Int) (n : Nat) (P R : Nat → Int) (l : Nat) (A B : Nat → Int) (x : Int) : Int := psTries (ptA s n P R l A B x) (ptS s n P R l A B x)
noncomputable def ptC (s : Int) (n : Nat) (P R : Nat → Int) (l : Nat) (A B : Nat → Int) (x : Int) : Int := psCode (ptA s n P R l A B x) (ptS s n P R l A B x)
theorem pt_def (s : Int) (n : Nat) (P R : Nat → Int) (l : Nat) (A B : Nat → Int) (x : Int) : ptD s n P R l A B x = psDrum (ptA s n P R l A B x) (ptS s n P R l A B x) ∧ ptT s n P R l A B x = psTries (ptA s n P R l A B x) (ptS s n P R l A B x) ∧ ptC s n P R l A B x = psCode (ptA s n P R l A B x) (ptS s n P R l A B x) := ⟨rfl, rfl, rfl⟩
/-- PinLike -/
def plA (s : Int) (n : Nat) (P R : Nat → Int) (E : Nat → Nat) (l : Nat) (A B : Nat → Int) (x : Int) : Int := toC (okAll s n P R 1 (fun _ => E)) (vTune l A B) s (tLen l A) x
noncomputable def plS (s : Int) (n : Nat) (P R : Nat → Int) (E : Nat → Nat) (l : Nat) (A B : Nat → Int) (x : Int) : PnSt := pnB true x E s.toNat n P R A B l l (fun _ => 0) 0 st0
theorem plA_def (s : Int) (n : Nat) (P R : Nat → Int) (E : Nat → Nat) (l : Nat) (A B : Nat → Int) (x : Int) : plA s n P R E l A B x = toC (okAll s n P R 1 (fun _ => E)) (vTune l A B) s (tLen l A) x := rfl
theorem plS_def (s : Int) (n : Nat) (P R : Nat → Int) (E : Nat → Nat) (l : Nat) (A B : Nat → Int) (x : Int) : plS s n P R E l A B x = pnB true x E s.toNat n P R A B l l (fun _ => 0) 0 st0 := rfl
noncomputable def pkD (s : Int) (n : Nat) (P R : Nat → Int) (E : Nat → Nat) (l : Nat) (A B : Nat → Int) (x : Int) : Nat → Nat := psDrum (plA s n P R E l A B x) (plS s n P R E l A B x)
noncomputable def pkM (s : Int) (n : Nat) (P R : Nat → Int) (E : Nat → Nat) (l : Nat) (A B : Nat → Int) (x : Int) : Int := psMost (plA s n P R E l A B x) (plS s n P R E l A B x)
noncomputable def pkT (s : Int) (n : Nat) (P R : Nat → Int) (E : Nat → Nat) (l : Nat) (A B : Nat → Int) (x : Int) : Int := psTries (plA s n P R E l A B x) (plS s n P R E l A B x)
noncomputable def pkC (s : Int) (n : Nat) (P R : Nat → Int) (E : Nat → Nat) (l : Nat) (A B : Nat → Int) (x : Int) : Int := psCode (plA s n P R E l A B x) (plS s n P R E l A B x)
theorem pk_def (s : Int) (n : Nat) (P R : Nat → Int) (E : Nat → Nat) (l : Nat) (A B : Nat → Int) (x : Int) : pkD s n P R E l A B x = psDrum (plA s n P R E l A B x) (plS s n P R E l A B x) ∧ pkM s n P R E l A B x = psMost (plA s n P R E l A B x) (plS s n P R E l A B x) ∧ pkT s n P R E l A B x = psTries (plA s n P R E l A B x) (plS s n P R E l A B x) ∧ pkC s n P R E l A B x = psCode (plA s n P R E l A B x) (plS s n P R E l A B x) := ⟨rfl, rfl, rfl, rfl⟩
attribute [irreducible] ptA ptS ptD ptT ptC plA plS pkD pkM pkT pkC
theorem results_drum3 {fn : Func} {p q r : Tmp} (h : fn.results = #[.cell p 71, .tmp q, .tmp r]) (tmps : Array Value) (w : World) (g T : Nat) (D : Nat → Nat) (v u : Value)
    (hp : tmps.getD p undef = .pointer (some ⟨g, 0, none⟩)) (hg : DrumAt w T g D) (hv : tmps.getD q undef = v) (hu : tmps.getD r undef = u) : (results fn tmps).run Try.prog w = .ok (.tuple #[.agg (dc D), v, u]) w := by
  have hp' : tmps[p]?.getD undef = .pointer (some ⟨g, 0, none⟩) := by simpa using hp
  have hv' : tmps[q]?.getD undef = v := by simpa using hv
  have hu' : tmps[r]?.getD undef = u := by simpa using hu
  simp [results, h, hp', hv', hu', asAddr, run_loadVar_row w g T 71 (dc D) (0, 0) _ hg und_drum rfl (by rw [dc_size]; exact size_drum)]
theorem results_drum4 {fn : Func} {p q r t : Tmp} (h : fn.results = #[.cell p 71, .tmp q, .tmp r, .tmp t]) (tmps : Array Value) (w : World) (g T : Nat) (D : Nat → Nat) (v u z : Value)
    (hp : tmps.getD p undef = .pointer (some ⟨g, 0, none⟩)) (hg : DrumAt w T g D) (hv : tmps.getD q undef = v) (hu : tmps.getD r undef = u) (hz : tmps.getD t undef = z) : (results fn tmps).run Try.prog w = .ok (.tuple #[.agg (dc D), v, u, z]) w := by
  have hp' : tmps[p]?.getD undef = .pointer (some ⟨g, 0, none⟩) := by simpa using hp
  have hv' : tmps[q]?.getD undef = v := by simpa using hv
  have hu' : tmps[r]?.getD undef = u := by simpa using hu
  have hz' : tmps[t]?.getD undef = z := by simpa using hz
  simp [results, h, hp', hv', hu', hz', asAddr, run_loadVar_row w g T 71 (dc D) (0, 0) _ hg und_drum rfl (by rw [dc_size]; exact size_drum)]
theorem run_build_pn (s : Int) (a : Option Addr) (n c : Nat) (q : Option Addr) (l e0 : Nat) (x : Int) (w : World) : (Instr.build 141 #[(0, .agg #[.int .i16 s, .slice a n c]), (1, .slice q l e0), (3, .int .i64 x)]).run Try.prog w = .ok (.agg (cf 201 (pnC s a n c q l e0 (fun _ => 0) x false st0))) w := by
  kernel_rfl
theorem run_build_pnL (s : Int) (a : Option Addr) (n c : Nat) (q : Option Addr) (l e0 : Nat) (E : Nat → Nat) (x : Int) (w : World) : (Instr.build 141 #[(0, .agg #[.int .i16 s, .slice a n c]), (1, .slice q l e0), (2, .agg (dc E)), (3, .int .i64 x), (9, .bool true)]).run Try.prog w = .ok (.agg (cf 201 (pnC s a n c q l e0 E x true st0))) w := by
  kernel_rfl
section
variable {ops : Array Oper} {rest : List Oper} {o : Oper} {a : Act} {w : World} {Q : Exit → Act → World → Prop}
theorem build_pn (hgd : o.guard = none) (x y z : Operand) (ho : o.op = .build 141 #[(0, x), (1, y), (3, z)]) (s : Int) (ad : Option Addr) (n c : Nat) (q : Option Addr) (l e0 : Nat) (b : Int) (hx : a.eval x = .agg #[.int .i16 s, .slice ad n c]) (hy : a.eval y = .slice q l e0) (hz : a.eval z = .int .i64 b)
    (h : wpList Try.prog ops Q rest (a.put o.dst (.agg (cf 201 (pnC s ad n c q l e0 (fun _ => 0) b false st0)))) w) : wpList Try.prog ops Q (o :: rest) a w := by
  refine wpList_plain hgd fun K hK => ?_
  unfold Oper.wp
  have e : (execOp a.eval o).run Try.prog w = .ok (.value (.agg (cf 201 (pnC s ad n c q l e0 (fun _ => 0) b false st0)))) w := by
    have hm : (#[(0, x), (1, y), (3, z)] : Array (Nat × Operand)).map (fun (i, y) => (i, a.eval y)) = #[(0, .agg #[.int .i16 s, .slice ad n c]), (1, .slice q l e0), (3, .int .i64 b)] := by simp [hx, hy, hz]
    simp only [execOp, ho, hm, Sem.run_bind, run_build_pn, Result.andThen_ok]
    rfl
  rw [e]
  exact hK _ _ h
theorem build_pnL (hgd : o.guard = none) (x y d z t : Operand) (ho : o.op = .build 141 #[(0, x), (1, y), (2, d), (3, z), (9, t)]) (s : Int) (ad : Option Addr) (n c : Nat) (q : Option Addr) (l e0 : Nat) (E : Nat → Nat) (b : Int) (hx : a.eval x = .agg #[.int .i16 s, .slice ad n c]) (hy : a.eval y = .slice q l e0) (hd : a.eval d = .agg (dc E)) (hz : a.eval z = .int .i64 b) (ht : a.eval t = .bool true)
    (h : wpList Try.prog ops Q rest (a.put o.dst (.agg (cf 201 (pnC s ad n c q l e0 E b true st0)))) w) : wpList Try.prog ops Q (o :: rest) a w := by
  refine wpList_plain hgd fun K hK => ?_
  unfold Oper.wp
  have e : (execOp a.eval o).run Try.prog w = .ok (.value (.agg (cf 201 (pnC s ad n c q l e0 E b true st0)))) w := by
    have hm : (#[(0, x), (1, y), (2, d), (3, z), (9, t)] : Array (Nat × Operand)).map (fun (i, y) => (i, a.eval y)) = #[(0, .agg #[.int .i16 s, .slice ad n c]), (1, .slice q l e0), (2, .agg (dc E)), (3, .int .i64 b), (9, .bool true)] := by simp [hx, hy, hz, hd, ht]
    simp only [execOp, ho, hm, Sem.run_bind, run_build_pnL, Result.andThen_ok]
    rfl
  rw [e]
  exact hK _ _ h
end
theorem pn_new (w : World) (s : Int) (a : Option Addr) (n c : Nat) (q : Option Addr) (l e0 : Nat) (E : Nat → Nat) (x : Int) (like : Bool) : PnAt (w.alloc (.cells (cf 201 (pnC s a n c q l e0 E x like st0)) 141)) w.heap.size s a n c q l e0 E x like st0 := by
  unfold PnAt; exact BlkAt.new w _ 201 _
theorem run_build_sn (gf : Nat) (q : Option Addr) (l e0 : Nat) (x : Int) (w : World) : (Instr.build 136 #[(0, .pointer (some ⟨gf, 0, none⟩)), (1, .slice q l e0), (4, .int .i64 x)]).run Try.prog w = .ok (.agg (cf 296 (snC gf q l e0 (fun _ => 0) x false (fun _ => 0) st0))) w := by
  kernel_rfl
theorem run_build_snL (gf : Nat) (q : Option Addr) (l e0 : Nat) (E : Nat → Nat) (x : Int) (w : World) : (Instr.build 136 #[(0, .pointer (some ⟨gf, 0, none⟩)), (1, .slice q l e0), (2, .agg (dc E)), (3, .bool true), (4, .int .i64 x)]).run Try.prog w = .ok (.agg (cf 296 (snC gf q l e0 E x true (fun _ => 0) st0))) w := by
  kernel_rfl
section
variable {ops : Array Oper} {rest : List Oper} {o : Oper} {a : Act} {w : World} {Q : Exit → Act → World → Prop}
theorem build_sn (hgd : o.guard = none) (x y z : Operand) (ho : o.op = .build 136 #[(0, x), (1, y), (4, z)]) (gf : Nat) (q : Option Addr) (l e0 : Nat) (b : Int) (hx : a.eval x = .pointer (some ⟨gf, 0, none⟩)) (hy : a.eval y = .slice q l e0) (hz : a.eval z = .int .i64 b)
    (h : wpList Try.prog ops Q rest (a.put o.dst (.agg (cf 296 (snC gf q l e0 (fun _ => 0) b false (fun _ => 0) st0)))) w) : wpList Try.prog ops Q (o :: rest) a w := by
  refine wpList_plain hgd fun K hK => ?_
  unfold Oper.wp
  have e : (execOp a.eval o).run Try.prog w = .ok (.value (.agg (cf 296 (snC gf q l e0 (fun _ => 0) b false (fun _ => 0) st0)))) w := by
    have hm : (#[(0, x), (1, y), (4, z)] : Array (Nat × Operand)).map (fun (i, y) => (i, a.eval y)) = #[(0, .pointer (some ⟨gf, 0, none⟩)), (1, .slice q l e0), (4, .int .i64 b)] := by simp [hx, hy, hz]
    simp only [execOp, ho, hm, Sem.run_bind, run_build_sn, Result.andThen_ok]
    rfl
  rw [e]
  exact hK _ _ h
theorem build_snL (hgd : o.guard = none) (x y d t z : Operand) (ho : o.op = .build 136 #[(0, x), (1, y), (2, d), (3, t), (4, z)]) (gf : Nat) (q : Option Addr) (l e0 : Nat) (E : Nat → Nat) (b : Int) (hx : a.eval x = .pointer (some ⟨gf, 0, none⟩)) (hy : a.eval y = .slice q l e0) (hd : a.eval d = .agg (dc E)) (ht : a.eval t = .bool true) (hz : a.eval z = .int .i64 b)
    (h : wpList Try.prog ops Q rest (a.put o.dst (.agg (cf 296 (snC gf q l e0 E b true (fun _ => 0) st0)))) w) : wpList Try.prog ops Q (o :: rest) a w := by
  refine wpList_plain hgd fun K hK => ?_
  unfold Oper.wp
  have e : (execOp a.eval o).run Try.prog w = .ok (.value (.agg (cf 296 (snC gf q l e0 E b true (fun _ => 0) st0)))) w := by
    have hm : (#[(0, x), (1, y), (2, d), (3, t), (4, z)] : Array (Nat × Operand)).map (fun (i, y) => (i, a.eval y)) = #[(0, .pointer (some ⟨gf, 0, none⟩)), (1, .slice q l e0), (2, .agg (dc E)), (3, .bool true), (4, .int .i64 b)] := by simp [hx, hy, hz, hd, ht]
    simp only [execOp, ho, hm, Sem.run_bind, run_build_snL, Result.andThen_ok]
    rfl
  rw [e]
  exact hK _ _ h
end
theorem sn_new (w : World) (gf : Nat) (q : Option Addr) (l e0 : Nat) (E : Nat → Nat) (x : Int) (like : Bool) (D : Nat → Nat) : SnAt (w.alloc (.cells (cf 296 (snC gf q l e0 E x like D st0)) 136)) w.heap.size gf q l e0 E x like D st0 := by
  unfold SnAt; exact BlkAt.new w _ 296 _
end Go.Proofs.Ytpfjmoodfodfhaa
