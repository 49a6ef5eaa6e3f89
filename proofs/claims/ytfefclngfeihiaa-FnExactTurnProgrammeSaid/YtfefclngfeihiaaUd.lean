/- TurnProgramme, by the program. No conditions. -/
import Derived.Test.YtfefclngfeihiaaUc
import Derived.Test.YtfefclngfeihiaaUb
import Derived.Test.YtfefclngfeihiaaPc
import Derived.Test.YtfefclngfeihiaaIx
import Derived.Test.YtfefclngfeihiaaHeld2
import Derived.Outline
namespace Go.Proofs.Ytfefclngfeihiaa
open Go.RowKit
set_option linter.unusedVariables false
set_option linter.unusedSimpArgs false

section
variable {ops : Array Oper} {rest : List Oper} {o : Oper} {a : Act} {w : World} {Q : Exit → Act → World → Prop}
theorem load_GfU {v : Value} (he : (execOp a.eval o).run Try.prog w = .ok (.value v) w) (hw : Region.wanted o (yielded ops a.tmps) = true) (h : wpList Try.prog ops Q rest (a.put o.dst v) w) : wpList Try.prog ops Q (o :: rest) a w := by
  refine wpList_step fun K hK => ?_
  rw [if_pos hw]
  unfold Oper.wp
  rw [he]
  exact hK _ _ h
end
set_option maxRecDepth 100000 in
theorem ex_alloc_prog {o : Oper} {a : Act} {w : World} (ho : o.op = .alloc 35) : (execOp a.eval o).run Try.prog w = .ok (.value (.pointer (some ⟨w.heap.size, 0, none⟩))) (w.alloc (.cells (pc none 0 0 fun _ => 0) 35)) := by
  rw [pc_zero]
  simp only [execOp, ho, Instr.alloc, Sem.run_bind, zero_iprog, Result.andThen_ok, newVar, Value.cells]
  rfl
set_option maxRecDepth 100000 in
theorem ex_store_prog {o : Oper} {a : Act} {w : World} (x y : Operand) (ho : o.op = .store 35 x y) (b : Option Addr) (n c : Nat) (E : Nat → Int) (g : Nat) (hx : a.eval x = .pointer (some ⟨g, 0, none⟩)) (hy : a.eval y = .agg (pc b n c E)) (T : Nat) (b' : Option Addr) (n' c' : Nat) (D : Nat → Int)
    (hg : w.heap[g]? = some (.cells (pc b' n' c' D) T (0, 0))) : (execOp a.eval o).run Try.prog w = .ok .skip (w.setRow g (pc b n c E)) := by
  unfold execOp
  simp only [ho, hx, hy, Instr.storeAt, Instr.sureAddr, Sem.run_bind, Sem.run_pure, Result.andThen_ok, run_storeVar_row w g T 35 (pc b' n' c' D) (pc b n c E) hg (by rw [pc_size]; exact size_iprog) (by rw [pc_size, pc_size]) (pc_one _ _ _ _)]
theorem sec_setRow {W : World} {b : Option Addr} {n : Nat} {F T : Nat → Int} (hs : SecAt W b n F T) {g T' : Nat} (hr : W.heap[g]? = some (.cells (pc none 0 0 fun _ => 0) T' (0, 0))) (cs : Array Value) : SecAt (W.setRow g cs) b n F T := by
  intro hn
  obtain ⟨g', off, rfl, hg, hc⟩ := hs hn
  have hne : g' ≠ g := by
    rintro rfl
    have h := (hc 0 hn).1
    rw [row_cell _ hr] at h
    rcases hk : off + 0 * 2 with _ | k
    · rw [hk, pc_get0] at h; cases h
    · by_cases h48 : k < 48
      · rw [hk, Nat.add_comm, pc_get _ _ _ _ k h48] at h; cases h
      · rw [hk, Array.getElem?_eq_none (by rw [pc_size]; omega)] at h; cases h
  refine ⟨g', off, rfl, by simpa using hg, fun i hi => ?_⟩
  exact ⟨(World.cell?_of_block (setRow_other W g g' cs hne)).trans (hc i hi).1, (World.cell?_of_block (setRow_other W g g' cs hne)).trans (hc i hi).2⟩
theorem sortMv_any {s x : Int} {m : Nat} {F T : Nat → Int} (base N : Nat) (b' : Option Addr) (c' : Nat) (w3 : World) (hs2 : 2 ≤ s ∧ s ≤ 96) (hx : 0 ≤ x ∧ x < s) (hm : m ≤ 12) (hsec : ∀ k, k < m → endTo F T k ≤ F k ∧ F k < s ∧ 1 ≤ T k ∧ F k + T k ≤ s)
    (ho : OwnS w3 base (.slice b' m c') (mvL s x m F T)) (hN : ∀ y, (Value.slice b' m c').ownBlock = some y → y < N) :
    Calls Try.prog 25 #[.slice b' m c', .func (.func 26) #[] #[]] w3 fun e w' => e = .returned (.tuple #[]) ∧ OwnS w' base (.slice b' m c') (rotL s x m F T) ∧ ∃ row, w3.grownBy w' row ∧ ∀ k, row = some k → base ≤ k ∧ k < N := by
  have hrng : ∀ z ∈ mvL s x m F T, -32768 ≤ z.1 ∧ z.1 ≤ 32767 := fun z hz => by
    obtain ⟨i, hi, e⟩ := List.getElem_of_mem hz
    have hi2 : i < m := by rwa [mvL_len] at hi
    have e2 := mvL_get s x m F T hi2
    rw [List.getD, List.getElem?_eq_getElem hi, Option.getD_some, e] at e2
    have := mvF_in s x F (i := i) (by omega)
    rw [e2]; show -32768 ≤ mvF s x F i ∧ mvF s x F i ≤ 32767; omega
  have hlt := OwnS.lt ho
  rcases ho.2 with ⟨e, h0⟩ | ⟨g, cap, cur, e, hr⟩
  · injection e with e1 e2 e3
    subst e1; subst e2; subst e3
    refine (sortSec_none 0 _ none w3).mono ?_
    rintro e w' ⟨rfl, rfl⟩
    have e4 : rotL s x 0 F T = mvL s x 0 F T := by rw [List.eq_nil_of_length_eq_zero (rotL_len s x 0 F T), List.eq_nil_of_length_eq_zero (mvL_len s x 0 F T)]
    exact ⟨rfl, by rw [e4]; exact ho, none, grown_refl _ _, fun k hk => by cases hk⟩
  · injection e with e1 e2 e3
    subst e1
    refine (sortSec_own ho (by omega) hrng).mono ?_
    rintro e w' ⟨rfl, D, hp, hso, hown, hb, hsame⟩
    rw [sorted_rot hsec hx hp hso] at hown
    have hb0 := hb 0 (Nat.zero_le _)
    exact ⟨rfl, hown, some g, ⟨hb0.os, hb0.tape, hb0.output, hb0.size, fun k hk hne => hsame k (fun e => hne (by rw [e])) hk⟩, fun k hk => by cases hk; exact ⟨(hlt g rfl).1, hN g rfl⟩⟩
theorem rot_i16 {s x : Int} {m : Nat} {F T : Nat → Int} (hs2 : 2 ≤ s ∧ s ≤ 96) (hT : I16 T) : I16 (fun i => ((rotL s x m F T).getD i (0, 0)).1) ∧ I16 (fun i => ((rotL s x m F T).getD i (0, 0)).2) := by
  constructor
  · intro i
    by_cases hi : i < m
    · show -32768 ≤ ((rotL s x m F T).getD i (0, 0)).1 ∧ ((rotL s x m F T).getD i (0, 0)).1 ≤ 32767
      rw [rotL_get s x m F T hi]
      have := mvF_in s x F (i := (stN s x m F + i) % m) (by omega)
      show -32768 ≤ mvF s x F _ ∧ mvF s x F _ ≤ 32767
      omega
    · simp [List.getD, List.getElem?_eq_none (show (rotL s x m F T).length ≤ i by rw [rotL_len]; omega)]
  · intro i
    by_cases hi : i < m
    · show -32768 ≤ ((rotL s x m F T).getD i (0, 0)).2 ∧ ((rotL s x m F T).getD i (0, 0)).2 ≤ 32767
      rw [rotL_get s x m F T hi]
      exact hT _
    · simp [List.getD, List.getElem?_eq_none (show (rotL s x m F T).length ≤ i by rw [rotL_len]; omega)]
theorem build_prog_run (O : Nat → Int) (V : World) : (Instr.build 35 #[(1, .agg (oc O))]).run Try.prog V = .ok (.agg (pc none 0 0 O)) V := by kernel_rfl
theorem build_prog {ops : Array Oper} {rest : List Oper} {o : Oper} {a : Act} {w : World} {Q : Exit → Act → World → Prop} (hgd : o.guard = none) (x : Operand) (ho : o.op = .build 35 #[(1, x)]) (O : Nat → Int) (hx : a.eval x = .agg (oc O))
    (h : wpList Try.prog ops Q rest (a.put o.dst (.agg (pc none 0 0 O))) w) : wpList Try.prog ops Q (o :: rest) a w := by
  refine wpList_plain hgd fun K hK => ?_
  unfold Oper.wp
  have hm : (#[(1, x)] : Array (Nat × Operand)).map (fun (i, y) => (i, a.eval y)) = #[(1, .agg (oc O))] := by simp [hx]
  have e : (execOp a.eval o).run Try.prog w = .ok (.value (.agg (pc none 0 0 O))) w := by
    simp only [execOp, ho, hm, Sem.run_bind, build_prog_run, Result.andThen_ok]
    rfl
  rw [e]
  exact hK _ _ h
set_option maxRecDepth 100000 in
set_option maxHeartbeats 4000000 in
theorem implTurnProgramme_any (s : Int) (a : Option Addr) (n c : Nat) (P R : Nat → Int) (b : Option Addr) (m d : Nat) (F T O : Nat → Int) (x : Int) (w : World) (hs : -32768 ≤ s ∧ s ≤ 32767) (hn : n ≤ 1048576) (hP : I8 P) (hR : I8 R) (hh : HamAt w a n P R) (hm : m ≤ 1048576) (hF : I16 F) (hT : I16 T) (hO : I8 O) (hl : SecAt w b m F T) (hx : -9223372036854775808 ≤ x ∧ x ≤ 9223372036854775807) :
    Calls Try.prog 9 #[.agg #[.int .i16 s, .slice a n c], .agg (pc b m d O), .int .i64 x] w fun e w' => ∃ v u, e = .returned (.tuple #[.agg (pc v (tpL s n P R m F T O x).length u (tpO s n P R m F T O x)), .int .i64 (tpC s n P R m F T O x)]) ∧ Below w.heap.size w w' ∧ OwnS w' w.heap.size (.slice v (tpL s n P R m F T O x).length u) (tpL s n P R m F T O x) := by
  have HP := Lib.hid hP; have HR := Lib.hid hR; have HF := Lib.hid hF; have HT := Lib.hid hT; have HO := Lib.hid hO
  clear hP hR hF hT hO
  have KB := Kp.base w
  have KH := kp_ham hh; have KL := kp_sec hl; clear hh hl
  replace KB := KB.alloc (.cells #[.int .i16 s, .slice a n c] 40)
  replace KH := KH.alloc (.cells #[.int .i16 s, .slice a n c] 40)
  replace KL := KL.alloc (.cells #[.int .i16 s, .slice a n c] 40)
  have KF := kp_new1 w #[.int .i16 s, .slice a n c] 40 (g := w.heap.size) (by simp)
  replace KB := KB.alloc (.cells (pc b m d O) 35)
  replace KH := KH.alloc (.cells (pc b m d O) 35)
  replace KL := KL.alloc (.cells (pc b m d O) 35)
  replace KF := KF.alloc (.cells (pc b m d O) 35)
  have KP := kp_new1 (w.alloc (.cells #[.int .i16 s, .slice a n c] 40)) (pc b m d O) 35 (g := w.heap.size + 1) (by simp)
  replace KB := KB.alloc (.cells (pc none 0 0 fun _ => 0) 35)
  replace KH := KH.alloc (.cells (pc none 0 0 fun _ => 0) 35)
  replace KL := KL.alloc (.cells (pc none 0 0 fun _ => 0) 35)
  replace KF := KF.alloc (.cells (pc none 0 0 fun _ => 0) 35)
  replace KP := KP.alloc (.cells (pc none 0 0 fun _ => 0) 35)
  have K6 := kp_new1 ((w.alloc (.cells #[.int .i16 s, .slice a n c] 40)).alloc (.cells (pc b m d O) 35)) (pc none 0 0 fun _ => 0) 35 (g := w.heap.size + 1 + 1) (by simp)
  have HZ := Lib.hid (show (((w.alloc (.cells #[.int .i16 s, .slice a n c] 40)).alloc (.cells (pc b m d O) 35)).alloc (.cells (pc none 0 0 fun _ => 0) 35)).heap.size = w.heap.size + 1 + 1 + 1 by simp)
  go_enter Try.func9, Try.ntmps9
  go_wp2_with (first | (with_reducible refine alloc_iprog ?_ ?_ ?_; with_reducible rfl; with_reducible rfl) | (with_reducible refine load_iframe rfl _ rfl w.heap.size rfl _ s a n c KF.here ?_) | (with_reducible refine load_iprog rfl _ rfl (w.heap.size + 1) rfl _ b m d O KP.here ?_) | fail)
  generalize (((w.alloc (.cells #[.int .i16 s, .slice a n c] 40)).alloc (.cells (pc b m d O) 35)).alloc (.cells (pc none 0 0 fun _ => 0) 35)) = W at KB KH KL KF KP K6 HZ ⊢
  clear HZ
  refine (programmeCode_any s a n c P R b m d F T O none 0 0 (fun _ => 0) none 0 0 (fun _ => 0) W hs hn HP.out HR.out KH.here hm HF.out HT.out HO.out KL.here (by omega) (IntAt.nil _ _) (by omega) (IntAt.nil _ _)).mono ?_
  rw [allIn_zero, allIn_zero, Bool.and_self]
  rintro e w1 ⟨rfl, hb1⟩
  replace KB := KB.on hb1
  replace KH := KH.on hb1
  replace KL := KL.on hb1
  replace KF := KF.on hb1
  replace KP := KP.on hb1
  replace K6 := K6.on hb1
  clear hb1
  cases hv : vProg s n P R m F T O
  · rw [pcode_f]
    have HX := Lib.hid (tp_bad s n P R m F T O x hv)
    clear hv
    go_wp2_with (first | (refine store_prog0 rfl _ _ rfl (w.heap.size + 1 + 1) rfl (by rfl) _ none 0 0 (fun _ => 0) K6.here ?_) | fail)
    exact bodyPost_ret (results_prog2 rfl _ _ (w.heap.size + 1 + 1) _ none 0 0 (fun _ => 0) (.int .i64 1) rfl (setRow_heap _ _ _ _ _ _ K6.here) rfl) rfl ⟨none, 0, by rw [HX.out.1, HX.out.2.1, HX.out.2.2]; rfl, below_setRow KB.here (by omega) _, by rw [HX.out.1]; exact OwnL.none0 _ _⟩
  · rw [pcode_tt]
    obtain ⟨hs2, hm12, hsec, hord⟩ := vProg_facts hv
    have HSEC := Lib.hid hsec; have HORD := Lib.hid hord
    have HV := Lib.hid hv
    have HVS := Lib.hid (vProg_secs hv)
    clear hv hsec hord
    have d0 := row_cell 0 KF.here
    have q1 := i64_id (x := s) (by omega)
    have q2 := i64_id (x := s - 1) (by omega)
    cases hin : inB x 0 (s - 1)
    · have HX := Lib.hid (tp_range s n P R m F T O x HV.out hin)
      go_wp2_with (first | (go_at_call 23; refine (within_any _ _ _ _).mono ?_; rw [hin]; rintro e w2 ⟨rfl, rfl⟩) | (refine store_prog0 rfl _ _ rfl (w.heap.size + 1 + 1) rfl (by rfl) _ none 0 0 (fun _ => 0) K6.here ?_) | fail)
      exact bodyPost_ret (results_prog2 rfl _ _ (w.heap.size + 1 + 1) _ none 0 0 (fun _ => 0) (.int .i64 2) rfl (setRow_heap _ _ _ _ _ _ K6.here) rfl) rfl ⟨none, 0, by rw [HX.out.1, HX.out.2.1, HX.out.2.2]; rfl, below_setRow KB.here (by omega) _, by rw [HX.out.1]; exact OwnL.none0 _ _⟩
    · have hxb := inB_iff.1 hin
      have HIN := Lib.hid hin
      have p0 := row_cell 0 KP.here
      rw [pc_get0] at p0
      obtain ⟨U, rfl⟩ : ∃ U, U = w1 := ⟨w1, rfl⟩
      go_wp2_with (first | (go_at_call 23; refine (within_any _ _ _ _).mono ?_; rw [hin]; rintro e w2 ⟨rfl, rfl⟩) | (with_reducible refine load_ord_mid rfl _ rfl (w.heap.size + 1) rfl _ b m d O KP.here ?_) | (with_reducible refine build_prog rfl _ rfl O rfl ?_) | (refine copy_prog rfl rfl rfl _ _ rfl none 0 0 O rfl rfl ?_; intro W2 hbn hsn hrn; have htp0 : TPS U none 0 0 O ((mvL s x m F T).take 0) W2 := ⟨hbn, hrn, OwnL.none0 _ _⟩; have HTP0 := Lib.hid htp0; have p2 := row_cell 0 (KP.at hbn); rw [pc_get0] at p2; clear htp0 hbn hsn hrn) | fail)
      clear hin p0 p2 d0
      have KBU := KB; have KPU := KP; have K6U := K6; have KFU := KF
      have HGP := Lib.hid (row_lt KP.here)
      have HK6L := Lib.hid (row_lt K6.here)
      go_loopw [36] (fun i w' => ∃ k : Nat, k ≤ m ∧ i = .int .i64 k ∧ ∃ b' c', TPS U b' k c' O ((mvL s x m F T).take k) w') (fun i _ => m - (intOf i).toNat)
      case atStart => exact ⟨0, by omega, rfl, none, 0, HTP0.out⟩
      case round =>
        clear HTP0
        obtain ⟨k, hk, rfl, b', c', htp⟩ := hrel
        have hkU := htp.k
        replace KB := KB.on hkU
        replace KH := KH.on hkU
        replace KL := KL.on hkU
        replace KF := KF.on hkU
        replace KP := KP.on hkU
        replace K6 := K6.on hkU
        clear hkU
        have hob : ∀ x, (Value.slice b' k c').ownBlock = some x → x < wr.heap.size := fun x hx => (OwnS.lt htp.o x hx).2
        have hUw := htp.lt
        have KT := htp.kp; clear htp
        by_cases hlt : k < m
        · have hx := SecAt.get KL.here (show 0 < m by omega)
          obtain ⟨g, off, rfl, hg, hc⟩ := hx
          have c0 := (hc k hlt).1
          have c1 := (hc k hlt).2
          clear hc
          have hfr := HSEC.out k hlt
          have hk' : (k : Int) < m := by omega
          have htk := mv_take s x m F T hlt
          go_wp2
          replace KB := KB.alloc (.cells #[.int .i16 (F k), .int .i16 (T k)] 55)
          replace KH := KH.alloc (.cells #[.int .i16 (F k), .int .i16 (T k)] 55)
          replace KL := KL.alloc (.cells #[.int .i16 (F k), .int .i16 (T k)] 55)
          replace KF := KF.alloc (.cells #[.int .i16 (F k), .int .i16 (T k)] 55)
          replace KP := KP.alloc (.cells #[.int .i16 (F k), .int .i16 (T k)] 55)
          replace K6 := K6.alloc (.cells #[.int .i16 (F k), .int .i16 (T k)] 55)
          replace KT := KT.alloc (.cells #[.int .i16 (F k), .int .i16 (T k)] 55)
          have KS := kp_new wr #[.int .i16 (F k), .int .i16 (T k)] 55
          obtain ⟨gs, hgs⟩ : ∃ gs, wr.heap.size = gs := ⟨_, rfl⟩
          rw [hgs] at KS hob hUw ⊢
          have HOB := Lib.hid hob
          clear hgs c0 c1 hob
          generalize wr.alloc (.cells #[.int .i16 (F k), .int .i16 (T k)] 55) = V1 at KS KB KH KL KF KP K6 KT ⊢
          have q5 := i64_id (x := F k) (by omega)
          have q6 := i64_id (x := F k + x) (by omega)
          have hmv := mvF_tmod s x F (i := k) (by omega)
          have hmb := mvF_in s x F (i := k) (by omega)
          obtain ⟨y, hy⟩ : ∃ y, mvF s x F k = y := ⟨_, rfl⟩
          rw [hy] at hmv hmb htk
          clear hy
          have q7 := i16_idU (x := y) (by omega)
          have hs0 : ¬ s = 0 := by omega
          have HT1 := Lib.hid KT.here
          have hS0 : (fun V : World => Below U.heap.size V1 V ∧ V.heap[gs]? = some (.cells #[.int .i16 (F k), .int .i16 (T k)] 55 (0, 0)) ∧ V.cell? ⟨w.heap.size, 0, none⟩ = some (.int .i16 s)) V1.drew := ⟨(Below.refl _ _).drew, KS.here, row_cell 0 (KF.at (below_drew V1))⟩
          refine wp_region_S (fun V : World => Below U.heap.size V1 V ∧ V.heap[gs]? = some (.cells #[.int .i16 (F k), .int .i16 (T k)] 55 (0, 0)) ∧ V.cell? ⟨w.heap.size, 0, none⟩ = some (.int .i16 s)) (by kernel_rfl) hS0 ?_
          refine take_val 0 (.pointer (some ⟨U.heap.size, 0, none⟩)) rfl (by kernel_rfl) (by kernel_rfl) (by kernel_rfl) (fun _ _ _ h => h) rfl (fun V hV => by simp [go_sem]) hS0 ?_
          simp only [List.getElem_toArray, List.getElem_cons_zero, List.getElem_cons_succ, Act.put, List.setIfInBounds_toArray, List.set_cons_zero, List.set_cons_succ]
          refine take_val 2 (.pointer (some ⟨gs, 0, none⟩)) rfl (by kernel_rfl) (by kernel_rfl) (by kernel_rfl) (fun _ _ _ h => h) rfl (fun V hV => by simp [go_sem]) hS0 ?_
          simp only [List.getElem_toArray, List.getElem_cons_zero, List.getElem_cons_succ, Act.put, List.setIfInBounds_toArray, List.set_cons_zero, List.set_cons_succ]
          refine take_val 3 (.int .i16 (F k)) rfl (by kernel_rfl) (by kernel_rfl) (by kernel_rfl) (fun _ _ _ h => h) rfl (fun V hV => by have d0 := row_cell 0 hV.2.1; simp [go_sem, d0]) hS0 ?_
          simp only [List.getElem_toArray, List.getElem_cons_zero, List.getElem_cons_succ, Act.put, List.setIfInBounds_toArray, List.set_cons_zero, List.set_cons_succ]
          refine take_val 4 (.int .i64 (F k)) rfl (by kernel_rfl) (by kernel_rfl) (by kernel_rfl) (fun _ _ _ h => h) rfl (fun V hV => by simp [go_sem, q5]) hS0 ?_
          simp only [List.getElem_toArray, List.getElem_cons_zero, List.getElem_cons_succ, Act.put, List.setIfInBounds_toArray, List.set_cons_zero, List.set_cons_succ]
          refine take_val 5 (.int .i64 x) rfl (by kernel_rfl) (by kernel_rfl) (by kernel_rfl) (fun _ _ _ h => h) rfl (fun V hV => by simp [go_sem]) hS0 ?_
          simp only [List.getElem_toArray, List.getElem_cons_zero, List.getElem_cons_succ, Act.put, List.setIfInBounds_toArray, List.set_cons_zero, List.set_cons_succ]
          refine take_val 6 (.int .i64 (F k + x)) rfl (by kernel_rfl) (by kernel_rfl) (by kernel_rfl) (fun _ _ _ h => h) rfl (fun V hV => by simp [go_sem, q6]) hS0 ?_
          simp only [List.getElem_toArray, List.getElem_cons_zero, List.getElem_cons_succ, Act.put, List.setIfInBounds_toArray, List.set_cons_zero, List.set_cons_succ]
          refine take_val 7 (.pointer (some ⟨w.heap.size, 0, none⟩)) rfl (by kernel_rfl) (by kernel_rfl) (by kernel_rfl) (fun _ _ _ h => h) rfl (fun V hV => by simp [go_sem]) hS0 ?_
          simp only [List.getElem_toArray, List.getElem_cons_zero, List.getElem_cons_succ, Act.put, List.setIfInBounds_toArray, List.set_cons_zero, List.set_cons_succ]
          refine take_val 8 (.int .i16 s) rfl (by kernel_rfl) (by kernel_rfl) (by kernel_rfl) (fun _ _ _ h => h) rfl (fun V hV => by have d0 := hV.2.2; simp [go_sem, d0]) hS0 ?_
          simp only [List.getElem_toArray, List.getElem_cons_zero, List.getElem_cons_succ, Act.put, List.setIfInBounds_toArray, List.set_cons_zero, List.set_cons_succ]
          refine take_val 9 (.int .i64 s) rfl (by kernel_rfl) (by kernel_rfl) (by kernel_rfl) (fun _ _ _ h => h) rfl (fun V hV => by simp [go_sem, q1]) hS0 ?_
          simp only [List.getElem_toArray, List.getElem_cons_zero, List.getElem_cons_succ, Act.put, List.setIfInBounds_toArray, List.set_cons_zero, List.set_cons_succ]
          refine take_val 10 (.int .i64 y) rfl (by kernel_rfl) (by kernel_rfl) (by kernel_rfl) (fun _ _ _ h => h) rfl (fun V hV => by simp [go_sem, hmv, hs0]) hS0 ?_
          simp only [List.getElem_toArray, List.getElem_cons_zero, List.getElem_cons_succ, Act.put, List.setIfInBounds_toArray, List.set_cons_zero, List.set_cons_succ]
          refine take_val 11 (.int .i16 y) rfl (by kernel_rfl) (by kernel_rfl) (by kernel_rfl) (fun _ _ _ h => h) rfl (fun V hV => by simp [go_sem, q7]) hS0 ?_
          simp only [List.getElem_toArray, List.getElem_cons_zero, List.getElem_cons_succ, Act.put, List.setIfInBounds_toArray, List.set_cons_zero, List.set_cons_succ]
          refine take_val 12 (.pointer (some ⟨gs, 1, none⟩)) rfl (by kernel_rfl) (by kernel_rfl) (by kernel_rfl) (fun _ _ _ h => h) rfl (fun V hV => by simp [go_sem]) hS0 ?_
          simp only [List.getElem_toArray, List.getElem_cons_zero, List.getElem_cons_succ, Act.put, List.setIfInBounds_toArray, List.set_cons_zero, List.set_cons_succ]
          refine take_val 13 (.int .i16 (T k)) rfl (by kernel_rfl) (by kernel_rfl) (by kernel_rfl) (fun _ _ _ h => h) rfl (fun V hV => by have d0 := row_cell 1 hV.2.1; simp [go_sem, d0]) hS0 ?_
          simp only [List.getElem_toArray, List.getElem_cons_zero, List.getElem_cons_succ, Act.put, List.setIfInBounds_toArray, List.set_cons_zero, List.set_cons_succ]
          refine take_val 14 (.agg #[.int .i16 y, .int .i16 (T k)]) rfl (by kernel_rfl) (by kernel_rfl) (by kernel_rfl) (fun _ _ _ h => h) rfl (fun V hV => by simp [go_sem]) hS0 ?_
          simp only [List.getElem_toArray, List.getElem_cons_zero, List.getElem_cons_succ, Act.put, List.setIfInBounds_toArray, List.set_cons_zero, List.set_cons_succ]
          have htd := HT1.out.stay (below_drew V1)
          have g0 := htd.cell0
          have hta := htd.stay ((Below.refl _ _).alloc (Nat.le_refl _) (.cells #[.int .i16 y, .int .i16 (T k)] 55))
          have g1 : (V1.alloc (.cells #[.int .i16 y, .int .i16 (T k)] 55)).cell? ⟨U.heap.size, 0, none⟩ = some (.slice b' k c') := hta.cell0
          have hgf : w.heap.size < U.heap.size := by have := HK6L.out; omega
          have hS1 : (fun V : World => Below U.heap.size V1 V ∧ V.heap[gs]? = some (.cells #[.int .i16 (F k), .int .i16 (T k)] 55 (0, 0)) ∧ V.cell? ⟨w.heap.size, 0, none⟩ = some (.int .i16 s)) (V1.drew.alloc (.cells #[.int .i16 y, .int .i16 (T k)] 55)) := ⟨hS0.1.alloc (Nat.le_of_lt htd.lt) _, (heap_alloc_old V1.drew _ (row_lt KS.here)).trans KS.here, ((hS0.1.alloc (Nat.le_of_lt htd.lt) _).cell (p := ⟨w.heap.size, 0, none⟩) hgf).trans (row_cell 0 KF.here)⟩
          refine step_pair 1 15 (.slice b' k c') (.slice (some ⟨V1.drew.heap.size, 0, none⟩) 1 1) (V1.drew.alloc (.cells #[.int .i16 y, .int .i16 (T k)] 55)) (by kernel_rfl) (by kernel_rfl) (by kernel_rfl) rfl rfl rfl rfl rfl rfl (by simp [go_sem, g0]) (ex_build_sec _ rfl _ _ rfl) (by simp [go_sem, g1]) (ex_build_sec _ rfl _ _ rfl) hS0 hS1 (by kernel_rfl) rfl ?_
          simp only [List.getElem_toArray, List.getElem_cons_zero, List.getElem_cons_succ, Act.put, List.setIfInBounds_toArray, List.set_cons_zero, List.set_cons_succ]
          have HTA := Lib.hid hta.o
          have hlk := mv_take_len s x m F T (k := k) (by omega)
          have hgl : U.heap.size + 1 ≤ (V1.drew.alloc (.cells #[.int .i16 y, .int .i16 (T k)] 55)).heap.size := Nat.succ_le_of_lt hta.lt
          refine step_append_Lg Try.underlying33 infoS2 rfl (by decide) (by decide) encS_len encS_one 16 (by kernel_rfl) rfl rfl _ _ rfl (U.heap.size + 1) _ _ rfl HTA.out ⟨V1.drew.heap.size, 0, none⟩ 1 1 [(y, T k)] rfl rfl (one_cells (enc := encS) (heap_alloc_new V1.drew _)) (by rw [hlk]; omega) hgl ?_
          intro v2 w2 hown2 hg2 hb2
          have hgs2 : w2.heap[gs]? = some (.cells #[.int .i16 (F k), .int .i16 (T k)] 55 (0, 0)) := by
            refine (hg2.block gs (row_lt hS1.2.1) fun e => ?_).trans hS1.2.1
            exact absurd (HOB.out gs e.symm) (Nat.lt_irrefl _)
          have hS2 : (fun V : World => Below U.heap.size V1 V ∧ V.heap[gs]? = some (.cells #[.int .i16 (F k), .int .i16 (T k)] 55 (0, 0)) ∧ V.cell? ⟨w.heap.size, 0, none⟩ = some (.int .i16 s)) w2 := ⟨hS1.1.trans (hb2.mono (by omega)), hgs2, (hb2.cell (p := ⟨w.heap.size, 0, none⟩) (Nat.lt_succ_of_lt hgf)).trans hS1.2.2⟩
          refine ⟨hS2, ?_⟩
          simp only [List.getElem_toArray, List.getElem_cons_zero, List.getElem_cons_succ, Act.put, List.setIfInBounds_toArray, List.set_cons_zero, List.set_cons_succ]
          refine take_val 17 (.pointer (some ⟨U.heap.size, 0, none⟩)) rfl (by kernel_rfl) (by kernel_rfl) (by kernel_rfl) (fun _ _ _ h => h) rfl (fun V hV => by simp [go_sem]) hS2 ?_
          simp only [List.getElem_toArray, List.getElem_cons_zero, List.getElem_cons_succ, Act.put, List.setIfInBounds_toArray, List.set_cons_zero, List.set_cons_succ]
          obtain ⟨b2, c2, hv2⟩ := OwnL.form hown2
          subst hv2
          have hl2 : ((mvL s x m F T).take k ++ [(y, T k)]).length = k + 1 := by rw [List.length_append, hlk]; rfl
          rw [hl2] at hown2 ⊢
          have hps := hta.push hb2 hown2
          have hrw2 := (hb2.block U.heap.size (by omega)).trans hta.r
          have f2 := frozen_of_row w2 U.heap.size 0 _ _ hrw2
          have e2 := row_cell 0 hrw2
          rw [pc_get0] at e2
          have hb3 := (Below.refl U.heap.size w2).setCell (p := ⟨U.heap.size, 0, none⟩) (Nat.le_refl _) (.slice b2 (k + 1) c2)
          have hS3 : (fun V : World => Below U.heap.size V1 V ∧ V.heap[gs]? = some (.cells #[.int .i16 (F k), .int .i16 (T k)] 55 (0, 0)) ∧ V.cell? ⟨w.heap.size, 0, none⟩ = some (.int .i16 s)) (w2.setCell ⟨U.heap.size, 0, none⟩ (.slice b2 (k + 1) c2)) := ⟨hS2.1.setCell (Nat.le_refl _) _, (heap_setCell_other w2 _ gs _ (show gs ≠ U.heap.size by omega)).trans hS2.2.1, (hb3.cell (p := ⟨w.heap.size, 0, none⟩) hgf).trans hS2.2.2⟩
          refine step_skip 18 (w2.setCell ⟨U.heap.size, 0, none⟩ (.slice b2 (k + 1) c2)) (by kernel_rfl) rfl rfl (by simp [go_sem, e2, f2]) hS3 ?_
          simp only [List.getElem_toArray, List.getElem_cons_zero, List.getElem_cons_succ, Act.put, List.setIfInBounds_toArray, List.set_cons_zero, List.set_cons_succ]
          refine wpAnyH_done (by kernel_rfl) ?_ _
          have HPS := Lib.hid hps
          clear hps hrw2 f2 e2 hS3 hS2 hS1 hS0 hta htd g0 g1 hown2 hg2 hb2 hgs2 HTA HT1 hb3
          generalize w2.setCell ⟨U.heap.size, 0, none⟩ (.slice b2 (k + 1) c2) = W9 at HPS ⊢
          rw [← htk] at HPS
          have q8 := i64_id (x := (k : Int) + 1) (by omega)
          go_wp2
          go_roundw
          case rel => exact ⟨k + 1, by omega, by go_num, b2, c2, HPS.out⟩
          case measure => simp [intOf]; omega
        · have hkm : m = k := by omega
          subst hkm
          have hV0U := hUw
          have HT1 := Lib.hid KT.here
          rw [mv_take_all s x m F T] at HT1
          have htc := HT1.out.cell0
          go_wp2_with fail
          refine (cloneSec_any (.slice b' m c') (mvL s x m F T) (U.heap.size + 1) wr (by rw [mvL_len]; omega) HT1.out.o).mono ?_
          rintro e w3 ⟨u, rfl, hb3, hu⟩
          obtain ⟨bu, cu, rfl⟩ := OwnL.form hu
          rw [mvL_len] at hu ⊢
          have htp3 := HT1.out.stay hb3
          have hc3 := htp3.cell0
          have HU := Lib.hid hu; have HT3 := Lib.hid htp3
          have HOB := Lib.hid hob
          clear hu htp3 htc HT1 KT hob hlt
          go_wp2_with fail
          refine (sortMv_any (U.heap.size + 1) wr.heap.size b' c' w3 hs2 (by omega) hm12 HVS.out HT3.out.o HOB.out).mono ?_
          rintro e w4 ⟨rfl, ho4, row, hg4, hrow⟩
          have htp4 : TPS U b' m c' O (rotL s x m F T) w4 :=
            ⟨HT3.out.k.trans ⟨hg4.os, hg4.tape, hg4.output, hg4.size, fun k hk => hg4.block k (Nat.lt_of_lt_of_le hk HT3.out.k.size) fun e => by have := (hrow k e.symm).1; omega⟩, (hg4.block U.heap.size HT3.out.lt fun e => by have := (hrow _ e.symm).1; omega).trans HT3.out.r, ho4⟩
          have hu4 : OwnS w4 wr.heap.size (.slice bu m cu) (mvL s x m F T) := own_grown HU.out hg4 fun k hk => (hrow k hk).2
          have HU4 := Lib.hid hu4; have HT4 := Lib.hid htp4
          have kpu := KPU.at htp4.k
          clear hu4 htp4 HU HT3 ho4 hrow hg4 hc3
          go_wp2_with (first | (with_reducible refine load_ord_mid rfl _ rfl (w.heap.size + 1) rfl _ b m d O kpu ?_) | fail)
          obtain ⟨V0, rfl⟩ : ∃ V0, V0 = wr := ⟨wr, rfl⟩
          go_loopw [67] (fun i w' => ∃ k : Nat, k ≤ 48 ∧ i = .int .i64 k ∧ TPS U b' m c' (mixI (tuO s x m F O) O k) (rotL s x m F T) w' ∧ OwnS w' V0.heap.size (.slice bu m cu) (mvL s x m F T)) (fun i _ => 48 - (intOf i).toNat)
          case atStart => exact ⟨0, by omega, rfl, by rw [mixI_zero]; exact HT4.out, HU4.out⟩
          case round =>
            clear HT4 HU4
            obtain ⟨k, hk, rfl, htp, hu⟩ := hrel
            have hkU := htp.k
            replace KBU := KBU.on hkU
            replace KPU := KPU.on hkU
            replace K6U := K6U.on hkU
            replace KFU := KFU.on hkU
            clear hkU
            by_cases hlt : k < 48
            · have hk' : (k : Int) < 48 := by omega
              have hix := index_ord O k hlt
              have ho := HORD.out k hlt
              have hmx := mixI_upd (tuO s x m F O) O k
              have q3 := i64_id (x := (k : Int) + 1) (by omega)
              by_cases h0 : 0 ≤ O k
              · obtain ⟨j, hj⟩ : ∃ j : Nat, O k = j := ⟨(O k).toNat, by omega⟩
                have hjm : j < m := by omega
                have hjm' : (j : Int) < m := by omega
                have hz := tuO_yes s x m F (O := O) h0
                obtain ⟨p, hp, hpe, hpg⟩ := rot_place (s := s) (x := x) (F := F) (T := T) hjm
                rw [hj, ← hpe] at hz
                rw [hz] at hmx
                rw [hj] at hix
                have hsu := OwnS.readAt hu
                rw [mvL_len] at hsu
                obtain ⟨gu, ou, hbu, hgu, hcu⟩ := SecAt.get hsu (by omega)
                subst hbu
                obtain ⟨hc0, hc1⟩ := hcu j hjm
                have hgt := mvL_get s x m F T hjm
                simp only [hgt] at hc0 hc1
                have hguN : V0.heap.size ≤ gu := (OwnS.lt hu gu (by first | rfl | simp [Value.ownBlock])).1
                have hpb : -128 ≤ (p : Int) ∧ (p : Int) ≤ 127 := by omega
                have q4 := i8_idU hpb
                have HTP := Lib.hid htp; have HUU := Lib.hid hu
                have hUlt := htp.lt
                have HV0U := Lib.hid hV0U
                have HC0 := Lib.hid hc0; have HC1 := Lib.hid hc1
                have hsr := OwnS.readAt htp.o
                rw [rotL_len] at hsr
                have HSR := Lib.hid hsr
                clear hsr htp hu hcu hsu hz hj h0
                have h0' : (0 : Int) ≤ (j : Int) := by omega
                go_wp2
                have hS0 : (fun V : World => Below U.heap.size wr V ∧ V.cell? ⟨U.heap.size, 0, none⟩ = some (.slice b' m c') ∧ V.cell? ⟨gu, ou + j * 2, none⟩ = some (.int .i16 (mvF s x F j)) ∧ V.cell? ⟨gu, ou + j * 2 + 1, none⟩ = some (.int .i16 (T j))) wr.drew := ⟨(Below.refl _ _).drew, HTP.out.cell0, HC0.out, HC1.out⟩
                refine wp_region_S (fun V : World => Below U.heap.size wr V ∧ V.cell? ⟨U.heap.size, 0, none⟩ = some (.slice b' m c') ∧ V.cell? ⟨gu, ou + j * 2, none⟩ = some (.int .i16 (mvF s x F j)) ∧ V.cell? ⟨gu, ou + j * 2 + 1, none⟩ = some (.int .i16 (T j))) (by kernel_rfl) hS0 ?_
                refine take_val 0 (.int .i64 (k : Int)) rfl (by kernel_rfl) (by kernel_rfl) (by kernel_rfl) (fun _ _ _ h => h) rfl (fun V hV => by simp [go_sem]) hS0 ?_
                simp only [List.getElem_toArray, List.getElem_cons_zero, List.getElem_cons_succ, Act.put, List.setIfInBounds_toArray, List.set_cons_zero, List.set_cons_succ]
                refine take_val 1 (.pointer (some ⟨U.heap.size, 0, none⟩)) rfl (by kernel_rfl) (by kernel_rfl) (by kernel_rfl) (fun _ _ _ h => h) rfl (fun V hV => by simp [go_sem]) hS0 ?_
                simp only [List.getElem_toArray, List.getElem_cons_zero, List.getElem_cons_succ, Act.put, List.setIfInBounds_toArray, List.set_cons_zero, List.set_cons_succ]
                refine take_val 2 (.slice b' m c') rfl (by kernel_rfl) (by kernel_rfl) (by kernel_rfl) (fun _ _ _ h => h) rfl (fun V hV => by have d0 := hV.2.1; simp [go_sem, d0]) hS0 ?_
                simp only [List.getElem_toArray, List.getElem_cons_zero, List.getElem_cons_succ, Act.put, List.setIfInBounds_toArray, List.set_cons_zero, List.set_cons_succ]
                refine take_val 3 (.slice (some ⟨gu, ou, none⟩) m cu) rfl (by kernel_rfl) (by kernel_rfl) (by kernel_rfl) (fun _ _ _ h => h) rfl (fun V hV => by simp [go_sem]) hS0 ?_
                simp only [List.getElem_toArray, List.getElem_cons_zero, List.getElem_cons_succ, Act.put, List.setIfInBounds_toArray, List.set_cons_zero, List.set_cons_succ]
                refine take_val 4 (.int .i8 (j : Int)) rfl (by kernel_rfl) (by kernel_rfl) (by kernel_rfl) (fun _ _ _ h => h) rfl (fun V hV => by simp [go_sem]) hS0 ?_
                simp only [List.getElem_toArray, List.getElem_cons_zero, List.getElem_cons_succ, Act.put, List.setIfInBounds_toArray, List.set_cons_zero, List.set_cons_succ]
                refine take_val 5 (.pointer (some ⟨gu, ou + j * 2, none⟩)) rfl (by kernel_rfl) (by kernel_rfl) (by kernel_rfl) (fun _ _ _ h => h) rfl (fun V hV => by simp [go_sem, hjm, hjm']) hS0 ?_
                simp only [List.getElem_toArray, List.getElem_cons_zero, List.getElem_cons_succ, Act.put, List.setIfInBounds_toArray, List.set_cons_zero, List.set_cons_succ]
                refine take_val 6 (.agg #[.int .i16 (mvF s x F j), .int .i16 (T j)]) rfl (by kernel_rfl) (by kernel_rfl) (by kernel_rfl) (fun _ _ _ h => h) rfl (fun V hV => by have d0 := hV.2.2.1; have d1 := hV.2.2.2; simp [go_sem, d0, d1]) hS0 ?_
                simp only [List.getElem_toArray, List.getElem_cons_zero, List.getElem_cons_succ, Act.put, List.setIfInBounds_toArray, List.set_cons_zero, List.set_cons_succ]
                refine take_val 9 (.pointer (some ⟨U.heap.size, 1, none⟩)) rfl (by kernel_rfl) (by kernel_rfl) (by kernel_rfl) (fun _ _ _ h => h) rfl (fun V hV => by simp [go_sem]) hS0 ?_
                simp only [List.getElem_toArray, List.getElem_cons_zero, List.getElem_cons_succ, Act.put, List.setIfInBounds_toArray, List.set_cons_zero, List.set_cons_succ]
                refine step_call 7 27 #[.slice b' m c', .agg #[.int .i16 (mvF s x F j), .int .i16 (T j)]] (by kernel_rfl) rfl rfl (by simp [go_sem]) ?_
                refine (indexSec_any b' m c' (fun i => ((rotL s x m F T).getD i (0, 0)).1) (fun i => ((rotL s x m F T).getD i (0, 0)).2) (mvF s x F j) (T j) wr.drew (by omega) HSR.out).mono ?_
                rintro e w5 ⟨⟨r, rfl, hir⟩, hb5⟩
                have hrp : r = (p : Int) := hir.at hp (by rw [hpg]) (by rw [hpg]) fun i j hi hj e => rot_inj HVS.out (by omega) hi hj e
                subst hrp
                clear hir
                have hb5' : Below wr.heap.size wr w5 := (below_drew wr).trans hb5
                have hS5 : (fun V : World => Below U.heap.size wr V ∧ V.cell? ⟨U.heap.size, 0, none⟩ = some (.slice b' m c') ∧ V.cell? ⟨gu, ou + j * 2, none⟩ = some (.int .i16 (mvF s x F j)) ∧ V.cell? ⟨gu, ou + j * 2 + 1, none⟩ = some (.int .i16 (T j))) w5 :=
                  ⟨hb5'.mono (Nat.le_of_lt hUlt), (HTP.out.stay hb5').cell0, (hb5'.cell (p := ⟨gu, ou + j * 2, none⟩) hgu).trans HC0.out, (hb5'.cell (p := ⟨gu, ou + j * 2 + 1, none⟩) hgu).trans HC1.out⟩
                refine ⟨_, rfl, hS5, ?_⟩
                simp only [List.getElem_toArray, List.getElem_cons_zero, List.getElem_cons_succ, Act.put, List.setIfInBounds_toArray, List.set_cons_zero, List.set_cons_succ]
                refine take_val 8 (.int .i8 (p : Int)) rfl (by kernel_rfl) (by kernel_rfl) (by kernel_rfl) (fun _ _ _ h => h) rfl (fun V hV => by simp [go_sem, q4]) hS5 ?_
                simp only [List.getElem_toArray, List.getElem_cons_zero, List.getElem_cons_succ, Act.put, List.setIfInBounds_toArray, List.set_cons_zero, List.set_cons_succ]
                refine take_val 10 (.pointer (some ⟨U.heap.size, 1 + k, none⟩)) rfl (by kernel_rfl) (by kernel_rfl) (by kernel_rfl) (fun _ _ _ h => h) rfl (fun V hV => by simp [go_sem, hlt, hk']) hS5 ?_
                simp only [List.getElem_toArray, List.getElem_cons_zero, List.getElem_cons_succ, Act.put, List.setIfInBounds_toArray, List.set_cons_zero, List.set_cons_succ]
                have ht5 := HTP.out.stay hb5'
                have e5 := ht5.cellO hlt
                have f5 := ht5.frozen (1 + k)
                have ht6 := ht5.set hlt (p : Int)
                have hne : gu ≠ U.heap.size := by have := HV0U.out; omega
                have hgr6 := grown_set (grown_refl w5 (some U.heap.size)) rfl (1 + k) (.int .i8 (p : Int))
                have hu6 := own_grown (OwnS.below HUU.out hb5') hgr6 fun k e => by cases e; exact HV0U.out
                have hS6 : (fun V : World => Below U.heap.size wr V ∧ V.cell? ⟨U.heap.size, 0, none⟩ = some (.slice b' m c') ∧ V.cell? ⟨gu, ou + j * 2, none⟩ = some (.int .i16 (mvF s x F j)) ∧ V.cell? ⟨gu, ou + j * 2 + 1, none⟩ = some (.int .i16 (T j))) (w5.setCell ⟨U.heap.size, 1 + k, none⟩ (.int .i8 (p : Int))) :=
                  ⟨hS5.1.setCell (Nat.le_refl _) _, ht6.cell0, (World.cell?_of_block (heap_setCell_other w5 _ gu _ hne)).trans hS5.2.2.1, (World.cell?_of_block (heap_setCell_other w5 _ gu _ hne)).trans hS5.2.2.2⟩
                refine step_skip 11 (w5.setCell ⟨U.heap.size, 1 + k, none⟩ (.int .i8 (p : Int))) (by kernel_rfl) rfl rfl (by simp [go_sem, e5, f5]) hS6 ?_
                simp only [List.getElem_toArray, List.getElem_cons_zero, List.getElem_cons_succ, Act.put, List.setIfInBounds_toArray, List.set_cons_zero, List.set_cons_succ]
                refine wpAnyH_done (by kernel_rfl) ?_ _
                rw [hmx] at ht6
                have HT6 := Lib.hid ht6; have HU6 := Lib.hid hu6
                clear ht6 hu6 hS6 hS5 hS0 e5 f5 ht5 hb5 hb5' hgr6 HTP HUU HC0 HC1 HSR hmx
                generalize w5.setCell ⟨U.heap.size, 1 + k, none⟩ (.int .i8 (p : Int)) = W9 at HT6 HU6 ⊢
                go_wp2
                go_roundw
                case rel => exact ⟨k + 1, by omega, by go_num, HT6.out, HU6.out⟩
                case measure => simp [intOf]; omega
              · have hz := tuO_no s x m F (O := O) h0
                have he : O k = -1 := by omega
                have h0' : ¬ (0 : Int) ≤ -1 := by decide
                rw [he] at hix
                have hM : mixI (tuO s x m F O) O k = mixI (tuO s x m F O) O (k + 1) := by
                  rw [← hmx, hz, ← he]; funext t; unfold updI; split
                  · rename_i e; subst e; exact mixI_at _ _ _
                  · rfl
                rw [hM] at htp
                have HTP := Lib.hid htp; have HUU := Lib.hid hu
                clear htp hu hmx hM hz he h0 ho
                go_wp2
                go_roundw
                case rel => exact ⟨k + 1, by omega, by go_num, HTP.out, HUU.out⟩
                case measure => simp [intOf]; omega
            · have hk48 : k = 48 := by omega
              subst hk48
              have hvs := rot_secs HVS.out (x := x) (by omega) hm12
              have HI := Lib.hid (rot_i16 (x := x) (m := m) (F := F) hs2 HT.out)
              have hsr := OwnS.readAt htp.o
              rw [rotL_len] at hsr
              have HTP := Lib.hid htp; have HSR := Lib.hid hsr
              have c9 := htp.cell0
              clear hlt hsr htp hu
              go_wp2_with (first | (with_reducible refine load_iframe rfl _ rfl w.heap.size rfl _ s a n c KFU.here ?_) | fail)
              refine (areSections_any s a n c b' m c' (fun i => ((rotL s x m F T).getD i (0, 0)).1) (fun i => ((rotL s x m F T).getD i (0, 0)).2) wr hs2 (by omega) HI.out.1 HI.out.2 HSR.out).mono ?_
              rw [hvs]
              rintro e w6 ⟨rfl, hb6⟩
              have HT6 := Lib.hid (HTP.out.stay hb6)
              replace KBU := KBU.on hb6
              replace K6U := K6U.on hb6
              clear hb6 c9
              cases hcb : crB s x m F T
              · have HX := Lib.hid (tp_ok s n P R m F T O x HV.out HIN.out hcb)
                clear hcb hvs
                have hpc : pc b' m c' (mixI (tuO s x m F O) O 48) = pc b' m c' (tuO s x m F O) := by unfold pc; rw [mixI_full]
                have HPC := Lib.hid hpc; clear hpc
                go_wp2_with (first | (with_reducible refine load_iprog rfl _ rfl U.heap.size rfl _ b' m c' (mixI (tuO s x m F O) O 48) HT6.out.r ?_) | (with_reducible refine store_iprog rfl _ _ rfl (w.heap.size + 1 + 1) b' m c' (mixI (tuO s x m F O) O 48) rfl rfl _ none 0 0 (fun _ => 0) K6U.here ?_) | fail)
                refine bodyPost_ret (results_prog2 rfl _ _ (w.heap.size + 1 + 1) _ b' m c' (mixI (tuO s x m F O) O 48) (.int .i64 0) rfl (setRow_heap _ _ _ _ _ _ K6U.here) rfl) rfl ⟨b', c', by rw [HPC.out, HX.out.1, HX.out.2.1, HX.out.2.2, rotL_len], below_setRow KBU.here (by omega) _, ?_⟩
                rw [HX.out.1, rotL_len]
                exact OwnS.mono (own_grown HT6.out.o (grown_setRowU w6 (w.heap.size + 1 + 1) (pc b' m c' (mixI (tuO s x m F O) O 48))) fun k e => by cases e; have := HK6L.out; omega) (by have := HK6L.out; omega)
              · have HX := Lib.hid (tp_cross s n P R m F T O x HV.out HIN.out hcb)
                clear hcb hvs
                go_wp2_with (first | (refine store_prog0 rfl _ _ rfl (w.heap.size + 1 + 1) rfl (by rfl) _ none 0 0 (fun _ => 0) K6U.here ?_) | fail)
                exact bodyPost_ret (results_prog2 rfl _ _ (w.heap.size + 1 + 1) _ none 0 0 (fun _ => 0) (.int .i64 4) rfl (setRow_heap _ _ _ _ _ _ K6U.here) rfl) rfl ⟨none, 0, by rw [HX.out.1, HX.out.2.1, HX.out.2.2]; rfl, below_setRow KBU.here (by omega) _, by rw [HX.out.1]; exact OwnL.none0 _ _⟩
end Go.Proofs.Ytfefclngfeihiaa
