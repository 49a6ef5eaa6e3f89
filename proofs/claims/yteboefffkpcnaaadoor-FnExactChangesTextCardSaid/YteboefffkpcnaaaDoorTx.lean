/- Numbers below 100 as texts. No conditions. -/
import Derived.Test.YteboefffkpcnaaaDoorBase
import Derived.Test.YteboefffkpcnaaaDoorSmall
import Derived.Test.YteboefffkpcnaaaDoorHeld2
import Derived.Lib.ItoaNum
import Derived.Lib.ItoaWalk
import Derived.Lib.Strings
import Derived.Laws.BytesArg
import Derived.Outline
namespace Go.Proofs.YteboefffkpcnaaaDoor
open Go.RowKit
set_option linter.unusedVariables false
set_option linter.unusedSimpArgs false

/-- the digits of a number -/
def dg (i : Nat) : ByteArray := ⟨(Lib.decDigits i).toArray⟩
theorem dg_def (i : Nat) : dg i = ⟨(Lib.decDigits i).toArray⟩ := rfl
theorem ba_of {x : ByteArray} {l : List UInt8} (h : x.data.toList = l) : x = ⟨l.toArray⟩ := by
  subst h
  cases x
  simp
theorem dg_low {i : Nat} (h : i < 10) : dg i = strOfNums [48 + (i : Int)] := by
  unfold dg strOfNums
  rw [Lib.decDigits, dif_pos h]
  have : ((48 : Int) + (i : Int)).toNat = 48 + i := by omega
  simp [this]
theorem dg_high {i : Nat} (h : ¬ i < 10) : dg i = dg (i / 10) ++ strOfNums [48 + ((i % 10 : Nat) : Int)] := by
  unfold dg strOfNums
  rw [Lib.decDigits, dif_neg h]
  have : ((48 : Int) + ((i % 10 : Nat) : Int)).toNat = 48 + i % 10 := by omega
  simp only [List.map_cons, List.map_nil, this]
  apply ByteArray.ext
  simp [ByteArray.data_append]
attribute [irreducible] dg
set_option maxHeartbeats 2000000 in
set_option maxRecDepth 100000 in
theorem small_any (i : Nat) (h : i < 100) (w : World) :
    Calls Tryd.prog 74 #[.int .i64 i] w fun e w' => e = .returned (.string (dg i)) ∧ w = w' := by
  go_enter Tryd.func74, Tryd.ntmps74
  go_name_bytes_deep 45 SM hSM
  have eSM : SM = Lib.smalls := by rw [← hSM]; decide +kernel
  subst eSM
  clear hSM
  go_name_bytes_deep 30 DG hDG
  have eDG : DG = Lib.digits36 := by rw [← hDG]; decide +kernel
  subst eDG
  clear hDG
  by_cases h10 : i < 10
  · have hsl : ∀ w, (Instr.slice 9 (.string Lib.digits36) (some (.int .i64 (i : Int))) (some (.int .i64 ((i : Int) + 1))) none).run Tryd.prog w = .ok (.string (Lib.digits36.extract i (i + 1))) w := fun w => by
      rw [run_slice_string w 9 Lib.digits36 .i64 .i64 _ _ Tryd.underlying9 (by omega) (by omega) (by rw [Lib.digits36_size]; omega), show ((i : Int)).toNat = i by omega, show ((i : Int) + 1).toNat = i + 1 by omega]
    go_wp2
    go_ret
    refine ⟨?_, rfl⟩
    show Ending.returned (Value.string (Lib.digits36.extract i (i + 1))) = _
    rw [dg_def, ba_of (x := Lib.digits36.extract i (i + 1)) (l := Lib.decDigits i) (by rw [Lib.extract_data]; exact Lib.digits36_piece h10)]
  · have hsl : ∀ w, (Instr.slice 9 (.string Lib.smalls) (some (.int .i64 ((i : Int) * 2))) (some (.int .i64 ((i : Int) * 2 + 2))) none).run Tryd.prog w = .ok (.string (Lib.smalls.extract (i * 2) (i * 2 + 2))) w := fun w => by
      rw [run_slice_string w 9 Lib.smalls .i64 .i64 _ _ Tryd.underlying9 (by omega) (by omega) (by rw [Lib.smalls_size]; omega), show ((i : Int) * 2).toNat = i * 2 by omega, show ((i : Int) * 2 + 2).toNat = i * 2 + 2 by omega]
    go_wp2
    go_ret
    refine ⟨?_, rfl⟩
    show Ending.returned (Value.string (Lib.smalls.extract (i * 2) (i * 2 + 2))) = _
    rw [dg_def, ba_of (x := Lib.smalls.extract (i * 2) (i * 2 + 2)) (l := Lib.decDigits i) (by rw [Lib.extract_data]; exact Lib.smalls_piece h10 h)]
theorem fmt_any (i : Nat) (h : i < 100) (w : World) :
    Calls Tryd.prog 65 #[.int .i64 i, .int .i64 10] w fun e w' => e = .returned (.string (dg i)) ∧ w = w' := by
  have h' : (i : Int) < 100 := by omega
  have q0 := i64_id (x := (i : Int)) (by omega)
  go_enter Tryd.func65, Tryd.ntmps65
  go_wp2_with (go_at_call 74; refine (small_any i h _).mono ?_; rintro e w' ⟨rfl, rfl⟩)
  go_ret
  exact ⟨rfl, rfl⟩
theorem fmtInt_any (i : Nat) (h : i < 100) (w : World) :
    Calls Tryd.prog 50 #[.int .i64 i, .int .i64 10] w fun e w' => e = .returned (.string (dg i)) ∧ w = w' := by
  go_enter Tryd.func50, Tryd.ntmps50
  go_wp2_with (go_at_call 65; refine (fmt_any i h _).mono ?_; rintro e w' ⟨rfl, rfl⟩)
  go_ret
  exact ⟨rfl, rfl⟩
theorem decimal_any (i : Nat) (h : i < 100) (w : World) :
    Calls Tryd.prog 28 #[.int .i64 i] w fun e w' => e = .returned (.string (dg i)) ∧ w = w' := by
  go_enter Tryd.func28, Tryd.ntmps28
  go_wp2_with (go_at_call 50; refine (fmtInt_any i h _).mono ?_; rintro e w' ⟨rfl, rfl⟩)
  go_ret
  exact ⟨rfl, rfl⟩
theorem conv_byte (w : World) (g : Nat) (x : Int) (h : w.cell? ⟨g, 0, none⟩ = some (.int .u8 x)) : (convert 79 9 (.slice (some ⟨g, 0, none⟩) 1 1)).run Tryd.prog w = .ok (.string (strOfNums [x])) w :=
  run_convert_bytes_arg w 79 5 Tryd.underlying79 Tryd.underlying5 g 0 1 1 [x] rfl (fun i hi => by
    have h0 : i = 0 := by omega
    subst h0
    simpa using h) 9 Tryd.underlying9
theorem u8_id {x : Int} (h : 0 ≤ x ∧ x ≤ 255) : IntKind.u8.wrap x = x := by rw [IntKind.wrap_u8]; omega
set_option maxHeartbeats 2000000 in
set_option maxRecDepth 100000 in
theorem specDec_low (i : Nat) (h : i < 10) (w : World) :
    Calls Tryd.prog 25 #[.int .i64 i] w fun e w' => e = .returned (.string (dg i)) ∧ Below w.heap.size w w' := by
  have h' : (i : Int) < 10 := by omega
  have hm : (i : Int) % 10 = i := by omega
  have hm2 : (i : Int).tmod 10 = i := by rw [show ((10 : Int)) = ((10 : Nat) : Int) from rfl, ← Int.ofNat_tmod, Nat.mod_eq_of_lt h]
  have q0 := i64_id (x := (48 : Int) + i) (by omega)
  have q1 := u8_id (x := (48 : Int) + i) (by omega)
  have hc := conv_byte (w.alloc (.cells #[.int .u8 (48 + (i : Int))] 5)) w.heap.size (48 + (i : Int)) (row_cell 0 (heap_alloc_new w _))
  rw [← dg_low h] at hc
  have hb : Below w.heap.size w (w.alloc (.cells #[.int .u8 (48 + (i : Int))] 5)) := (Below.refl _ _).alloc (Nat.le_refl _) _
  have HB := Lib.hid hb; clear hb
  go_enter Tryd.func25, Tryd.ntmps25
  go_wp2
  go_ret
  exact ⟨rfl, HB.out⟩
theorem ex_build_u8 {o : Oper} {a : Act} {w : World} (x : Operand) (ho : o.op = .buildSlice 79 1 #[(0, x)]) (v : Int) (hx : a.eval x = .int .u8 v) :
    (execOp a.eval o).run Tryd.prog w = .ok (.value (.slice (some ⟨w.heap.size, 0, none⟩) 1 1)) (w.alloc (.cells #[.int .u8 v] 5)) := by
  have hm : (#[(0, x)] : Array (Nat × Operand)).map (fun (i, y) => (i, a.eval y)) = #[(0, .int .u8 v)] := by simp [hx]
  have hr : (Instr.buildSlice 79 1 #[(0, .int .u8 v)]).run Tryd.prog w = .ok (.slice (some ⟨w.heap.size, 0, none⟩) 1 1) (w.alloc (.cells #[.int .u8 v] 5)) := by kernel_rfl
  simp only [execOp, ho, hm, Sem.run_bind, hr, Result.andThen_ok]
  rfl
theorem ex_conv_u8 {o : Oper} {a : Act} {w : World} (x : Operand) (ho : o.op = .convert 79 9 x) (g : Nat) (v : Int) (hx : a.eval x = .slice (some ⟨g, 0, none⟩) 1 1) (h : w.cell? ⟨g, 0, none⟩ = some (.int .u8 v)) :
    (execOp a.eval o).run Tryd.prog w = .ok (.value (.string (strOfNums [v]))) w := by
  simp only [execOp, ho, hx, Sem.run_bind, conv_byte w g v h, Result.andThen_ok]
  rfl
set_option maxHeartbeats 2000000 in
set_option maxRecDepth 100000 in
theorem specDec_any (i : Nat) (h : i < 100) (w : World) :
    Calls Tryd.prog 25 #[.int .i64 i] w fun e w' => e = .returned (.string (dg i)) ∧ Below w.heap.size w w' := by
  by_cases hlow : i < 10
  · exact specDec_low i hlow w
  have h' : ¬ (i : Int) < 10 := by omega
  have hm : (i : Int) % 10 = ((i % 10 : Nat) : Int) := by omega
  have hm2 : (i : Int).tmod 10 = ((i % 10 : Nat) : Int) := by rw [show ((10 : Int)) = ((10 : Nat) : Int) from rfl, ← Int.ofNat_tmod]
  have hd : (i : Int) / 10 = ((i / 10 : Nat) : Int) := by omega
  have hd2 : (i : Int).tdiv 10 = ((i / 10 : Nat) : Int) := by rw [show ((10 : Int)) = ((10 : Nat) : Int) from rfl, ← Int.ofNat_tdiv]
  have hcat := dg_high hlow
  obtain ⟨r, hr⟩ : ∃ r, i % 10 = r := ⟨_, rfl⟩
  obtain ⟨d, hdd⟩ : ∃ d, i / 10 = d := ⟨_, rfl⟩
  rw [hr] at hm hm2 hcat
  rw [hdd] at hd hd2 hcat
  have hr10 : r < 10 := by omega
  have hd10 : d < 10 := by omega
  have q0 := i64_id (x := (48 : Int) + r) (by omega)
  have q1 := u8_id (x := (48 : Int) + r) (by omega)
  have qd := i64_id (x := (d : Int)) (by omega)
  have HD := Lib.hid (specDec_low d hd10)
  replace hcat := hcat.symm
  have hsz : (dg d).size + (strOfNums [48 + (r : Int)]).size ≤ 9223372036854775807 := by rw [dg_low hd10, strOfNums_size, strOfNums_size]; simp
  clear hr hdd
  go_enter Tryd.func25, Tryd.ntmps25
  go_wp2
  have hS0 := below_drew w
  refine wp_region_S (fun V => Below w.heap.size w V) (by kernel_rfl) hS0 ?_
  generalize w.drew = Y0 at hS0 ⊢
  refine take_val 0 (.int .i64 i) rfl (by kernel_rfl) (by kernel_rfl) (by kernel_rfl) (fun _ _ _ h => h) rfl (fun V hV => by simp [go_sem]) hS0 ?_
  simp only [List.getElem_toArray, List.getElem_cons_zero, List.getElem_cons_succ, Act.put, List.setIfInBounds_toArray, List.set_cons_zero, List.set_cons_succ]
  refine take_val 1 (.int .i64 d) rfl (by kernel_rfl) (by kernel_rfl) (by kernel_rfl) (fun _ _ _ h => h) rfl (fun V hV => by simp [go_sem, hd, hd2, qd]) hS0 ?_
  simp only [List.getElem_toArray, List.getElem_cons_zero, List.getElem_cons_succ, Act.put, List.setIfInBounds_toArray, List.set_cons_zero, List.set_cons_succ]
  refine take_val 3 (.int .i64 i) rfl (by kernel_rfl) (by kernel_rfl) (by kernel_rfl) (fun _ _ _ h => h) rfl (fun V hV => by simp [go_sem]) hS0 ?_
  simp only [List.getElem_toArray, List.getElem_cons_zero, List.getElem_cons_succ, Act.put, List.setIfInBounds_toArray, List.set_cons_zero, List.set_cons_succ]
  refine take_val 4 (.int .i64 r) rfl (by kernel_rfl) (by kernel_rfl) (by kernel_rfl) (fun _ _ _ h => h) rfl (fun V hV => by simp [go_sem, hm, hm2]) hS0 ?_
  simp only [List.getElem_toArray, List.getElem_cons_zero, List.getElem_cons_succ, Act.put, List.setIfInBounds_toArray, List.set_cons_zero, List.set_cons_succ]
  refine take_val 5 (.int .i64 (48 + r)) rfl (by kernel_rfl) (by kernel_rfl) (by kernel_rfl) (fun _ _ _ h => h) rfl (fun V hV => by simp [go_sem, q0]) hS0 ?_
  simp only [List.getElem_toArray, List.getElem_cons_zero, List.getElem_cons_succ, Act.put, List.setIfInBounds_toArray, List.set_cons_zero, List.set_cons_succ]
  refine take_val 6 (.int .u8 (48 + r)) rfl (by kernel_rfl) (by kernel_rfl) (by kernel_rfl) (fun _ _ _ h => h) rfl (fun V hV => by simp [go_sem, q1]) hS0 ?_
  simp only [List.getElem_toArray, List.getElem_cons_zero, List.getElem_cons_succ, Act.put, List.setIfInBounds_toArray, List.set_cons_zero, List.set_cons_succ]
  have hSa := hS0.alloc hS0.size (.cells #[.int .u8 (48 + (r : Int))] 5)
  refine' cut_with (A := ∀ (V : World) (g : Nat), Below w.heap.size w V → (_ : World → Nat → Prop) V g) (fun hcont => ?_) ?_
  rotate_left
  · refine step_call_or 2 7 25 #[.int .i64 d] (.slice (some ⟨Y0.heap.size, 0, none⟩) 1 1) (Y0.alloc (.cells #[.int .u8 (48 + (r : Int))] 5)) (by kernel_rfl) rfl rfl rfl rfl (by simp [go_sem]) (ex_build_u8 _ rfl _ rfl) hSa ?_ ?_
    · refine (HD.out Y0).mono ?_
      rintro e Y1 ⟨rfl, hb1⟩
      have hS1 := hS0.trans (hb1.mono hS0.size)
      refine ⟨_, rfl, hS1, ?_⟩
      simp only [List.getElem_toArray, List.getElem_cons_zero, List.getElem_cons_succ, Act.put, List.setIfInBounds_toArray, List.set_cons_zero, List.set_cons_succ]
      have hSE := hS1.alloc hS1.size (.cells #[.int .u8 (48 + (r : Int))] 5)
      refine step_val 7 _ _ (by kernel_rfl) rfl rfl (ex_build_u8 _ rfl (48 + (r : Int)) rfl) hSE ?_
      simp only [List.getElem_toArray, List.getElem_cons_zero, List.getElem_cons_succ, Act.put, List.setIfInBounds_toArray, List.set_cons_zero, List.set_cons_succ]
      refine step_val 8 _ _ (by kernel_rfl) rfl rfl (ex_conv_u8 _ rfl Y1.heap.size (48 + (r : Int)) rfl (row_cell 0 (heap_alloc_new Y1 _))) hSE ?_
      simp only [List.getElem_toArray, List.getElem_cons_zero, List.getElem_cons_succ, Act.put, List.setIfInBounds_toArray, List.set_cons_zero, List.set_cons_succ]
      refine take_val 9 (.string (dg i)) rfl (by kernel_rfl) (by kernel_rfl) (by kernel_rfl) (fun _ _ _ h => h) rfl (fun V hV => by simp [go_sem, hcat, hsz]) hSE ?_
      simp only [List.getElem_toArray, List.getElem_cons_zero, List.getElem_cons_succ, Act.put, List.setIfInBounds_toArray, List.set_cons_zero, List.set_cons_succ]
      refine take_val 10 (.string (dg i)) rfl (by kernel_rfl) (by kernel_rfl) (by kernel_rfl) (fun _ _ _ h => h) rfl (fun V hV => by simp [go_sem]) hSE ?_
      simp only [List.getElem_toArray, List.getElem_cons_zero, List.getElem_cons_succ, Act.put, List.setIfInBounds_toArray, List.set_cons_zero, List.set_cons_succ]
      refine wpAnyH_done (by kernel_rfl) ?_ _
      generalize Y1.alloc (.cells #[.int .u8 (48 + (r : Int))] 5) = V at hSE ⊢
      generalize Y1.heap.size = g
      exact hcont V g hSE
    · --
      simp only [List.getElem_toArray, List.getElem_cons_zero, List.getElem_cons_succ, Act.put, List.setIfInBounds_toArray, List.set_cons_zero, List.set_cons_succ]
      have hS1 := hSa
      refine step_call_or 2 8 25 #[.int .i64 d] (.string (strOfNums [48 + (r : Int)])) (Y0.alloc (.cells #[.int .u8 (48 + (r : Int))] 5)) (by kernel_rfl) rfl rfl rfl rfl (by simp [go_sem]) (ex_conv_u8 _ rfl Y0.heap.size (48 + (r : Int)) rfl (row_cell 0 (heap_alloc_new Y0 _))) hSa ?_ ?_
      · refine (HD.out _).mono ?_
        rintro e Y1 ⟨rfl, hb1⟩
        have hSE := hSa.trans (hb1.mono hSa.size)
        refine ⟨_, rfl, hSE, ?_⟩
        simp only [List.getElem_toArray, List.getElem_cons_zero, List.getElem_cons_succ, Act.put, List.setIfInBounds_toArray, List.set_cons_zero, List.set_cons_succ]
        have hc1 : Y1.cell? ⟨Y0.heap.size, 0, none⟩ = some (.int .u8 (48 + (r : Int))) := (hb1.cell (p := ⟨Y0.heap.size, 0, none⟩) (by simp)).trans (row_cell 0 (heap_alloc_new Y0 _))
        refine step_val 8 _ _ (by kernel_rfl) rfl rfl (ex_conv_u8 _ rfl Y0.heap.size (48 + (r : Int)) rfl hc1) hSE ?_
        simp only [List.getElem_toArray, List.getElem_cons_zero, List.getElem_cons_succ, Act.put, List.setIfInBounds_toArray, List.set_cons_zero, List.set_cons_succ]
        refine take_val 9 (.string (dg i)) rfl (by kernel_rfl) (by kernel_rfl) (by kernel_rfl) (fun _ _ _ h => h) rfl (fun V hV => by simp [go_sem, hcat, hsz]) hSE ?_
        simp only [List.getElem_toArray, List.getElem_cons_zero, List.getElem_cons_succ, Act.put, List.setIfInBounds_toArray, List.set_cons_zero, List.set_cons_succ]
        refine take_val 10 (.string (dg i)) rfl (by kernel_rfl) (by kernel_rfl) (by kernel_rfl) (fun _ _ _ h => h) rfl (fun V hV => by simp [go_sem]) hSE ?_
        simp only [List.getElem_toArray, List.getElem_cons_zero, List.getElem_cons_succ, Act.put, List.setIfInBounds_toArray, List.set_cons_zero, List.set_cons_succ]
        refine wpAnyH_done (by kernel_rfl) ?_ _
        generalize Y0.heap.size = g
        exact hcont Y1 g hSE
      · --
        simp only [List.getElem_toArray, List.getElem_cons_zero, List.getElem_cons_succ, Act.put, List.setIfInBounds_toArray, List.set_cons_zero, List.set_cons_succ]
        refine step_call 2 25 #[.int .i64 d] (by kernel_rfl) rfl rfl (by simp [go_sem]) ?_
        refine (HD.out _).mono ?_
        rintro e Y1 ⟨rfl, hb1⟩
        have hSE := hSa.trans (hb1.mono hSa.size)
        refine ⟨_, rfl, hSE, ?_⟩
        simp only [List.getElem_toArray, List.getElem_cons_zero, List.getElem_cons_succ, Act.put, List.setIfInBounds_toArray, List.set_cons_zero, List.set_cons_succ]
        refine take_val 9 (.string (dg i)) rfl (by kernel_rfl) (by kernel_rfl) (by kernel_rfl) (fun _ _ _ h => h) rfl (fun V hV => by simp [go_sem, hcat, hsz]) hSE ?_
        simp only [List.getElem_toArray, List.getElem_cons_zero, List.getElem_cons_succ, Act.put, List.setIfInBounds_toArray, List.set_cons_zero, List.set_cons_succ]
        refine take_val 10 (.string (dg i)) rfl (by kernel_rfl) (by kernel_rfl) (by kernel_rfl) (fun _ _ _ h => h) rfl (fun V hV => by simp [go_sem]) hSE ?_
        simp only [List.getElem_toArray, List.getElem_cons_zero, List.getElem_cons_succ, Act.put, List.setIfInBounds_toArray, List.set_cons_zero, List.set_cons_succ]
        refine wpAnyH_done (by kernel_rfl) ?_ _
        generalize Y0.heap.size = g
        exact hcont Y1 g hSE
  intro V g hbV
  go_wp2
  go_ret
  exact ⟨rfl, hbV⟩
end Go.Proofs.YteboefffkpcnaaaDoor
