/- QuarterText, by the program and by the reference. No conditions. -/
import Derived.Test.YteboefffkpcnaaaDoorTx
import Derived.Outline
namespace Go.Proofs.YteboefffkpcnaaaDoor
open Go.RowKit
set_option linter.unusedVariables false
set_option linter.unusedSimpArgs false

/-- the four quarters -/
def tI (r : Nat) : ByteArray := if r = 0 then ⟨#[48, 48]⟩ else if r = 1 then ⟨#[49, 53]⟩ else if r = 2 then ⟨#[51, 48]⟩ else ⟨#[52, 53]⟩
def tS (r : Nat) : ByteArray := if r = 0 then ⟨#[58, 48, 48]⟩ else if r = 1 then ⟨#[58, 49, 53]⟩ else if r = 2 then ⟨#[58, 51, 48]⟩ else ⟨#[58, 52, 53]⟩
def tI4 : Array Value := #[.string ⟨#[48, 48]⟩, .string ⟨#[49, 53]⟩, .string ⟨#[51, 48]⟩, .string ⟨#[52, 53]⟩]
def tS4 : Array Value := #[.string ⟨#[58, 48, 48]⟩, .string ⟨#[58, 49, 53]⟩, .string ⟨#[58, 51, 48]⟩, .string ⟨#[58, 52, 53]⟩]
theorem tI4_at {r : Nat} (h : r < 4) : tI4[r]? = some (.string (tI r)) := by
  rcases r with _ | _ | _ | _ | r
  · rfl
  · rfl
  · rfl
  · rfl
  · omega
theorem tS4_at {r : Nat} (h : r < 4) : tS4[r]? = some (.string (tS r)) := by
  rcases r with _ | _ | _ | _ | r
  · rfl
  · rfl
  · rfl
  · rfl
  · omega
theorem tIS {r : Nat} (x : ByteArray) : x ++ ⟨#[58]⟩ ++ tI r = x ++ tS r := by
  have : (⟨#[58]⟩ : ByteArray) ++ tI r = tS r := by
    unfold tI tS
    split
    · rfl
    · split
      · rfl
      · split <;> rfl
  rw [← this]
  apply ByteArray.ext
  simp [ByteArray.data_append, Array.append_assoc]
theorem tI_sz (r : Nat) : (tI r).size = 2 := by
  unfold tI
  split
  · rfl
  · split
    · rfl
    · split <;> rfl
theorem tS_sz (r : Nat) : (tS r).size = 3 := by
  unfold tS
  split
  · rfl
  · split
    · rfl
    · split <;> rfl
theorem dg_sz {i : Nat} (h : i < 100) : (dg i).size ≤ 2 := by
  by_cases h1 : i < 10
  · rw [dg_low h1, strOfNums_size]; simp
  · rw [dg_high h1, ByteArray.size_append, dg_low (show i / 10 < 10 by omega), strOfNums_size, strOfNums_size]; simp
/-- the hour of a quarter -/
def hr (k : Nat) : Nat := if k < 4 then 12 else k / 4
theorem hr_low {k : Nat} (h : k < 4) : hr k = 12 := if_pos h
theorem hr_high {k : Nat} (h : ¬ k < 4) : hr k = k / 4 := if_neg h
theorem hr_imp {k : Nat} (h : k < 48) : hr k = (k / 4 + 11) % 12 + 1 := by unfold hr; split <;> omega
theorem hr_le {k : Nat} (h : k < 48) : 1 ≤ hr k ∧ hr k ≤ 12 := by unfold hr; split <;> omega
attribute [irreducible] hr
/-- the text of a quarter -/
def qt (q : Int) : ByteArray := if inB q 0 47 = true then dg (hr q.toNat) ++ tS (q.toNat % 4) else ⟨#[]⟩
theorem qt_no {q : Int} (h : inB q 0 47 = false) : qt q = ⟨#[]⟩ := if_neg (by rw [h]; simp)
theorem qt_yes {k : Nat} (h : k < 48) : qt (k : Int) = dg (hr k) ++ tS (k % 4) := by
  unfold qt; rw [if_pos (inB_true (by omega)), Int.toNat_natCast]
attribute [irreducible] qt tI tS
theorem isQ_any (x : Int) (w : World) :
    Calls Tryd.prog 27 #[.int .i64 x] w fun e w' => e = .returned (.bool (inB x 0 47)) ∧ w = w' := by
  go_enter Tryd.func27, Tryd.ntmps27
  go_wp2_with (go_at_call 35; refine (within_any _ _ _ _).mono ?_; rintro e w2 ⟨rfl, rfl⟩)
  go_ret
  exact ⟨rfl, rfl⟩
theorem l4Q_any (x : Int) (w : World) :
    Calls Tryd.prog 24 #[.int .i64 x] w fun e w' => e = .returned (.bool (inB x 0 47)) ∧ w = w' := by
  go_enter Tryd.func24, Tryd.ntmps24
  go_wp2_with (go_at_call 49; refine (l00In_any _ _ _ _).mono ?_; rintro e w2 ⟨rfl, rfl⟩)
  go_ret
  exact ⟨rfl, rfl⟩
theorem quo4 (k : Nat) : (k : Int) / 4 = ((k / 4 : Nat) : Int) ∧ (k : Int).tdiv 4 = ((k / 4 : Nat) : Int) := ⟨by omega, by rw [show ((4 : Int)) = ((4 : Nat) : Int) from rfl, ← Int.ofNat_tdiv]⟩
theorem rem4 (k : Nat) : (k : Int) % 4 = ((k % 4 : Nat) : Int) ∧ (k : Int).tmod 4 = ((k % 4 : Nat) : Int) := ⟨by omega, by rw [show ((4 : Int)) = ((4 : Nat) : Int) from rfl, ← Int.ofNat_tmod]⟩
theorem hourOf_any (k : Nat) (h : k < 48) (w : World) :
    Calls Tryd.prog 29 #[.int .i64 k] w fun e w' => e = .returned (.int .i64 (hr k)) ∧ w = w' := by
  have hv := hr_imp h
  obtain ⟨d1, d2⟩ := quo4 k
  obtain ⟨x, hx⟩ : ∃ x, k / 4 = x := ⟨_, rfl⟩
  rw [hx] at d1 d2 hv
  have hx12 : x < 12 := by omega
  have hm : ((x : Int) + 11) % 12 = (((x + 11) % 12 : Nat) : Int) := by omega
  have hm2 : ((x : Int) + 11).tmod 12 = (((x + 11) % 12 : Nat) : Int) := by rw [show (x : Int) + 11 = ((x + 11 : Nat) : Int) by omega, show ((12 : Int)) = ((12 : Nat) : Int) from rfl, ← Int.ofNat_tmod]
  obtain ⟨y, hy⟩ : ∃ y, (x + 11) % 12 = y := ⟨_, rfl⟩
  rw [hy] at hm hm2 hv
  have hy12 : y < 12 := by omega
  have q1 := i64_id (x := (x : Int) + 11) (by omega)
  have q2 := i64_id (x := (y : Int) + 1) (by omega)
  have q3 := i64_id (x := (x : Int)) (by omega)
  have HV := Lib.hid hv
  clear hx hy hv
  go_enter Tryd.func29, Tryd.ntmps29
  go_wp2
  go_ret
  exact ⟨ret_int (by rw [HV.out]; omega), rfl⟩
theorem l04Hour_any (k : Nat) (h : k < 48) (w : World) :
    Calls Tryd.prog 26 #[.int .i64 k] w fun e w' => e = .returned (.int .i64 (hr k)) ∧ w = w' := by
  obtain ⟨d1, d2⟩ := quo4 k
  by_cases hk : k < 4
  · have hk' : (k : Int) < 4 := by omega
    have HV := Lib.hid (hr_low hk)
    go_enter Tryd.func26, Tryd.ntmps26
    go_wp2
    go_ret
    exact ⟨ret_int (by rw [HV.out]; rfl), rfl⟩
  · have hk' : ¬ (k : Int) < 4 := by omega
    have HV := Lib.hid (hr_high hk)
    obtain ⟨x, hx⟩ : ∃ x, k / 4 = x := ⟨_, rfl⟩
    rw [hx] at d1 d2 HV
    have q3 := i64_id (x := (x : Int)) (by omega)
    clear hx
    go_enter Tryd.func26, Tryd.ntmps26
    go_wp2
    go_ret
    exact ⟨ret_int (by rw [HV.out]), rfl⟩
theorem ex_build_tI {o : Oper} {a : Act} {w : World} (ho : o.op = .buildSlice 57 4 #[(0, .const (.string ⟨#[48, 48]⟩)), (1, .const (.string ⟨#[49, 53]⟩)), (2, .const (.string ⟨#[51, 48]⟩)), (3, .const (.string ⟨#[52, 53]⟩))]) :
    (execOp a.eval o).run Tryd.prog w = .ok (.value (.slice (some ⟨w.heap.size, 0, none⟩) 4 4)) (w.alloc (.cells tI4 9)) := by
  have hm : (#[(0, .const (.string ⟨#[48, 48]⟩)), (1, .const (.string ⟨#[49, 53]⟩)), (2, .const (.string ⟨#[51, 48]⟩)), (3, .const (.string ⟨#[52, 53]⟩))] : Array (Nat × Operand)).map (fun (i, y) => (i, a.eval y)) = #[(0, .string ⟨#[48, 48]⟩), (1, .string ⟨#[49, 53]⟩), (2, .string ⟨#[51, 48]⟩), (3, .string ⟨#[52, 53]⟩)] := by simp [Act.eval]
  have hr : (Instr.buildSlice 57 4 #[(0, .string ⟨#[48, 48]⟩), (1, .string ⟨#[49, 53]⟩), (2, .string ⟨#[51, 48]⟩), (3, .string ⟨#[52, 53]⟩)]).run Tryd.prog w = .ok (.slice (some ⟨w.heap.size, 0, none⟩) 4 4) (w.alloc (.cells tI4 9)) := by kernel_rfl
  simp only [execOp, ho, hm, Sem.run_bind, hr, Result.andThen_ok]
  rfl
set_option maxHeartbeats 4000000 in
set_option maxRecDepth 100000 in
theorem implQuarterText_any (q : Int) (w : World) (hq : -9223372036854775808 ≤ q ∧ q ≤ 9223372036854775807) :
    Calls Tryd.prog 8 #[.int .i64 q] w fun e w' => e = .returned (.string (qt q)) ∧ Below w.heap.size w w' := by
  cases hb : inB q 0 47
  · have HT := Lib.hid (qt_no hb)
    go_enter Tryd.func8, Tryd.ntmps8
    go_wp2_with (go_at_call 27; refine (isQ_any _ _).mono ?_; rw [hb]; rintro e w2 ⟨rfl, rfl⟩)
    go_ret
    exact ⟨by rw [HT.out]; rfl, Below.refl _ _⟩
  · obtain ⟨h1, h2⟩ := inB_iff.1 hb
    obtain ⟨k, rfl⟩ : ∃ k : Nat, q = k := ⟨q.toNat, by omega⟩
    have hk : k < 48 := by omega
    have HT := Lib.hid (qt_yes hk)
    have hh := hr_le hk
    have hho := fun W => hourOf_any k hk W
    obtain ⟨r1, r2⟩ := rem4 k
    obtain ⟨h, hhd⟩ : ∃ h, hr k = h := ⟨_, rfl⟩
    obtain ⟨r, hrd⟩ : ∃ r, k % 4 = r := ⟨_, rfl⟩
    rw [hhd] at HT hh hho
    rw [hrd] at HT r1 r2
    have hr4 : (r : Int) < 4 := by omega
    have HH := Lib.hid hho
    have HD := Lib.hid (fun W => decimal_any h (by omega) W)
    have qr := i64_id (x := (r : Int)) (by omega)
    have hdz := dg_sz (show h < 100 by omega)
    have htz := tI_sz r
    have hz1 : ¬ 9223372036854775807 < (dg h).size + 1 := by omega
    have hz2 : ¬ 9223372036854775807 < (dg h).size + 1 + (tI r).size := by omega
    have hz3 : (dg h).size + 1 + (tI r).size ≤ 9223372036854775807 := by omega
    clear hdz htz
    have HB := Lib.hid hb
    clear hho hhd hrd hb
    go_enter Tryd.func8, Tryd.ntmps8
    go_wp2_with (go_at_call 27; refine (isQ_any _ _).mono ?_; rw [HB.out]; rintro e w2 ⟨rfl, rfl⟩)
    have hS0 := below_drew w
    refine wp_region_S (fun V => Below w.heap.size w V) (by kernel_rfl) hS0 ?_
    generalize w.drew = Y0 at hS0 ⊢
    have hSa := hS0.alloc hS0.size (.cells tI4 9)
    have hcr : (Y0.alloc (.cells tI4 9)).cell? ⟨Y0.heap.size, r, none⟩ = some (.string (tI r)) := (row_cell r (heap_alloc_new Y0 _)).trans (tI4_at (by omega))
    refine take_val 0 (.int .i64 k) rfl (by kernel_rfl) (by kernel_rfl) (by kernel_rfl) (fun _ _ _ h => h) rfl (fun V hV => by simp [go_sem]) hS0 ?_
    simp only [List.getElem_toArray, List.getElem_cons_zero, List.getElem_cons_succ, Act.put, List.setIfInBounds_toArray, List.set_cons_zero, List.set_cons_succ]
    refine take_val 5 (.int .i64 k) rfl (by kernel_rfl) (by kernel_rfl) (by kernel_rfl) (fun _ _ _ h => h) rfl (fun V hV => by simp [go_sem]) hS0 ?_
    simp only [List.getElem_toArray, List.getElem_cons_zero, List.getElem_cons_succ, Act.put, List.setIfInBounds_toArray, List.set_cons_zero, List.set_cons_succ]
    refine take_val 6 (.int .i64 r) rfl (by kernel_rfl) (by kernel_rfl) (by kernel_rfl) (fun _ _ _ h => h) rfl (fun V hV => by simp [go_sem, r1, r2, qr]) hS0 ?_
    simp only [List.getElem_toArray, List.getElem_cons_zero, List.getElem_cons_succ, Act.put, List.setIfInBounds_toArray, List.set_cons_zero, List.set_cons_succ]
    refine' cut_with (A := ∀ (V : World), Below w.heap.size w V → (_ : World → Prop) V) (fun hcont => ?_) ?_
    rotate_left
    · --
      refine step_call_or 1 4 29 #[.int .i64 k] (.slice (some ⟨Y0.heap.size, 0, none⟩) 4 4) (Y0.alloc (.cells tI4 9)) (by kernel_rfl) rfl rfl rfl rfl (by simp [go_sem]) (ex_build_tI rfl) hSa ?_ ?_
      · --
        refine (HH.out _).mono ?_
        rintro e Y1 ⟨rfl, rfl⟩
        refine ⟨_, rfl, hS0, ?_⟩
        simp only [List.getElem_toArray, List.getElem_cons_zero, List.getElem_cons_succ, Act.put, List.setIfInBounds_toArray, List.set_cons_zero, List.set_cons_succ]
        refine step_call_or 2 4 28 #[.int .i64 h] (.slice (some ⟨Y0.heap.size, 0, none⟩) 4 4) (Y0.alloc (.cells tI4 9)) (by kernel_rfl) rfl rfl rfl rfl (by simp [go_sem]) (ex_build_tI rfl) hSa ?_ ?_
        · --
          refine (HD.out _).mono ?_
          rintro e Y1 ⟨rfl, rfl⟩
          refine ⟨_, rfl, hS0, ?_⟩
          simp only [List.getElem_toArray, List.getElem_cons_zero, List.getElem_cons_succ, Act.put, List.setIfInBounds_toArray, List.set_cons_zero, List.set_cons_succ]
          refine take_val 3 (.string (dg h ++ ⟨#[58]⟩)) rfl (by kernel_rfl) (by kernel_rfl) (by kernel_rfl) (fun _ _ _ h => h) rfl (fun V hV => by simp [go_sem, hz1]) hS0 ?_
          simp only [List.getElem_toArray, List.getElem_cons_zero, List.getElem_cons_succ, Act.put, List.setIfInBounds_toArray, List.set_cons_zero, List.set_cons_succ]
          refine step_val 4 (.slice (some ⟨Y0.heap.size, 0, none⟩) 4 4) (Y0.alloc (.cells tI4 9)) (by kernel_rfl) rfl rfl (ex_build_tI rfl) hSa ?_
          simp only [List.getElem_toArray, List.getElem_cons_zero, List.getElem_cons_succ, Act.put, List.setIfInBounds_toArray, List.set_cons_zero, List.set_cons_succ]
          refine take_val 7 (.pointer (some ⟨Y0.heap.size, r, none⟩)) rfl (by kernel_rfl) (by kernel_rfl) (by kernel_rfl) (fun _ _ _ h => h) rfl (fun V hV => by simp [go_sem, hr4]) hSa ?_
          simp only [List.getElem_toArray, List.getElem_cons_zero, List.getElem_cons_succ, Act.put, List.setIfInBounds_toArray, List.set_cons_zero, List.set_cons_succ]
          refine step_val 8 (.string (tI r)) (Y0.alloc (.cells tI4 9)) (by kernel_rfl) rfl rfl (by simp [go_sem, hcr]) hSa ?_
          simp only [List.getElem_toArray, List.getElem_cons_zero, List.getElem_cons_succ, Act.put, List.setIfInBounds_toArray, List.set_cons_zero, List.set_cons_succ]
          refine take_val 9 (.string (dg h ++ ⟨#[58]⟩ ++ tI r)) rfl (by kernel_rfl) (by kernel_rfl) (by kernel_rfl) (fun _ _ _ h => h) rfl (fun V hV => by simp [go_sem, hz2, hz3]) hSa ?_
          simp only [List.getElem_toArray, List.getElem_cons_zero, List.getElem_cons_succ, Act.put, List.setIfInBounds_toArray, List.set_cons_zero, List.set_cons_succ]
          refine take_val 10 (.string (dg h ++ ⟨#[58]⟩ ++ tI r)) rfl (by kernel_rfl) (by kernel_rfl) (by kernel_rfl) (fun _ _ _ h => h) rfl (fun V hV => by simp [go_sem]) hSa ?_
          simp only [List.getElem_toArray, List.getElem_cons_zero, List.getElem_cons_succ, Act.put, List.setIfInBounds_toArray, List.set_cons_zero, List.set_cons_succ]
          refine wpAnyH_done (by kernel_rfl) ?_ _
          have hSF : Below w.heap.size w (Y0.alloc (.cells tI4 9)) := hSa
          generalize Y0.alloc (.cells tI4 9) = V at hSF ⊢
          exact hcont V hSF
        · --
          simp only [List.getElem_toArray, List.getElem_cons_zero, List.getElem_cons_succ, Act.put, List.setIfInBounds_toArray, List.set_cons_zero, List.set_cons_succ]
          refine take_val 7 (.pointer (some ⟨Y0.heap.size, r, none⟩)) rfl (by kernel_rfl) (by kernel_rfl) (by kernel_rfl) (fun _ _ _ h => h) rfl (fun V hV => by simp [go_sem, hr4]) hSa ?_
          simp only [List.getElem_toArray, List.getElem_cons_zero, List.getElem_cons_succ, Act.put, List.setIfInBounds_toArray, List.set_cons_zero, List.set_cons_succ]
          refine step_call_or 2 8 28 #[.int .i64 h] (.string (tI r)) (Y0.alloc (.cells tI4 9)) (by kernel_rfl) rfl rfl rfl rfl (by simp [go_sem]) (by simp [go_sem, hcr]) hSa ?_ ?_
          · --
            refine (HD.out _).mono ?_
            rintro e Y1 ⟨rfl, rfl⟩
            refine ⟨_, rfl, hSa, ?_⟩
            simp only [List.getElem_toArray, List.getElem_cons_zero, List.getElem_cons_succ, Act.put, List.setIfInBounds_toArray, List.set_cons_zero, List.set_cons_succ]
            refine take_val 3 (.string (dg h ++ ⟨#[58]⟩)) rfl (by kernel_rfl) (by kernel_rfl) (by kernel_rfl) (fun _ _ _ h => h) rfl (fun V hV => by simp [go_sem, hz1]) hSa ?_
            simp only [List.getElem_toArray, List.getElem_cons_zero, List.getElem_cons_succ, Act.put, List.setIfInBounds_toArray, List.set_cons_zero, List.set_cons_succ]
            refine step_val 8 (.string (tI r)) (Y0.alloc (.cells tI4 9)) (by kernel_rfl) rfl rfl (by simp [go_sem, hcr]) hSa ?_
            simp only [List.getElem_toArray, List.getElem_cons_zero, List.getElem_cons_succ, Act.put, List.setIfInBounds_toArray, List.set_cons_zero, List.set_cons_succ]
            refine take_val 9 (.string (dg h ++ ⟨#[58]⟩ ++ tI r)) rfl (by kernel_rfl) (by kernel_rfl) (by kernel_rfl) (fun _ _ _ h => h) rfl (fun V hV => by simp [go_sem, hz2, hz3]) hSa ?_
            simp only [List.getElem_toArray, List.getElem_cons_zero, List.getElem_cons_succ, Act.put, List.setIfInBounds_toArray, List.set_cons_zero, List.set_cons_succ]
            refine take_val 10 (.string (dg h ++ ⟨#[58]⟩ ++ tI r)) rfl (by kernel_rfl) (by kernel_rfl) (by kernel_rfl) (fun _ _ _ h => h) rfl (fun V hV => by simp [go_sem]) hSa ?_
            simp only [List.getElem_toArray, List.getElem_cons_zero, List.getElem_cons_succ, Act.put, List.setIfInBounds_toArray, List.set_cons_zero, List.set_cons_succ]
            refine wpAnyH_done (by kernel_rfl) ?_ _
            have hSF : Below w.heap.size w (Y0.alloc (.cells tI4 9)) := hSa
            generalize Y0.alloc (.cells tI4 9) = V at hSF ⊢
            exact hcont V hSF
          · --
            simp only [List.getElem_toArray, List.getElem_cons_zero, List.getElem_cons_succ, Act.put, List.setIfInBounds_toArray, List.set_cons_zero, List.set_cons_succ]
            refine step_call 2 28 #[.int .i64 h] (by kernel_rfl) rfl rfl (by simp [go_sem]) ?_
            refine (HD.out _).mono ?_
            rintro e Y1 ⟨rfl, rfl⟩
            refine ⟨_, rfl, hSa, ?_⟩
            simp only [List.getElem_toArray, List.getElem_cons_zero, List.getElem_cons_succ, Act.put, List.setIfInBounds_toArray, List.set_cons_zero, List.set_cons_succ]
            refine take_val 3 (.string (dg h ++ ⟨#[58]⟩)) rfl (by kernel_rfl) (by kernel_rfl) (by kernel_rfl) (fun _ _ _ h => h) rfl (fun V hV => by simp [go_sem, hz1]) hSa ?_
            simp only [List.getElem_toArray, List.getElem_cons_zero, List.getElem_cons_succ, Act.put, List.setIfInBounds_toArray, List.set_cons_zero, List.set_cons_succ]
            refine take_val 9 (.string (dg h ++ ⟨#[58]⟩ ++ tI r)) rfl (by kernel_rfl) (by kernel_rfl) (by kernel_rfl) (fun _ _ _ h => h) rfl (fun V hV => by simp [go_sem, hz2, hz3]) hSa ?_
            simp only [List.getElem_toArray, List.getElem_cons_zero, List.getElem_cons_succ, Act.put, List.setIfInBounds_toArray, List.set_cons_zero, List.set_cons_succ]
            refine take_val 10 (.string (dg h ++ ⟨#[58]⟩ ++ tI r)) rfl (by kernel_rfl) (by kernel_rfl) (by kernel_rfl) (fun _ _ _ h => h) rfl (fun V hV => by simp [go_sem]) hSa ?_
            simp only [List.getElem_toArray, List.getElem_cons_zero, List.getElem_cons_succ, Act.put, List.setIfInBounds_toArray, List.set_cons_zero, List.set_cons_succ]
            refine wpAnyH_done (by kernel_rfl) ?_ _
            have hSF : Below w.heap.size w (Y0.alloc (.cells tI4 9)) := hSa
            generalize Y0.alloc (.cells tI4 9) = V at hSF ⊢
            exact hcont V hSF
      · --
        simp only [List.getElem_toArray, List.getElem_cons_zero, List.getElem_cons_succ, Act.put, List.setIfInBounds_toArray, List.set_cons_zero, List.set_cons_succ]
        refine take_val 7 (.pointer (some ⟨Y0.heap.size, r, none⟩)) rfl (by kernel_rfl) (by kernel_rfl) (by kernel_rfl) (fun _ _ _ h => h) rfl (fun V hV => by simp [go_sem, hr4]) hSa ?_
        simp only [List.getElem_toArray, List.getElem_cons_zero, List.getElem_cons_succ, Act.put, List.setIfInBounds_toArray, List.set_cons_zero, List.set_cons_succ]
        refine step_call_or 1 8 29 #[.int .i64 k] (.string (tI r)) (Y0.alloc (.cells tI4 9)) (by kernel_rfl) rfl rfl rfl rfl (by simp [go_sem]) (by simp [go_sem, hcr]) hSa ?_ ?_
        · --
          refine (HH.out _).mono ?_
          rintro e Y1 ⟨rfl, rfl⟩
          refine ⟨_, rfl, hSa, ?_⟩
          simp only [List.getElem_toArray, List.getElem_cons_zero, List.getElem_cons_succ, Act.put, List.setIfInBounds_toArray, List.set_cons_zero, List.set_cons_succ]
          refine step_call_or 2 8 28 #[.int .i64 h] (.string (tI r)) (Y0.alloc (.cells tI4 9)) (by kernel_rfl) rfl rfl rfl rfl (by simp [go_sem]) (by simp [go_sem, hcr]) hSa ?_ ?_
          · --
            refine (HD.out _).mono ?_
            rintro e Y1 ⟨rfl, rfl⟩
            refine ⟨_, rfl, hSa, ?_⟩
            simp only [List.getElem_toArray, List.getElem_cons_zero, List.getElem_cons_succ, Act.put, List.setIfInBounds_toArray, List.set_cons_zero, List.set_cons_succ]
            refine take_val 3 (.string (dg h ++ ⟨#[58]⟩)) rfl (by kernel_rfl) (by kernel_rfl) (by kernel_rfl) (fun _ _ _ h => h) rfl (fun V hV => by simp [go_sem, hz1]) hSa ?_
            simp only [List.getElem_toArray, List.getElem_cons_zero, List.getElem_cons_succ, Act.put, List.setIfInBounds_toArray, List.set_cons_zero, List.set_cons_succ]
            refine step_val 8 (.string (tI r)) (Y0.alloc (.cells tI4 9)) (by kernel_rfl) rfl rfl (by simp [go_sem, hcr]) hSa ?_
            simp only [List.getElem_toArray, List.getElem_cons_zero, List.getElem_cons_succ, Act.put, List.setIfInBounds_toArray, List.set_cons_zero, List.set_cons_succ]
            refine take_val 9 (.string (dg h ++ ⟨#[58]⟩ ++ tI r)) rfl (by kernel_rfl) (by kernel_rfl) (by kernel_rfl) (fun _ _ _ h => h) rfl (fun V hV => by simp [go_sem, hz2, hz3]) hSa ?_
            simp only [List.getElem_toArray, List.getElem_cons_zero, List.getElem_cons_succ, Act.put, List.setIfInBounds_toArray, List.set_cons_zero, List.set_cons_succ]
            refine take_val 10 (.string (dg h ++ ⟨#[58]⟩ ++ tI r)) rfl (by kernel_rfl) (by kernel_rfl) (by kernel_rfl) (fun _ _ _ h => h) rfl (fun V hV => by simp [go_sem]) hSa ?_
            simp only [List.getElem_toArray, List.getElem_cons_zero, List.getElem_cons_succ, Act.put, List.setIfInBounds_toArray, List.set_cons_zero, List.set_cons_succ]
            refine wpAnyH_done (by kernel_rfl) ?_ _
            have hSF : Below w.heap.size w (Y0.alloc (.cells tI4 9)) := hSa
            generalize Y0.alloc (.cells tI4 9) = V at hSF ⊢
            exact hcont V hSF
          · --
            simp only [List.getElem_toArray, List.getElem_cons_zero, List.getElem_cons_succ, Act.put, List.setIfInBounds_toArray, List.set_cons_zero, List.set_cons_succ]
            refine step_call 2 28 #[.int .i64 h] (by kernel_rfl) rfl rfl (by simp [go_sem]) ?_
            refine (HD.out _).mono ?_
            rintro e Y1 ⟨rfl, rfl⟩
            refine ⟨_, rfl, hSa, ?_⟩
            simp only [List.getElem_toArray, List.getElem_cons_zero, List.getElem_cons_succ, Act.put, List.setIfInBounds_toArray, List.set_cons_zero, List.set_cons_succ]
            refine take_val 3 (.string (dg h ++ ⟨#[58]⟩)) rfl (by kernel_rfl) (by kernel_rfl) (by kernel_rfl) (fun _ _ _ h => h) rfl (fun V hV => by simp [go_sem, hz1]) hSa ?_
            simp only [List.getElem_toArray, List.getElem_cons_zero, List.getElem_cons_succ, Act.put, List.setIfInBounds_toArray, List.set_cons_zero, List.set_cons_succ]
            refine take_val 9 (.string (dg h ++ ⟨#[58]⟩ ++ tI r)) rfl (by kernel_rfl) (by kernel_rfl) (by kernel_rfl) (fun _ _ _ h => h) rfl (fun V hV => by simp [go_sem, hz2, hz3]) hSa ?_
            simp only [List.getElem_toArray, List.getElem_cons_zero, List.getElem_cons_succ, Act.put, List.setIfInBounds_toArray, List.set_cons_zero, List.set_cons_succ]
            refine take_val 10 (.string (dg h ++ ⟨#[58]⟩ ++ tI r)) rfl (by kernel_rfl) (by kernel_rfl) (by kernel_rfl) (fun _ _ _ h => h) rfl (fun V hV => by simp [go_sem]) hSa ?_
            simp only [List.getElem_toArray, List.getElem_cons_zero, List.getElem_cons_succ, Act.put, List.setIfInBounds_toArray, List.set_cons_zero, List.set_cons_succ]
            refine wpAnyH_done (by kernel_rfl) ?_ _
            have hSF : Below w.heap.size w (Y0.alloc (.cells tI4 9)) := hSa
            generalize Y0.alloc (.cells tI4 9) = V at hSF ⊢
            exact hcont V hSF
        · --
          simp only [List.getElem_toArray, List.getElem_cons_zero, List.getElem_cons_succ, Act.put, List.setIfInBounds_toArray, List.set_cons_zero, List.set_cons_succ]
          refine step_call 1 29 #[.int .i64 k] (by kernel_rfl) rfl rfl (by simp [go_sem]) ?_
          refine (HH.out _).mono ?_
          rintro e Y1 ⟨rfl, rfl⟩
          refine ⟨_, rfl, hSa, ?_⟩
          simp only [List.getElem_toArray, List.getElem_cons_zero, List.getElem_cons_succ, Act.put, List.setIfInBounds_toArray, List.set_cons_zero, List.set_cons_succ]
          refine step_call 2 28 #[.int .i64 h] (by kernel_rfl) rfl rfl (by simp [go_sem]) ?_
          refine (HD.out _).mono ?_
          rintro e Y1 ⟨rfl, rfl⟩
          refine ⟨_, rfl, hSa, ?_⟩
          simp only [List.getElem_toArray, List.getElem_cons_zero, List.getElem_cons_succ, Act.put, List.setIfInBounds_toArray, List.set_cons_zero, List.set_cons_succ]
          refine take_val 3 (.string (dg h ++ ⟨#[58]⟩)) rfl (by kernel_rfl) (by kernel_rfl) (by kernel_rfl) (fun _ _ _ h => h) rfl (fun V hV => by simp [go_sem, hz1]) hSa ?_
          simp only [List.getElem_toArray, List.getElem_cons_zero, List.getElem_cons_succ, Act.put, List.setIfInBounds_toArray, List.set_cons_zero, List.set_cons_succ]
          refine take_val 9 (.string (dg h ++ ⟨#[58]⟩ ++ tI r)) rfl (by kernel_rfl) (by kernel_rfl) (by kernel_rfl) (fun _ _ _ h => h) rfl (fun V hV => by simp [go_sem, hz2, hz3]) hSa ?_
          simp only [List.getElem_toArray, List.getElem_cons_zero, List.getElem_cons_succ, Act.put, List.setIfInBounds_toArray, List.set_cons_zero, List.set_cons_succ]
          refine take_val 10 (.string (dg h ++ ⟨#[58]⟩ ++ tI r)) rfl (by kernel_rfl) (by kernel_rfl) (by kernel_rfl) (fun _ _ _ h => h) rfl (fun V hV => by simp [go_sem]) hSa ?_
          simp only [List.getElem_toArray, List.getElem_cons_zero, List.getElem_cons_succ, Act.put, List.setIfInBounds_toArray, List.set_cons_zero, List.set_cons_succ]
          refine wpAnyH_done (by kernel_rfl) ?_ _
          have hSF : Below w.heap.size w (Y0.alloc (.cells tI4 9)) := hSa
          generalize Y0.alloc (.cells tI4 9) = V at hSF ⊢
          exact hcont V hSF
    intro V hbV
    go_wp2
    go_ret
    exact ⟨by rw [HT.out, ← tIS]; rfl, hbV⟩
set_option maxHeartbeats 4000000 in
set_option maxRecDepth 100000 in
theorem specQuarterText_any (q : Int) (w : World) (hq : -9223372036854775808 ≤ q ∧ q ≤ 9223372036854775807) :
    Calls Tryd.prog 7 #[.int .i64 q] w fun e w' => e = .returned (.string (qt q)) ∧ Below w.heap.size w w' := by
  have hb0 : Below w.heap.size w (w.alloc (.cells tS4 9)) := (Below.refl _ _).alloc (Nat.le_refl _) _
  have HB0 := Lib.hid hb0
  have hrow := heap_alloc_new w (.cells tS4 9)
  have HROW := Lib.hid hrow; clear hrow hb0
  have hbs := fun W : World => (show (Instr.buildSlice 57 4 #[(0, .string ⟨#[58, 48, 48]⟩), (1, .string ⟨#[58, 49, 53]⟩), (2, .string ⟨#[58, 51, 48]⟩), (3, .string ⟨#[58, 52, 53]⟩)]).run Tryd.prog W = .ok (.slice (some ⟨W.heap.size, 0, none⟩) 4 4) (W.alloc (.cells tS4 9)) by kernel_rfl)
  cases hb : inB q 0 47
  · have HT := Lib.hid (qt_no hb)
    have HB := Lib.hid hb; clear hb
    go_enter Tryd.func7, Tryd.ntmps7
    go_wp2_with (go_at_call 24; refine (l4Q_any _ _).mono ?_; rw [HB.out]; rintro e w2 ⟨rfl, rfl⟩)
    go_ret
    exact ⟨by rw [HT.out]; rfl, HB0.out⟩
  · obtain ⟨h1, h2⟩ := inB_iff.1 hb
    obtain ⟨k, rfl⟩ : ∃ k : Nat, q = k := ⟨q.toNat, by omega⟩
    have hk : k < 48 := by omega
    have HT := Lib.hid (qt_yes hk)
    have hh := hr_le hk
    have hho := fun W => l04Hour_any k hk W
    obtain ⟨r1, r2⟩ := rem4 k
    obtain ⟨h, hhd⟩ : ∃ h, hr k = h := ⟨_, rfl⟩
    obtain ⟨r, hrd⟩ : ∃ r, k % 4 = r := ⟨_, rfl⟩
    rw [hhd] at HT hh hho
    rw [hrd] at HT r1 r2
    have hr4 : (r : Int) < 4 := by omega
    have hrn : r < 4 := by omega
    have HH := Lib.hid hho
    have HD := Lib.hid (fun W => specDec_any h (by omega) W)
    have qr := i64_id (x := (r : Int)) (by omega)
    have hdz := dg_sz (show h < 100 by omega)
    have htz := tS_sz r
    have hz2 : ¬ 9223372036854775807 < (dg h).size + (tS r).size := by omega
    have hz3 : (dg h).size + (tS r).size ≤ 9223372036854775807 := by omega
    clear hdz htz
    have HB := Lib.hid hb
    clear hho hhd hrd hb
    go_enter Tryd.func7, Tryd.ntmps7
    go_wp2_with (go_at_call 24; refine (l4Q_any _ _).mono ?_; rw [HB.out]; rintro e w2 ⟨rfl, rfl⟩)
    have hc0 : (w.alloc (.cells tS4 9)).cell? ⟨w.heap.size, r, none⟩ = some (.string (tS r)) := (row_cell r HROW.out).trans (tS4_at hrn)
    have hlt0 : w.heap.size < (w.alloc (.cells tS4 9)).heap.size := by simp
    have hbb := HB0.out
    rw [show (#[.string ⟨#[58, 48, 48]⟩, .string ⟨#[58, 49, 53]⟩, .string ⟨#[58, 51, 48]⟩, .string ⟨#[58, 52, 53]⟩] : Array Value) = tS4 from rfl]
    generalize w.alloc (.cells tS4 9) = W at hc0 hlt0 hbb ⊢
    have hS0 := below_drew W
    refine wp_region_S (fun V => Below W.heap.size W V) (by kernel_rfl) hS0 ?_
    refine take_val 0 (.int .i64 k) rfl (by kernel_rfl) (by kernel_rfl) (by kernel_rfl) (fun _ _ _ h => h) rfl (fun V hV => by simp [go_sem]) hS0 ?_
    simp only [List.getElem_toArray, List.getElem_cons_zero, List.getElem_cons_succ, Act.put, List.setIfInBounds_toArray, List.set_cons_zero, List.set_cons_succ]
    refine take_val 3 (.slice (some ⟨w.heap.size, 0, none⟩) 4 4) rfl (by kernel_rfl) (by kernel_rfl) (by kernel_rfl) (fun _ _ _ h => h) rfl (fun V hV => by simp [go_sem]) hS0 ?_
    simp only [List.getElem_toArray, List.getElem_cons_zero, List.getElem_cons_succ, Act.put, List.setIfInBounds_toArray, List.set_cons_zero, List.set_cons_succ]
    refine take_val 4 (.int .i64 k) rfl (by kernel_rfl) (by kernel_rfl) (by kernel_rfl) (fun _ _ _ h => h) rfl (fun V hV => by simp [go_sem]) hS0 ?_
    simp only [List.getElem_toArray, List.getElem_cons_zero, List.getElem_cons_succ, Act.put, List.setIfInBounds_toArray, List.set_cons_zero, List.set_cons_succ]
    refine take_val 5 (.int .i64 r) rfl (by kernel_rfl) (by kernel_rfl) (by kernel_rfl) (fun _ _ _ h => h) rfl (fun V hV => by simp [go_sem, r1, r2, qr]) hS0 ?_
    simp only [List.getElem_toArray, List.getElem_cons_zero, List.getElem_cons_succ, Act.put, List.setIfInBounds_toArray, List.set_cons_zero, List.set_cons_succ]
    refine take_val 6 (.pointer (some ⟨w.heap.size, r, none⟩)) rfl (by kernel_rfl) (by kernel_rfl) (by kernel_rfl) (fun _ _ _ h => h) rfl (fun V hV => by simp [go_sem, hr4]) hS0 ?_
    simp only [List.getElem_toArray, List.getElem_cons_zero, List.getElem_cons_succ, Act.put, List.setIfInBounds_toArray, List.set_cons_zero, List.set_cons_succ]
    refine take_val 7 (.string (tS r)) rfl (by kernel_rfl) (by kernel_rfl) (by kernel_rfl) (fun _ _ _ h => h) rfl (fun V hV => by have c := (hV.cell (p := ⟨w.heap.size, r, none⟩) hlt0).trans hc0; simp [go_sem, c]) hS0 ?_
    simp only [List.getElem_toArray, List.getElem_cons_zero, List.getElem_cons_succ, Act.put, List.setIfInBounds_toArray, List.set_cons_zero, List.set_cons_succ]
    refine step_call 1 26 #[.int .i64 k] (by kernel_rfl) rfl rfl (by simp [go_sem]) ?_
    refine (HH.out _).mono ?_
    rintro e w3 ⟨rfl, rfl⟩
    refine ⟨_, rfl, hS0, ?_⟩
    simp only [List.getElem_toArray, List.getElem_cons_zero, List.getElem_cons_succ, Act.put, List.setIfInBounds_toArray, List.set_cons_zero, List.set_cons_succ]
    refine step_call 2 25 #[.int .i64 h] (by kernel_rfl) rfl rfl (by simp [go_sem]) ?_
    refine (HD.out _).mono ?_
    rintro e w4 ⟨rfl, hb4⟩
    refine ⟨_, rfl, hS0.trans (hb4.mono hS0.size), ?_⟩
    simp only [List.getElem_toArray, List.getElem_cons_zero, List.getElem_cons_succ, Act.put, List.setIfInBounds_toArray, List.set_cons_zero, List.set_cons_succ]
    have hS4 := hS0.trans (hb4.mono hS0.size)
    refine take_val 8 (.string (dg h ++ tS r)) rfl (by kernel_rfl) (by kernel_rfl) (by kernel_rfl) (fun _ _ _ h => h) rfl (fun V hV => by simp [go_sem, hz2, hz3]) hS4 ?_
    simp only [List.getElem_toArray, List.getElem_cons_zero, List.getElem_cons_succ, Act.put, List.setIfInBounds_toArray, List.set_cons_zero, List.set_cons_succ]
    refine take_val 9 (.string (dg h ++ tS r)) rfl (by kernel_rfl) (by kernel_rfl) (by kernel_rfl) (fun _ _ _ h => h) rfl (fun V hV => by simp [go_sem]) hS4 ?_
    simp only [List.getElem_toArray, List.getElem_cons_zero, List.getElem_cons_succ, Act.put, List.setIfInBounds_toArray, List.set_cons_zero, List.set_cons_succ]
    refine wpAnyH_done (by kernel_rfl) ?_ _
    go_wp2
    go_ret
    exact ⟨by rw [HT.out]; rfl, hbb.trans (hS4.mono hbb.size)⟩
end Go.Proofs.YteboefffkpcnaaaDoor
