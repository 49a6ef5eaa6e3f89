/- The law of ChangeCost: the walk. No conditions. -/
import Derived.Test.YtofmhpbilajjaaaCC
import Derived.Test.YtofmhpbilajjaaaHam
import Derived.Test.YtofmhpbilajjaaaHeld
import Derived.Outline
namespace Go.Proofs.Ytofmhpbilajjaaa
open Go.RowKit
set_option linter.unusedVariables false
set_option linter.unusedSimpArgs false

theorem arr_range {w : World} {T g : Nat} {D : Nat → Nat} (h : DrumAt w T g D) : w.rangeAt g 0 (dc D).toList := h.cells.range

set_option maxRecDepth 100000 in
set_option maxHeartbeats 4000000 in
theorem lawChangeCost (s : Int) (a : Option Addr) (n c : Nat) (P R : Nat → Int) (D E : Nat → Nat) (w : World) (hn : n ≤ 9223372036854775807) (hs : -32768 ≤ s ∧ s ≤ 32767) (hP : I8 P) (hR : I8 R) (hh : HamIn w a n P R) (hD : D32 D) (hE : D32 E) :
    Calls Try.prog 6 #[.agg #[.int .i16 s, .slice a n c], .agg (dc D), .agg (dc E)] w fun e w' => e = .returned (.bool true) ∧ Below w.heap.size w w' := by
  have hb0 : Below w.heap.size w (((w.alloc (.cells #[.int .i16 s, .slice a n c] 53)).alloc (.cells (dc D) 55)).alloc (.cells (dc E) 55)) := (((Below.refl _ _).alloc (Nat.le_refl _) _).alloc (by simp) _).alloc (by simp; omega) _
  have HB0 := Lib.hid hb0; have HP := Lib.hid hP; have HR := Lib.hid hR; have HH := Lib.hid hh
  clear hb0 hP hR hh
  by_cases hl : (1048576 : Int) < n
  · go_enter Try.func6, Try.ntmps6
    go_wp2_with (go_at_call 31; refine (szFrame_any s a n c 1048576 _ (by omega) (by omega)).mono ?_; rw [szOf_lt hl]; rintro e w1 ⟨rfl, hb1⟩)
    go_ret
    exact ⟨rfl, HB0.out.trans (hb1.mono (by simp <;> omega))⟩
  · have hn' : n ≤ 1048576 := by omega
    go_enter Try.func6, Try.ntmps6
    go_wp2_with (go_at_call 31; refine (szFrame_any s a n c 1048576 _ (by omega) (by omega)).mono ?_; rw [szOf_ge (by omega)]; rintro e w1 ⟨rfl, hb1⟩)
    have hg1 := ((DrumAt.new2 w (.cells #[.int .i16 s, .slice a n c] 53) 55 D).alloc (.cells (dc E) 55)).below hb1 (by simp)
    have hg2 := (DrumAt.new3 w (.cells #[.int .i16 s, .slice a n c] 53) (.cells (dc D) 55) 55 E).below hb1 (by simp)
    have hg0 : w1.heap[w.heap.size]? = some (.cells #[.int .i16 s, .slice a n c] 53 (0, 0)) := (hb1.block w.heap.size (by simp; omega)).trans (((Below.heap_alloc _ _ _ (by simp; omega)).trans (Below.heap_alloc _ _ _ (by simp))).trans (heap_alloc_new w _))
    have hz : w.heap.size + 1 + 1 + 1 ≤ w1.heap.size := by have := hb1.size; simpa using this
    have hb2 : Below w.heap.size w w1 := HB0.out.trans (hb1.mono (by simp <;> omega))
    have HG0 := Lib.hid hg0; have HG1 := Lib.hid hg1; have HG2 := Lib.hid hg2; have HB2 := Lib.hid hb2; have HZ := Lib.hid hz
    clear hg0 hg1 hg2 hb2 hz hb1
    refine wp_region_S (fun W => Below w1.heap.size w1 W) (by kernel_rfl) (Below.refl _ _).drew ?_
    refine take_val 0 (.agg #[.int .i16 s, .slice a n c]) rfl (by kernel_rfl) (by kernel_rfl) (by kernel_rfl) (fun _ _ _ h => h) rfl ?_ (Below.refl _ _).drew ?_
    · intro W hW
      have d0 := cell_of_row W w.heap.size 0 _ _ _ ((hW.block w.heap.size (by have := HZ.out; omega)).trans HG0.out)
      have d1 := cell_of_row W w.heap.size 1 _ _ _ ((hW.block w.heap.size (by have := HZ.out; omega)).trans HG0.out)
      simp [go_sem, d0, d1]
    simp only [List.getElem_toArray, List.getElem_cons_zero, List.getElem_cons_succ, Act.put, List.setIfInBounds_toArray, List.set_cons_zero, List.set_cons_succ]
    refine take_val 2 (.agg (dc D)) rfl (by kernel_rfl) (by kernel_rfl) (by kernel_rfl) (fun _ _ _ h => h) rfl (fun W hW => ex_load_arr _ rfl (w.heap.size + 1) rfl _ D (HG1.out.below hW (by have := HZ.out; omega))) (Below.refl _ _).drew ?_
    simp only [List.getElem_toArray, List.getElem_cons_zero, List.getElem_cons_succ, Act.put, List.setIfInBounds_toArray, List.set_cons_zero, List.set_cons_succ]
    refine take_val 4 (.agg (dc E)) rfl (by kernel_rfl) (by kernel_rfl) (by kernel_rfl) (fun _ _ _ h => h) rfl (fun W hW => ex_load_arr _ rfl (w.heap.size + 1 + 1) rfl _ E (HG2.out.below hW (by have := HZ.out; omega))) (Below.refl _ _).drew ?_
    simp only [List.getElem_toArray, List.getElem_cons_zero, List.getElem_cons_succ, Act.put, List.setIfInBounds_toArray, List.set_cons_zero, List.set_cons_succ]
    refine step_call 1 33 #[.agg #[.int .i16 s, .slice a n c]] (by kernel_rfl) rfl rfl (by simp [go_sem]) ?_
    refine (toFrame_any s a n c P R w1.drew hn' hs (HH.out.below (w' := w1.drew) HB2.out.drew)).mono ?_
    rintro e w2 ⟨rfl, hb2, f, hB, hF⟩
    have hq2 : Below w1.heap.size w1 w2 := (Below.refl _ _).drew.trans hb2
    refine ⟨_, rfl, hq2, ?_⟩
    simp only [List.getElem_toArray, List.getElem_cons_zero, List.getElem_cons_succ, Act.put, List.setIfInBounds_toArray, List.set_cons_zero, List.set_cons_succ]
    refine step_call 3 34 #[.agg (dc D)] (by kernel_rfl) rfl rfl (by simp [go_sem]) ?_
    refine (toDrum_any D w2).mono ?_
    rintro e w3 ⟨rfl, hb3⟩
    have hq3 : Below w1.heap.size w1 w3 := hq2.trans (hb3.mono hq2.size)
    refine ⟨_, rfl, hq3, ?_⟩
    simp only [List.getElem_toArray, List.getElem_cons_zero, List.getElem_cons_succ, Act.put, List.setIfInBounds_toArray, List.set_cons_zero, List.set_cons_succ]
    refine step_call 5 34 #[.agg (dc E)] (by kernel_rfl) rfl rfl (by simp [go_sem]) ?_
    refine (toDrum_any E w3).mono ?_
    rintro e w4 ⟨rfl, hb4⟩
    have hq4 : Below w1.heap.size w1 w4 := hq3.trans (hb4.mono hq3.size)
    refine ⟨_, rfl, hq4, ?_⟩
    simp only [List.getElem_toArray, List.getElem_cons_zero, List.getElem_cons_succ, Act.put, List.setIfInBounds_toArray, List.set_cons_zero, List.set_cons_succ]
    have hF4 : HamAt w4 (some ⟨w1.drew.heap.size + 1 + 1 + 1, 0, none⟩) n P R := ((hF.at hB).below (hb3.trans (hb4.mono hb3.size)))
    refine step_call 6 32 #[.agg #[.int .i16 s, .slice (some ⟨w1.drew.heap.size + 1 + 1 + 1, 0, none⟩) n n], .agg (dc D), .agg (dc E)] (by kernel_rfl) rfl rfl (by simp [go_sem]) ?_
    refine (specChangeCost_any s _ n n P R D E w4 (by omega) hs HP.out HR.out hD hE hF4 (fun i => if i = 0 then D else E) rfl rfl).mono ?_
    rintro e w5 ⟨rfl, hb5⟩
    have hq5 : Below w1.heap.size w1 w5 := hq4.trans (hb5.mono hq4.size)
    refine ⟨_, rfl, hq5, ?_⟩
    simp only [List.getElem_toArray, List.getElem_cons_zero, List.getElem_cons_succ, Act.put, List.setIfInBounds_toArray, List.set_cons_zero, List.set_cons_succ]
    generalize hok : okAll s n P R 2 (fun i => if i = 0 then D else E) = ok
    generalize hco : (sel ok (cnt (lessD D E) + cnt (lessD E D) : Nat)) = co
    generalize hcd : unl ok 1 = cd
    refine take_val 7 (.tuple #[.int .i64 co, .int .i64 cd]) rfl (by kernel_rfl) (by kernel_rfl) (by kernel_rfl) (fun _ _ _ h => h) rfl (fun W _ => by simp [go_sem]) hq5 ?_
    simp only [List.getElem_toArray, List.getElem_cons_zero, List.getElem_cons_succ, Act.put, List.setIfInBounds_toArray, List.set_cons_zero, List.set_cons_succ]
    refine take_val 8 (.int .i64 co) rfl (by kernel_rfl) (by kernel_rfl) (by kernel_rfl) (fun _ _ _ h => h) rfl (fun W _ => by simp [go_sem]) hq5 ?_
    simp only [List.getElem_toArray, List.getElem_cons_zero, List.getElem_cons_succ, Act.put, List.setIfInBounds_toArray, List.set_cons_zero, List.set_cons_succ]
    refine take_val 9 (.int .i64 cd) rfl (by kernel_rfl) (by kernel_rfl) (by kernel_rfl) (fun _ _ _ h => h) rfl (fun W _ => by simp [go_sem]) hq5 ?_
    simp only [List.getElem_toArray, List.getElem_cons_zero, List.getElem_cons_succ, Act.put, List.setIfInBounds_toArray, List.set_cons_zero, List.set_cons_succ]
    refine take_val 10 (.int .i64 co) rfl (by kernel_rfl) (by kernel_rfl) (by kernel_rfl) (fun _ _ _ h => h) rfl (fun W _ => by simp [go_sem]) hq5 ?_
    simp only [List.getElem_toArray, List.getElem_cons_zero, List.getElem_cons_succ, Act.put, List.setIfInBounds_toArray, List.set_cons_zero, List.set_cons_succ]
    refine take_val 11 (.int .i64 cd) rfl (by kernel_rfl) (by kernel_rfl) (by kernel_rfl) (fun _ _ _ h => h) rfl (fun W _ => by simp [go_sem]) hq5 ?_
    simp only [List.getElem_toArray, List.getElem_cons_zero, List.getElem_cons_succ, Act.put, List.setIfInBounds_toArray, List.set_cons_zero, List.set_cons_succ]
    refine wpAnyH_done (by kernel_rfl) ?_ _
    have HQ5 := Lib.hid hq5; have HOK := Lib.hid hok; have HCO := Lib.hid hco; have HCD := Lib.hid hcd
    clear hok hF4 hF hB hb2 hb3 hb4 hb5 hq2 hq3 hq4 hq5 hco hcd
    have hg0 := (HQ5.out.block w.heap.size (by have := HZ.out; omega)).trans HG0.out
    have d0 := cell_of_row w5 w.heap.size 0 _ _ _ hg0
    have d1 := cell_of_row w5 w.heap.size 1 _ _ _ hg0
    clear hg0
    go_wp2_with (go_at_call 33; refine (toFrame_any s a n c P R w5 hn' hs (HH.out.below (HB2.out.trans (HQ5.out.mono (by have := HZ.out; omega))))).mono ?_; rintro e w6 ⟨rfl, hb6, f6, hB6, hF6⟩)
    have hf7 := FrameAt.new w6 s (some ⟨w5.heap.size + 1 + 1 + 1, 0, none⟩) n n
    have hb7 : Below w6.heap.size w6 (w6.alloc (.cells #[.int .i16 s, .slice (some ⟨w5.heap.size + 1 + 1 + 1, 0, none⟩) n n] 61)) := (Below.refl _ _).alloc (Nat.le_refl _) _
    have hh7 := (hF6.at hB6).below hb7
    have hq7 := (HQ5.out.trans (hb6.mono HQ5.out.size)).trans (hb7.mono (by have := HQ5.out.size; have := hb6.size; omega))
    generalize (w6.alloc (.cells #[.int .i16 s, .slice (some ⟨w5.heap.size + 1 + 1 + 1, 0, none⟩) n n] 61)) = w7 at hf7 hb7 hh7 hq7 ⊢
    have hl6 := hf7.lt
    have hl5 : w1.heap.size ≤ w6.heap.size := by have := HQ5.out.size; have := hb6.size; omega
    have HF7 := Lib.hid hf7; have HH7 := Lib.hid hh7; have HQ7 := Lib.hid hq7
    clear hf7 hb7 hh7 hq7 hb6 hB6 hF6 d0 d1
    refine wp_region_S (fun W => Below w7.heap.size w7 W) (by kernel_rfl) (Below.refl _ _).drew ?_
    refine take_val 0 (.agg #[.int .i16 s, .slice (some ⟨w5.heap.size + 1 + 1 + 1, 0, none⟩) n n]) rfl (by kernel_rfl) (by kernel_rfl) (by kernel_rfl) (fun _ _ _ h => h) rfl ?_ (Below.refl _ _).drew ?_
    · intro W hW
      have d0 := (HF7.out.below hW hl6).c0
      have d1 := (HF7.out.below hW hl6).c1
      simp [go_sem, d0, d1]
    simp only [List.getElem_toArray, List.getElem_cons_zero, List.getElem_cons_succ, Act.put, List.setIfInBounds_toArray, List.set_cons_zero, List.set_cons_succ]
    refine take_val 1 (.agg (dc D)) rfl (by kernel_rfl) (by kernel_rfl) (by kernel_rfl) (fun _ _ _ h => h) rfl (fun W hW => ex_load_arr _ rfl (w.heap.size + 1) rfl _ D (HG1.out.below (HQ7.out.trans (hW.mono (by omega))) (by have := HZ.out; omega))) (Below.refl _ _).drew ?_
    simp only [List.getElem_toArray, List.getElem_cons_zero, List.getElem_cons_succ, Act.put, List.setIfInBounds_toArray, List.set_cons_zero, List.set_cons_succ]
    refine take_val 3 (.agg (dc E)) rfl (by kernel_rfl) (by kernel_rfl) (by kernel_rfl) (fun _ _ _ h => h) rfl (fun W hW => ex_load_arr _ rfl (w.heap.size + 1 + 1) rfl _ E (HG2.out.below (HQ7.out.trans (hW.mono (by omega))) (by have := HZ.out; omega))) (Below.refl _ _).drew ?_
    simp only [List.getElem_toArray, List.getElem_cons_zero, List.getElem_cons_succ, Act.put, List.setIfInBounds_toArray, List.set_cons_zero, List.set_cons_succ]
    refine step_call 2 34 #[.agg (dc D)] (by kernel_rfl) rfl rfl (by simp [go_sem]) ?_
    refine (toDrum_any D _).mono ?_
    rintro e w8 ⟨rfl, hb8⟩
    have hq8 : Below w7.heap.size w7 w8 := (Below.refl _ _).drew.trans hb8
    refine ⟨_, rfl, hq8, ?_⟩
    simp only [List.getElem_toArray, List.getElem_cons_zero, List.getElem_cons_succ, Act.put, List.setIfInBounds_toArray, List.set_cons_zero, List.set_cons_succ]
    refine step_call 4 34 #[.agg (dc E)] (by kernel_rfl) rfl rfl (by simp [go_sem]) ?_
    refine (toDrum_any E _).mono ?_
    rintro e w9 ⟨rfl, hb9⟩
    have hq9 : Below w7.heap.size w7 w9 := hq8.trans (hb9.mono hq8.size)
    refine ⟨_, rfl, hq9, ?_⟩
    simp only [List.getElem_toArray, List.getElem_cons_zero, List.getElem_cons_succ, Act.put, List.setIfInBounds_toArray, List.set_cons_zero, List.set_cons_succ]
    refine step_call 5 35 #[.agg #[.int .i16 s, .slice (some ⟨w5.heap.size + 1 + 1 + 1, 0, none⟩) n n], .agg (dc D), .agg (dc E)] (by kernel_rfl) rfl rfl (by simp [go_sem]) ?_
    refine (implChangeCost_any s _ n n P R D E w9 (by omega) hs HP.out HR.out hD hE (HH7.out.below hq9) (fun i => if i = 0 then D else E) rfl rfl).mono ?_
    rintro e w10 ⟨rfl, hb10⟩
    have hq10 : Below w7.heap.size w7 w10 := hq9.trans (hb10.mono hq9.size)
    refine ⟨_, rfl, hq10, ?_⟩
    simp only [List.getElem_toArray, List.getElem_cons_zero, List.getElem_cons_succ, Act.put, List.setIfInBounds_toArray, List.set_cons_zero, List.set_cons_succ]
    rw [HOK.out, HCO.out, HCD.out]
    refine take_val 6 (.tuple #[.int .i64 co, .int .i64 cd]) rfl (by kernel_rfl) (by kernel_rfl) (by kernel_rfl) (fun _ _ _ h => h) rfl (fun W _ => by simp [go_sem]) hq10 ?_
    simp only [List.getElem_toArray, List.getElem_cons_zero, List.getElem_cons_succ, Act.put, List.setIfInBounds_toArray, List.set_cons_zero, List.set_cons_succ]
    refine take_val 7 (.int .i64 co) rfl (by kernel_rfl) (by kernel_rfl) (by kernel_rfl) (fun _ _ _ h => h) rfl (fun W _ => by simp [go_sem]) hq10 ?_
    simp only [List.getElem_toArray, List.getElem_cons_zero, List.getElem_cons_succ, Act.put, List.setIfInBounds_toArray, List.set_cons_zero, List.set_cons_succ]
    refine take_val 8 (.int .i64 cd) rfl (by kernel_rfl) (by kernel_rfl) (by kernel_rfl) (fun _ _ _ h => h) rfl (fun W _ => by simp [go_sem]) hq10 ?_
    simp only [List.getElem_toArray, List.getElem_cons_zero, List.getElem_cons_succ, Act.put, List.setIfInBounds_toArray, List.set_cons_zero, List.set_cons_succ]
    refine take_val 9 (.int .i64 co) rfl (by kernel_rfl) (by kernel_rfl) (by kernel_rfl) (fun _ _ _ h => h) rfl (fun W _ => by simp [go_sem]) hq10 ?_
    simp only [List.getElem_toArray, List.getElem_cons_zero, List.getElem_cons_succ, Act.put, List.setIfInBounds_toArray, List.set_cons_zero, List.set_cons_succ]
    refine take_val 10 (.int .i64 cd) rfl (by kernel_rfl) (by kernel_rfl) (by kernel_rfl) (fun _ _ _ h => h) rfl (fun W _ => by simp [go_sem]) hq10 ?_
    simp only [List.getElem_toArray, List.getElem_cons_zero, List.getElem_cons_succ, Act.put, List.setIfInBounds_toArray, List.set_cons_zero, List.set_cons_succ]
    refine wpAnyH_done (by kernel_rfl) ?_ _
    have HQ10 := Lib.hid hq10
    clear hb8 hb9 hb10 hq8 hq9 hq10
    go_wp2
    refine wp_region_S (fun W => Below w10.heap.size w10 W) (by kernel_rfl) (Below.refl _ _).drew ?_
    have hl10 : w7.heap.size ≤ w10.heap.size := HQ10.out.size
    have hfr10 := HF7.out.below HQ10.out hl6
    have hg10 := (HQ10.out.block w.heap.size (by have := HZ.out; omega)).trans ((HQ7.out.block w.heap.size (by have := HZ.out; omega)).trans HG0.out)
    have HFR := Lib.hid hfr10; have HG10 := Lib.hid hg10
    clear hfr10 hg10
    refine take_val 0 (.agg #[.int .i16 s, .slice (some ⟨w5.heap.size + 1 + 1 + 1, 0, none⟩) n n]) rfl (by kernel_rfl) (by kernel_rfl) (by kernel_rfl) (fun _ _ _ h => h) rfl ?_ (Below.refl _ _).drew ?_
    · intro W hW
      have d0 := (HFR.out.below hW (by omega)).c0
      have d1 := (HFR.out.below hW (by omega)).c1
      simp [go_sem, d0, d1]
    simp only [List.getElem_toArray, List.getElem_cons_zero, List.getElem_cons_succ, Act.put, List.setIfInBounds_toArray, List.set_cons_zero, List.set_cons_succ]
    refine take_val 1 (.agg #[.int .i16 s, .slice a n c]) rfl (by kernel_rfl) (by kernel_rfl) (by kernel_rfl) (fun _ _ _ h => h) rfl ?_ (Below.refl _ _).drew ?_
    · intro W hW
      have d0 := cell_of_row W w.heap.size 0 _ _ _ ((hW.block w.heap.size (by have := HZ.out; omega)).trans HG10.out)
      have d1 := cell_of_row W w.heap.size 1 _ _ _ ((hW.block w.heap.size (by have := HZ.out; omega)).trans HG10.out)
      simp [go_sem, d0, d1]
    simp only [List.getElem_toArray, List.getElem_cons_zero, List.getElem_cons_succ, Act.put, List.setIfInBounds_toArray, List.set_cons_zero, List.set_cons_succ]
    have hb10 : Below w.heap.size w w10 := (HB2.out.trans (HQ7.out.mono (by have := HZ.out; omega))).trans (HQ10.out.mono (by have := HZ.out; omega))
    refine step_call 2 33 #[.agg #[.int .i16 s, .slice a n c]] (by kernel_rfl) rfl rfl (by simp [go_sem]) ?_
    refine (toFrame_any s a n c P R w10.drew hn' hs (HH.out.below (w' := w10.drew) hb10.drew)).mono ?_
    rintro e w11 ⟨rfl, hb11, f11, hB11, hF11⟩
    have hq11 : Below w10.heap.size w10 w11 := (Below.refl _ _).drew.trans hb11
    refine ⟨_, rfl, hq11, ?_⟩
    simp only [List.getElem_toArray, List.getElem_cons_zero, List.getElem_cons_succ, Act.put, List.setIfInBounds_toArray, List.set_cons_zero, List.set_cons_succ]
    refine step_call 3 36 #[.agg #[.int .i16 s, .slice (some ⟨w5.heap.size + 1 + 1 + 1, 0, none⟩) n n], .agg #[.int .i16 s, .slice (some ⟨w10.drew.heap.size + 1 + 1 + 1, 0, none⟩) n n]] (by kernel_rfl) rfl rfl (by simp [go_sem]) ?_
    refine (eqFrame_any s _ _ n n n P R w11 (by omega) ((HH7.out.below HQ10.out).below hq11) (hF11.at hB11)).mono ?_
    rintro e w12 ⟨rfl, hb12⟩
    have hq12 : Below w10.heap.size w10 w12 := hq11.trans (hb12.mono hq11.size)
    refine ⟨_, rfl, hq12, ?_⟩
    simp only [List.getElem_toArray, List.getElem_cons_zero, List.getElem_cons_succ, Act.put, List.setIfInBounds_toArray, List.set_cons_zero, List.set_cons_succ]
    refine take_val 4 (.bool false) rfl (by kernel_rfl) (by kernel_rfl) (by kernel_rfl) (fun _ _ _ h => h) rfl (fun W _ => by simp [go_sem]) hq12 ?_
    simp only [List.getElem_toArray, List.getElem_cons_zero, List.getElem_cons_succ, Act.put, List.setIfInBounds_toArray, List.set_cons_zero, List.set_cons_succ]
    refine wpAnyH_done (by kernel_rfl) ?_ _
    have HE := Lib.hid (hb10.trans (hq12.mono (by have := HZ.out; omega)))
    clear hb10 hb11 hb12 hq11 hq12 hB11 hF11
    go_wp2
    go_ret
    exact ⟨rfl, HE.out⟩
end Go.Proofs.Ytofmhpbilajjaaa
