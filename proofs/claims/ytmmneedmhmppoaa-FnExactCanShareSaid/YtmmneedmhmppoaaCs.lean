/- CanShare, by the reference and by the program. No conditions. -/
import Derived.Test.YtmmneedmhmppoaaCl
import Derived.Test.YtmmneedmhmppoaaUni
import Derived.Test.YtmmneedmhmppoaaHeld2
import Derived.Outline
namespace Go.Proofs.Ytmmneedmhmppoaa
open Go.RowKit
set_option linter.unusedVariables false
set_option linter.unusedSimpArgs false

/-- no clash in a drum -/
def freeB (m : Nat) (R : Nat → Int) (n : Nat) (D : Nat → Nat) : Bool := decide ((plL (clB m R D) n (m * n)).length = 0)
theorem freeB_def (m : Nat) (R : Nat → Int) (n : Nat) (D : Nat → Nat) : freeB m R n D = decide ((plL (clB m R D) n (m * n)).length = 0) := rfl
attribute [irreducible] freeB
def csV (s : Int) (n : Nat) (P R : Nat → Int) (D E : Nat → Nat) : Bool := ok2 s n P R D E && freeB s.toNat R n (unionTo (twoL D E) 2)
theorem csV_no {s : Int} {n : Nat} {P R : Nat → Int} {D E : Nat → Nat} (h : ok2 s n P R D E = false) : csV s n P R D E = false := by unfold csV; rw [h]; rfl
theorem csV_yes {s : Int} {n : Nat} {P R : Nat → Int} {D E : Nat → Nat} (h : ok2 s n P R D E = true) : csV s n P R D E = freeB s.toNat R n (unionTo (twoL D E) 2) := by unfold csV; rw [h]; rfl
attribute [irreducible] csV
theorem twoL_32 {D E : Nat → Nat} (hD : D32 D) (hE : D32 E) : L32 (twoL D E) := by
  intro i
  unfold twoL
  split
  · exact hD
  · exact hE
theorem ex_build2 {o : Oper} {a : Act} {w : World} (x y : Operand) (ho : o.op = .buildSlice 89 2 #[(0, x), (1, y)]) (D E : Nat → Nat) (hx : a.eval x = .agg (dc D)) (hy : a.eval y = .agg (dc E)) :
    (execOp a.eval o).run Try.prog w = .ok (.value (.slice (some ⟨w.heap.size, 0, none⟩) 2 2)) (w.alloc (.cells (dc D ++ dc E) 45)) := by
  have hm : (#[(0, x), (1, y)] : Array (Nat × Operand)).map (fun (i, y) => (i, a.eval y)) = #[(0, .agg (dc D)), (1, .agg (dc E))] := by simp [hx, hy]
  simp only [execOp, ho, hm, Sem.run_bind, run_build2, Result.andThen_ok]
  rfl
theorem eq0_dec (x : Nat) : ((x : Int) == 0) = decide (x = 0) := by rw [Bool.eq_iff_iff]; simp
theorem freeB_len {m : Nat} {R : Nat → Int} {n : Nat} {D : Nat → Nat} {x : Nat} (h : (plL (clB m R D) n (m * n)).length = x) : freeB m R n D = decide (x = 0) := by rw [freeB_def, h]
set_option maxRecDepth 100000 in
theorem l05Share_any (gf Tf : Nat) (k : Nat) (a : Option Addr) (n c : Nat) (P R : Nat → Int) (b : Option Addr) (m d : Nat) (L : Nat → Nat → Nat) (w : World) (hk : 2 ≤ k ∧ k ≤ 96) (hn : 1 ≤ n ∧ n ≤ 24) (hm : m ≤ 1048576) (hL : L32 L) (hR : I8 R)
    (hf : w.heap[gf]? = some (.cells #[.int .i16 (k : Int), .slice a n c] Tf (0, 0))) (hl : DrumsAt w b m L) (hh : HamAt w a n P R) :
    Calls Try.prog 86 #[.pointer (some ⟨gf, 0, none⟩), .slice b m d] w fun e w' => e = .returned (.bool (freeB k R n (unionTo L m))) ∧ Below w.heap.size w w' := by
  have HL := Lib.hid hL; have HR := Lib.hid hR; clear hL hR
  have KB := Kp.base w
  have KF := kp_row hf; have KL := kp_drums hl; have KH := kp_ham hh; clear hf hl hh
  go_enter Try.func86, Try.ntmps86
  go_wp2_with fail
  refine (l05Union_any b m d L w hm HL.out KL.here).mono ?_
  rintro e w1 ⟨rfl, hb1⟩
  replace KB := KB.on hb1
  replace KF := KF.on hb1
  replace KH := KH.on hb1
  clear KL hb1
  have hu := unionTo_32 HL.out m
  obtain ⟨U, hU⟩ : ∃ U, unionTo L m = U := ⟨_, rfl⟩
  rw [hU] at hu ⊢
  have HU := Lib.hid hu; have HE := Lib.hid hU; clear hu hU
  go_wp2_with (with_reducible refine copy_drum rfl rfl rfl _ _ rfl U rfl rfl ?_; intro W2 hb2 hz2 hg2; have HB2 := Lib.hid hb2; have HZ2 := Lib.hid hz2; have HG2 := Lib.hid hg2; clear hb2 hz2 hg2)
  have hb2 := HB2.out
  replace KB := KB.on hb2
  replace KF := KF.on hb2
  replace KH := KH.on hb2
  clear hb2
  refine (l02Clashes_any gf w1.heap.size Tf 45 k a n c P R U W2 hk hn HU.out HR.out KF.here HG2.out KH.here).mono ?_
  rintro e w3 ⟨v, rfl, hb3, hown⟩
  replace KB := KB.on hb3
  obtain ⟨b1, c1, rfl⟩ := OwnL.form hown
  obtain ⟨x, hx⟩ : ∃ x, (plL (clB k R U) n (k * n)).length = x := ⟨_, rfl⟩
  have HX := Lib.hid (freeB_len hx)
  rw [hx]
  clear hown hx
  have heq := eq0_dec x
  have hb4 := KB.here
  go_wp2
  go_ret
  exact ⟨ret_bool (by rw [HE.out, HX.out]), hb4⟩
set_option maxRecDepth 100000 in
theorem implCanShare_any (s : Int) (a : Option Addr) (n c : Nat) (P R : Nat → Int) (D E : Nat → Nat) (w : World) (hs : -32768 ≤ s ∧ s ≤ 32767) (hn : n ≤ 1048576) (hP : I8 P) (hR : I8 R) (hh : HamAt w a n P R) (hD : D32 D) (hE : D32 E) :
    Calls Try.prog 33 #[.agg #[.int .i16 s, .slice a n c], .agg (dc D), .agg (dc E)] w fun e w' => e = .returned (.tuple #[.bool (csV s n P R D E), .int .i64 (unl (ok2 s n P R D E) 1)]) ∧ Below w.heap.size w w' := by
  have HP := Lib.hid hP; have HR := Lib.hid hR; have HD := Lib.hid hD; have HE := Lib.hid hE; clear hP hR hD hE
  have KB := Kp.base w; have KH := kp_ham hh; clear hh
  replace KB := KB.alloc (.cells #[.int .i16 s, .slice a n c] 43)
  replace KH := KH.alloc (.cells #[.int .i16 s, .slice a n c] 43)
  have KF := kp_new1 w #[.int .i16 s, .slice a n c] 43 (g := w.heap.size) (by simp)
  replace KB := KB.alloc (.cells (dc D) 45)
  replace KH := KH.alloc (.cells (dc D) 45)
  replace KF := KF.alloc (.cells (dc D) 45)
  have KD := kp_newd (w.alloc (.cells #[.int .i16 s, .slice a n c] 43)) (D) 45 (g := w.heap.size + 1) (by simp)
  replace KB := KB.alloc (.cells (dc E) 45)
  replace KH := KH.alloc (.cells (dc E) 45)
  replace KF := KF.alloc (.cells (dc E) 45)
  replace KD := KD.alloc (.cells (dc E) 45)
  have KE := kp_newd ((w.alloc (.cells #[.int .i16 s, .slice a n c] 43)).alloc (.cells (dc D) 45)) (E) 45 (g := w.heap.size + 1 + 1) (by simp)
  have HZ := Lib.hid (show (((w.alloc (.cells #[.int .i16 s, .slice a n c] 43)).alloc (.cells (dc D) 45)).alloc (.cells (dc E) 45)).heap.size = w.heap.size + 1 + 1 + 1 by simp)
  go_enter Try.func33, Try.ntmps33
  go_wp2_with (first | (with_reducible refine load_iframe rfl _ rfl w.heap.size rfl _ s a n c KF.here ?_) | (with_reducible refine load_drum rfl _ rfl (w.heap.size + 1) rfl _ D KD.here ?_) | (with_reducible refine load_drum rfl _ rfl (w.heap.size + 1 + 1) rfl _ E KE.here ?_) | (with_reducible refine build2 rfl _ _ rfl D E rfl rfl ?_))
  generalize (((w.alloc (.cells #[.int .i16 s, .slice a n c] 43)).alloc (.cells (dc D) 45)).alloc (.cells (dc E) 45)) = W at KB KH KF KD KE HZ ⊢
  have hz := HZ.out
  have hl := DrumsAt.two W D E (twoL D E) rfl rfl
  rw [hz] at hl
  refine (drumCode_any s a n c P R _ 2 2 (twoL D E) _ (by omega) (by omega) hs HP.out HR.out (KH.alloc _).here hl).mono ?_
  rw [← ok2_def]
  rintro e w1 ⟨rfl, hb1⟩
  replace KB := (KB.alloc (.cells (dc D ++ dc E) 45)).on hb1
  replace KH := (KH.alloc (.cells (dc D ++ dc E) 45)).on hb1
  replace KF := (KF.alloc (.cells (dc D ++ dc E) 45)).on hb1
  replace KD := (KD.alloc (.cells (dc D ++ dc E) 45)).on hb1
  replace KE := (KE.alloc (.cells (dc D ++ dc E) 45)).on hb1
  clear hb1 hz hl
  cases hv : ok2 s n P R D E
  · have HC := Lib.hid (csV_no hv); have HV := Lib.hid hv; clear hv
    rw [unl_false]
    go_wp2
    go_ret2
    exact ⟨by rw [HV.out, HC.out, unl_false]; rfl, KB.here⟩
  · have HC := Lib.hid (csV_yes hv); 
    obtain ⟨hS, hN, _⟩ := vFrame_iff.1 (ok2_iff.1 hv).1
    have HV := Lib.hid hv; clear hv
    rw [unl_true]
    obtain ⟨k, rfl⟩ : ∃ k : Nat, s = k := ⟨s.toNat, by omega⟩
    rw [Int.toNat_natCast] at HC
    go_wp2
    have hS0 := below_drew w1
    refine wp_region_S (fun V => Below w1.heap.size w1 V) (by kernel_rfl) hS0 ?_
    refine take_val 0 (.agg #[.int .i16 (k : Int), .slice a n c]) rfl (by kernel_rfl) (by kernel_rfl) (by kernel_rfl) (fun _ _ _ h => h) rfl (fun V hV => ex_load_iframe _ rfl w.heap.size rfl _ (k : Int) a n c (KF.at hV)) hS0 ?_
    simp only [List.getElem_toArray, List.getElem_cons_zero, List.getElem_cons_succ, Act.put, List.setIfInBounds_toArray, List.set_cons_zero, List.set_cons_succ]
    refine take_val 1 (.agg (dc D)) rfl (by kernel_rfl) (by kernel_rfl) (by kernel_rfl) (fun _ _ _ h => h) rfl (fun V hV => ex_load_drum _ rfl (w.heap.size + 1) rfl _ D (KD.at hV)) hS0 ?_
    simp only [List.getElem_toArray, List.getElem_cons_zero, List.getElem_cons_succ, Act.put, List.setIfInBounds_toArray, List.set_cons_zero, List.set_cons_succ]
    refine take_val 2 (.agg (dc E)) rfl (by kernel_rfl) (by kernel_rfl) (by kernel_rfl) (fun _ _ _ h => h) rfl (fun V hV => ex_load_drum _ rfl (w.heap.size + 1 + 1) rfl _ E (KE.at hV)) hS0 ?_
    simp only [List.getElem_toArray, List.getElem_cons_zero, List.getElem_cons_succ, Act.put, List.setIfInBounds_toArray, List.set_cons_zero, List.set_cons_succ]
    have hl := DrumsAt.two w1.drew D E (twoL D E) rfl rfl
    have hS1 := hS0.alloc (o := .cells (dc D ++ dc E) 45) hS0.size
    refine step_val 3 _ _ (by kernel_rfl) rfl rfl (ex_build2 _ _ rfl D E rfl rfl) hS1 ?_
    simp only [List.getElem_toArray, List.getElem_cons_zero, List.getElem_cons_succ, Act.put, List.setIfInBounds_toArray, List.set_cons_zero, List.set_cons_succ]
    refine step_call 4 88 #[.slice (some ⟨w1.drew.heap.size, 0, none⟩) 2 2] (by kernel_rfl) rfl rfl (by simp [go_sem]) ?_
    refine (union_any _ 2 2 (twoL D E) _ (by omega) (twoL_32 HD.out HE.out) hl).mono ?_
    have hu := unionTo_32 (twoL_32 HD.out HE.out) 2
    obtain ⟨U, hU⟩ : ∃ U, unionTo (twoL D E) 2 = U := ⟨_, rfl⟩
    rw [hU] at hu HC ⊢
    rintro e w2 ⟨rfl, hb2⟩
    have hS2 := hS1.trans (hb2.mono hS1.size)
    refine ⟨_, rfl, hS2, ?_⟩
    simp only [List.getElem_toArray, List.getElem_cons_zero, List.getElem_cons_succ, Act.put, List.setIfInBounds_toArray, List.set_cons_zero, List.set_cons_succ]
    refine step_call 5 87 #[.agg #[.int .i16 (k : Int), .slice a n c], .agg (dc U)] (by kernel_rfl) rfl rfl (by simp [go_sem]) ?_
    refine (allClashes_any k a n c P R U w2 (by omega) hN hu HR.out (KH.at hS2)).mono ?_
    rintro e w3 ⟨v, rfl, hb3, hown⟩
    have hS3 := hS2.trans (hb3.mono hS2.size)
    obtain ⟨b1, c1, rfl⟩ := OwnL.form hown
    obtain ⟨x, hx⟩ : ∃ x, (plL (clB k R U) n (k * n)).length = x := ⟨_, rfl⟩
    have HX := Lib.hid (freeB_len hx)
    rw [hx]
    clear hown
    refine ⟨_, rfl, hS3, ?_⟩
    simp only [List.getElem_toArray, List.getElem_cons_zero, List.getElem_cons_succ, Act.put, List.setIfInBounds_toArray, List.set_cons_zero, List.set_cons_succ]
    refine take_val 6 (.int .i64 (x : Int)) rfl (by kernel_rfl) (by kernel_rfl) (by kernel_rfl) (fun _ _ _ h => h) rfl (fun V hV => by simp [go_sem]) hS3 ?_
    simp only [List.getElem_toArray, List.getElem_cons_zero, List.getElem_cons_succ, Act.put, List.setIfInBounds_toArray, List.set_cons_zero, List.set_cons_succ]
    refine take_val 7 (.bool (decide (x = 0))) rfl (by kernel_rfl) (by kernel_rfl) (by kernel_rfl) (fun _ _ _ h => h) rfl (fun V hV => by simp [go_sem, eq0_dec]) hS3 ?_
    simp only [List.getElem_toArray, List.getElem_cons_zero, List.getElem_cons_succ, Act.put, List.setIfInBounds_toArray, List.set_cons_zero, List.set_cons_succ]
    refine take_val 8 (.bool (decide (x = 0))) rfl (by kernel_rfl) (by kernel_rfl) (by kernel_rfl) (fun _ _ _ h => h) rfl (fun V hV => by simp [go_sem]) hS3 ?_
    simp only [List.getElem_toArray, List.getElem_cons_zero, List.getElem_cons_succ, Act.put, List.setIfInBounds_toArray, List.set_cons_zero, List.set_cons_succ]
    refine take_val 9 (.int .i64 0) rfl (by kernel_rfl) (by kernel_rfl) (by kernel_rfl) (fun _ _ _ h => h) rfl (fun V hV => by simp [go_sem]) hS3 ?_
    simp only [List.getElem_toArray, List.getElem_cons_zero, List.getElem_cons_succ, Act.put, List.setIfInBounds_toArray, List.set_cons_zero, List.set_cons_succ]
    refine wpAnyH_done (by kernel_rfl) ?_ _
    have hb3 := KB.at hS3
    go_wp2
    go_ret2
    exact ⟨by rw [HV.out, HC.out, HX.out, unl_true]; rfl, hb3⟩
set_option maxRecDepth 100000 in
theorem specCanShare_any (s : Int) (a : Option Addr) (n c : Nat) (P R : Nat → Int) (D E : Nat → Nat) (w : World) (hs : -32768 ≤ s ∧ s ≤ 32767) (hn : n ≤ 1048576) (hP : I8 P) (hR : I8 R) (hh : HamAt w a n P R) (hD : D32 D) (hE : D32 E) :
    Calls Try.prog 32 #[.agg #[.int .i16 s, .slice a n c], .agg (dc D), .agg (dc E)] w fun e w' => e = .returned (.tuple #[.bool (csV s n P R D E), .int .i64 (unl (ok2 s n P R D E) 1)]) ∧ Below w.heap.size w w' := by
  have HP := Lib.hid hP; have HR := Lib.hid hR; have HD := Lib.hid hD; have HE := Lib.hid hE; clear hP hR hD hE
  have KB := Kp.base w; have KH := kp_ham hh; clear hh
  replace KB := KB.alloc (.cells #[.int .i16 s, .slice a n c] 43)
  replace KH := KH.alloc (.cells #[.int .i16 s, .slice a n c] 43)
  have KF := kp_new1 w #[.int .i16 s, .slice a n c] 43 (g := w.heap.size) (by simp)
  replace KB := KB.alloc (.cells (dc D) 45)
  replace KH := KH.alloc (.cells (dc D) 45)
  replace KF := KF.alloc (.cells (dc D) 45)
  have KD := kp_newd (w.alloc (.cells #[.int .i16 s, .slice a n c] 43)) (D) 45 (g := w.heap.size + 1) (by simp)
  replace KB := KB.alloc (.cells (dc E) 45)
  replace KH := KH.alloc (.cells (dc E) 45)
  replace KF := KF.alloc (.cells (dc E) 45)
  replace KD := KD.alloc (.cells (dc E) 45)
  have KE := kp_newd ((w.alloc (.cells #[.int .i16 s, .slice a n c] 43)).alloc (.cells (dc D) 45)) (E) 45 (g := w.heap.size + 1 + 1) (by simp)
  have HZ := Lib.hid (show (((w.alloc (.cells #[.int .i16 s, .slice a n c] 43)).alloc (.cells (dc D) 45)).alloc (.cells (dc E) 45)).heap.size = w.heap.size + 1 + 1 + 1 by simp)
  go_enter Try.func32, Try.ntmps32
  go_wp2_with fail
  generalize (((w.alloc (.cells #[.int .i16 s, .slice a n c] 43)).alloc (.cells (dc D) 45)).alloc (.cells (dc E) 45)) = W at KB KH KF KD KE HZ ⊢
  refine (l05Both_any w.heap.size (w.heap.size + 1) (w.heap.size + 1 + 1) s a n c P R (twoL D E) W (by omega) hs HP.out HR.out (row_lt KF.here) (row_cell 0 KF.here) (row_cell 1 KF.here) KH.here (row_lt KD.here) (row_lt KE.here) (DrumAt.cells KD.here) (DrumAt.cells KE.here)).mono ?_
  rw [← ok2_def]
  rintro e w1 ⟨rfl, hb1⟩
  replace KB := KB.on hb1
  replace KH := KH.on hb1
  replace KF := KF.on hb1
  replace KD := KD.on hb1
  replace KE := KE.on hb1
  clear hb1
  cases hv : ok2 s n P R D E
  · have HC := Lib.hid (csV_no hv); have HV := Lib.hid hv; clear hv
    rw [unl_false]
    go_wp2
    go_ret2
    exact ⟨by rw [HV.out, HC.out, unl_false]; rfl, KB.here⟩
  · have HC := Lib.hid (csV_yes hv)
    obtain ⟨hS, hN, _⟩ := vFrame_iff.1 (ok2_iff.1 hv).1
    have HV := Lib.hid hv; clear hv
    rw [unl_true]
    go_wp2_with (first | (with_reducible refine load_drum rfl _ rfl (w.heap.size + 1) rfl _ D KD.here ?_) | (with_reducible refine load_drum rfl _ rfl (w.heap.size + 1 + 1) rfl _ E KE.here ?_) | (with_reducible refine build2 rfl _ _ rfl D E rfl rfl ?_))
    obtain ⟨k, rfl⟩ : ∃ k : Nat, s = k := ⟨s.toNat, by omega⟩
    rw [Int.toNat_natCast] at HC
    have hl := DrumsAt.two w1 D E (twoL D E) rfl rfl
    refine (l05Share_any w.heap.size _ k a n c P R _ 2 2 (twoL D E) _ (by omega) hN (by omega) (twoL_32 HD.out HE.out) HR.out (KF.alloc _).here hl (KH.alloc _).here).mono ?_
    rw [← HC.out]
    rintro e w2 ⟨rfl, hb2⟩
    have hb3 := (KB.alloc (.cells (dc D ++ dc E) 45)).at hb2
    clear hl
    go_wp2
    go_ret2
    exact ⟨by rw [HV.out, unl_true]; rfl, hb3⟩
end Go.Proofs.Ytmmneedmhmppoaa
