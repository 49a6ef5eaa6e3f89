/- CanShare, by the reference and by the program. No conditions. -/
import Derived.Test.YtpfjmoodfodfhaaCl
import Derived.Test.YtpfjmoodfodfhaaUni
import Derived.Test.YtpfjmoodfodfhaaHeld2
import Derived.Outline
namespace Go.Proofs.Ytpfjmoodfodfhaa
open Go.RowKit
set_option linter.unusedVariables false
set_option linter.unusedSimpArgs false

/-- no clash in a drum -/
def freeB (m : Nat) (R : Nat → Int) (n : Nat) (D : Nat → Nat) : Bool := decide ((plL (clB m R D) n (m * n)).length = 0)
theorem freeB_def (m : Nat) (R : Nat → Int) (n : Nat) (D : Nat → Nat) : freeB m R n D = decide ((plL (clB m R D) n (m * n)).length = 0) := rfl
attribute [irreducible] freeB
def csV (s : Int) (n : Nat) (P R : Nat → Int) (D E : Nat → Nat) : Bool := ok2 s n P R D E && freeB s.toNat R n (unionTo (twoL D E) 2)
theorem csV_no {s : Int} {n : Nat} {P R : Nat → Int} {D E : Nat → Nat} (h : ok2 s n P R D E = false) : csV s n P R D E = false := by unfold csV; rw [h]; rfl
theorem csV_yes {s : Int} {n : Nat} {P R : Nat → Int} {D E : Nat → Nat} (h : ok2 s n P R D E = true) : csV s n P R D E = freeB s.toNat R n (unionTo (twoL D E) 2) := by unfold csV; rw [h]; rfl
attribute [irreducible] csV
theorem twoL_32 {D E : Nat → Nat} (hD : D32 D) (hE : D32 E) : L32 (twoL D E) := by
  intro i
  unfold twoL
  split
  · exact hD
  · exact hE
theorem ex_build2 {o : Oper} {a : Act} {w : World} (x y : Operand) (ho : o.op = .buildSlice 48 2 #[(0, x), (1, y)]) (D E : Nat → Nat) (hx : a.eval x = .agg (dc D)) (hy : a.eval y = .agg (dc E)) :
    (execOp a.eval o).run Try.prog w = .ok (.value (.slice (some ⟨w.heap.size, 0, none⟩) 2 2)) (w.alloc (.cells (dc D ++ dc E) 71)) := by
  have hm : (#[(0, x), (1, y)] : Array (Nat × Operand)).map (fun (i, y) => (i, a.eval y)) = #[(0, .agg (dc D)), (1, .agg (dc E))] := by simp [hx, hy]
  simp only [execOp, ho, hm, Sem.run_bind, run_build2, Result.andThen_ok]
  rfl
theorem eq0_dec (x : Nat) : ((x : Int) == 0) = decide (x = 0) := by rw [Bool.eq_iff_iff]; simp
theorem freeB_len {m : Nat} {R : Nat → Int} {n : Nat} {D : Nat → Nat} {x : Nat} (h : (plL (clB m R D) n (m * n)).length = x) : freeB m R n D = decide (x = 0) := by rw [freeB_def, h]
set_option maxRecDepth 100000 in
theorem l05Share_any (gf Tf : Nat) (k : Nat) (a : Option Addr) (n c : Nat) (P R : Nat → Int) (b : Option Addr) (m d : Nat) (L : Nat → Nat → Nat) (w : World) (hk : 2 ≤ k ∧ k ≤ 96) (hn : 1 ≤ n ∧ n ≤ 24) (hm : m ≤ 1048576) (hL : L32 L) (hR : I8 R)
    (hf : w.heap[gf]? = some (.cells #[.int .i16 (k : Int), .slice a n c] Tf (0, 0))) (hl : DrumsAt w b m L) (hh : HamAt w a n P R) :
    Calls Try.prog 68 #[.pointer (some ⟨gf, 0, none⟩), .slice b m d] w fun e w' => e = .returned (.bool (freeB k R n (unionTo L m))) ∧ Below w.heap.size w w' := by
  have HL := Lib.hid hL; have HR := Lib.hid hR; clear hL hR
  have KB := Kp.base w
  have KF := kp_row hf; have KL := kp_drums hl; have KH := kp_ham hh; clear hf hl hh
  go_enter Try.func68, Try.ntmps68
  go_wp2_with fail
  refine (l05Union_any b m d L w hm HL.out KL.here).mono ?_
  rintro e w1 ⟨rfl, hb1⟩
  replace KB := KB.on hb1
  replace KF := KF.on hb1
  replace KH := KH.on hb1
  clear KL hb1
  have hu := unionTo_32 HL.out m
  obtain ⟨U, hU⟩ : ∃ U, unionTo L m = U := ⟨_, rfl⟩
  rw [hU] at hu ⊢
  have HU := Lib.hid hu; have HE := Lib.hid hU; clear hu hU
  go_wp2_with (with_reducible refine copy_drum rfl rfl rfl _ _ rfl U rfl rfl ?_; intro W2 hb2 hz2 hg2; have HB2 := Lib.hid hb2; have HZ2 := Lib.hid hz2; have HG2 := Lib.hid hg2; clear hb2 hz2 hg2)
  have hb2 := HB2.out
  replace KB := KB.on hb2
  replace KF := KF.on hb2
  replace KH := KH.on hb2
  clear hb2
  refine (l02Clashes_any gf w1.heap.size Tf 71 k a n c P R U W2 hk hn HU.out HR.out KF.here HG2.out KH.here).mono ?_
  rintro e w3 ⟨v, rfl, hb3, hown⟩
  replace KB := KB.on hb3
  obtain ⟨b1, c1, rfl⟩ := OwnL.form hown
  obtain ⟨x, hx⟩ : ∃ x, (plL (clB k R U) n (k * n)).length = x := ⟨_, rfl⟩
  have HX := Lib.hid (freeB_len hx)
  rw [hx]
  clear hown hx
  have heq := eq0_dec x
  have hb4 := KB.here
  go_wp2
  go_ret
  exact ⟨ret_bool (by rw [HE.out, HX.out]), hb4⟩
end Go.Proofs.Ytpfjmoodfodfhaa
