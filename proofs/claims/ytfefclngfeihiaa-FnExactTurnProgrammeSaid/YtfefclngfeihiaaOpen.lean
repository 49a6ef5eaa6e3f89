/- Arguments of the statements, opened: drums and frames. No conditions. -/
import Derived.Test.YtfefclngfeihiaaHam
import Derived.ProofKit
import Derived.OpenShut
import Derived.Deep.Slices
import Derived.Lib.SmallJoins
namespace Go.Proofs.Ytfefclngfeihiaa
open Go.RowKit Go.ChangeShapes Go.WideShapes Go.Deep
set_option linter.unusedVariables false
set_option linter.unusedSimpArgs false
set_option maxRecDepth 100000

theorem okWide_array {P : Program} {w : World} {r : Reach} {base : Nat} {t e : TypeId} {n : Nat} {v : Value} (ht : P.underlying t = some (.array n e)) (h : Value.okWide P w r base t v) : ∃ cs, v = .agg cs ∧ cs.size = P.cellsOf t := by
  simp only [Value.okWide, ht] at h
  obtain ⟨cs, h1, h2, _⟩ := h
  exact ⟨cs, h1, h2⟩
section
variable {H : Type} {enc : TypeId × Value → H} {w : World} {base : Nat} {spare : Nat → Bool} {held : Bool}
theorem wf_u32 {n : Int} (h : (Lit.int .u32 n).wf = true) : 0 ≤ n ∧ n < 4294967296 := by
  simp [Lit.wf, IntKind.min, IntKind.max, IntKind.signed, IntKind.bits] at h
  omega
theorem wf_i16 {n : Int} (h : (Lit.int .i16 n).wf = true) : -32768 ≤ n ∧ n ≤ 32767 := by
  simp [Lit.wf, IntKind.min, IntKind.max, IntKind.signed, IntKind.bits] at h
  omega
theorem wf_i8 {n : Int} (h : (Lit.int .i8 n).wf = true) : -128 ≤ n ∧ n ≤ 127 := by
  simp [Lit.wf, IntKind.min, IntKind.max, IntKind.signed, IntKind.bits] at h
  omega
theorem cellsU32 : Try.prog.cellsOf 103 = 1 := by kernel_rfl
theorem cells2 {a : Addr} {cs : List Value} (h : w.cells? base a 2 = some cs) : ∃ u v, cs = [u, v] ∧ base ≤ a.block ∧ w.cell? a = some u ∧ w.cell? ⟨a.block, a.off + 1, none⟩ = some v := by
  unfold World.cells? at h
  split at h
  case isFalse => cases h
  case isTrue hb =>
    have hr : List.range 2 = [0, 1] := rfl
    rw [hr] at h
    simp only [List.mapM_cons, List.mapM_nil, Addr.add_zero'] at h
    cases h0 : w.cell? a with
    | none => simp [h0] at h
    | some u =>
      cases h1 : w.cell? (a.add 1) with
      | none => simp [h0, h1] at h
      | some v =>
        simp [h0, h1] at h
        refine ⟨u, v, h.symm, hb, rfl, ?_⟩
        rw [← h1]
        rfl
theorem cellsHam : Try.prog.cellsOf 74 = 2 := by kernel_rfl
theorem cellsI8 : Try.prog.cellsOf 27 = 1 := by kernel_rfl
theorem trod_ham {fuel : Nat} {u v : Value} {x : DataW H × List MemPlace} (h : DataW.trod enc Try.prog w base spare held fuel 74 [u, v] = some x) :
    ∃ p r, u = .int .i8 p ∧ v = .int .i8 r ∧ (-128 ≤ p ∧ p ≤ 127) ∧ (-128 ≤ r ∧ r ≤ 127) := by
  obtain ⟨y0, y1, n, _, _, h0, h1⟩ := trod_struct2 Try.underlying74 h
  obtain ⟨p, e1, _, hw⟩ := DataW.trod_int Try.underlying27 h0
  obtain ⟨r, e2, _, hw'⟩ := DataW.trod_int Try.underlying27 h1
  simp [cellsI8] at e1 e2
  exact ⟨p, r, e1, e2, wf_i8 hw, wf_i8 hw'⟩
/-- a slice of hammers that came in -/
theorem open_hams {fuel : Nat} {cs : List Value} {x : DataW H × List MemPlace} (h : DataW.trod enc Try.prog w base spare held fuel 23 cs = some x) :
    ∃ a n c P R, cs = [.slice a n c] ∧ n ≤ 9223372036854775807 ∧ I8 P ∧ I8 R ∧ HamIn w a n P R := by
  rcases open_slice Try.underlying23 h with ⟨rfl, _⟩ | ⟨a, len, cap, m, n, D, Pl, rfl, hb, hl, hm, hmm, rfl, hx⟩
  · exact ⟨none, 0, 0, fun _ => 0, fun _ => 0, rfl, by omega, fun _ => by simp, fun _ => by simp, fun h => absurd h (by omega)⟩
  · have hle : len ≤ m := by rw [hmm]; split <;> omega
    rw [cellsHam] at hx
    have each : ∀ i, i < len → ∃ p r, w.cell? (a.add (i * 2)) = some (.int .i8 p) ∧ w.cell? ⟨(a.add (i * 2)).block, (a.add (i * 2)).off + 1, none⟩ = some (.int .i8 r) ∧ (-128 ≤ p ∧ p ≤ 127) ∧ (-128 ≤ r ∧ r ≤ 127) := by
      intro i hi
      obtain ⟨cs', h1, h2⟩ := hx i (by omega)
      obtain ⟨u, v, rfl, _, hu, hv⟩ := cells2 h1
      obtain ⟨p, r, rfl, rfl, hp, hr⟩ := trod_ham h2
      exact ⟨p, r, hu, hv, hp, hr⟩
    refine ⟨some a, len, cap, fun i => if h : i < len then (each i h).choose else 0, fun i => if h : i < len then (each i h).choose_spec.choose else 0, rfl, by unfold maxLen at hm; omega, ?_, ?_, ?_⟩
    · intro i
      by_cases hi : i < len
      · simp only [hi, dif_pos]; exact (each i hi).choose_spec.choose_spec.2.2.1
      · simp only [hi, dif_neg, not_false_eq_true]; omega
    · intro i
      by_cases hi : i < len
      · simp only [hi, dif_pos]; exact (each i hi).choose_spec.choose_spec.2.2.2
      · simp only [hi, dif_neg, not_false_eq_true]; omega
    · intro hn
      refine ⟨a, rfl, ?_, fun i hi => ?_⟩
      · obtain ⟨p, r, h1, _⟩ := each 0 hn
        have := block_lt_of_cell h1
        rwa [add_block] at this
      · simp only [hi, dif_pos]
        exact ⟨(each i hi).choose_spec.choose_spec.1, (each i hi).choose_spec.choose_spec.2.1⟩
/-- an argument that is a frame -/
theorem open_frame {r : Reach} {b0 : Nat} {v : Value} {d : DataW H} {p : List MemPlace} (hv : Value.okWide Try.prog w r b0 25 v) (h : DataW.Trod enc Try.prog w base spare held 25 v d p) :
    ∃ s a n c P R, v = .agg #[.int .i16 s, .slice a n c] ∧ (-32768 ≤ s ∧ s ≤ 32767) ∧ n ≤ 9223372036854775807 ∧ I8 P ∧ I8 R ∧ HamIn w a n P R := by
  obtain ⟨v0, v1, y0, y1, m, rfl, _, _, h0, h1⟩ := Joins.open_agg2 Try.underlying25 (by kernel_rfl) (by kernel_rfl) hv h
  obtain ⟨s, e1, _, hw⟩ := DataW.trod_int Try.underlying22 h0
  obtain ⟨a, n, c, P, R, e2, hn, hP, hR, hI⟩ := open_hams h1
  simp only [List.cons.injEq, and_true] at e1 e2
  subst e1 e2
  exact ⟨s, a, n, c, P, R, rfl, wf_i16 hw, hn, hP, hR, hI⟩
end
end Go.Proofs.Ytfefclngfeihiaa
