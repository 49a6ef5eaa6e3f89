/- Arguments of the statements, opened: drums and frames. No conditions. -/
import Derived.Test.YtlcfjeofphncgaaHam
import Derived.ProofKit
import Derived.OpenShut
import Derived.Deep.Slices
import Derived.Lib.SmallJoins
namespace Go.Proofs.Ytlcfjeofphncgaa
open Go.RowKit Go.ChangeShapes Go.WideShapes Go.Deep
set_option linter.unusedVariables false
set_option linter.unusedSimpArgs false
set_option maxRecDepth 100000

theorem okWide_array {P : Program} {w : World} {r : Reach} {base : Nat} {t e : TypeId} {n : Nat} {v : Value} (ht : P.underlying t = some (.array n e)) (h : Value.okWide P w r base t v) : ∃ cs, v = .agg cs ∧ cs.size = P.cellsOf t := by
  simp only [Value.okWide, ht] at h
  obtain ⟨cs, h1, h2, _⟩ := h
  exact ⟨cs, h1, h2⟩
section
variable {H : Type} {enc : TypeId × Value → H} {w : World} {base : Nat} {spare : Nat → Bool} {held : Bool}
theorem wf_u32 {n : Int} (h : (Lit.int .u32 n).wf = true) : 0 ≤ n ∧ n < 4294967296 := by
  simp [Lit.wf, IntKind.min, IntKind.max, IntKind.signed, IntKind.bits] at h
  omega
theorem wf_i16 {n : Int} (h : (Lit.int .i16 n).wf = true) : -32768 ≤ n ∧ n ≤ 32767 := by
  simp [Lit.wf, IntKind.min, IntKind.max, IntKind.signed, IntKind.bits] at h
  omega
theorem wf_i8 {n : Int} (h : (Lit.int .i8 n).wf = true) : -128 ≤ n ∧ n ≤ 127 := by
  simp [Lit.wf, IntKind.min, IntKind.max, IntKind.signed, IntKind.bits] at h
  omega
theorem cellsU32 : Try.prog.cellsOf 31 = 1 := by kernel_rfl
theorem cellsArr : Try.prog.cellsOf 32 = 96 := by kernel_rfl
theorem trod_arr {fuel : Nat} {cs : Array Value} {x : DataW H × List MemPlace} (hs : cs.size = 96) (h : DataW.trod enc Try.prog w base spare held fuel 32 cs.toList = some x) : ∃ D, D32 D ∧ cs = dc D := by
  obtain ⟨xs, m, _, _, _, hl, hel⟩ := DataW.trod_array und_arr h
  have each : ∀ k, k < 96 → ∃ z : Nat, z < 4294967296 ∧ cs[k]? = some (.int .u32 z) := by
    intro k hk
    have hE := hel k hk
    rw [cellsU32, Nat.mul_one, List.getElem?_eq_getElem (by omega)] at hE
    obtain ⟨z, e1, e2, hw⟩ := DataW.trod_int Try.underlying31 hE
    have hz := wf_u32 hw
    refine ⟨z.toNat, by omega, ?_⟩
    have hk' : k < cs.toList.length := by simpa [hs] using hk
    rw [List.drop_eq_getElem_cons hk'] at e1
    simp only [List.take_succ_cons, List.take_zero, List.cons.injEq, and_true] at e1
    have : cs[k]? = some cs.toList[k] := by simp
    rw [this, e1, Int.toNat_of_nonneg hz.1]
  have hD : ∃ D : Nat → Nat, ∀ k, D k < 4294967296 ∧ (k < 96 → cs[k]? = some (.int .u32 (D k))) := by
    refine ⟨fun k => if h : k < 96 then (each k h).choose else 0, fun k => ?_⟩
    by_cases hk : k < 96
    · simp only [hk, dif_pos]
      exact ⟨(each k hk).choose_spec.1, fun _ => (each k hk).choose_spec.2⟩
    · simp only [hk, dif_neg, not_false_eq_true]
      exact ⟨by omega, fun h => absurd h (by simp)⟩
  obtain ⟨D, hD⟩ := hD
  refine ⟨D, fun k => (hD k).1, ?_⟩
  apply Array.ext_getElem?
  intro i
  by_cases hi : i < 96
  · rw [(hD i).2 hi, dc_get D i hi]
  · rw [Array.getElem?_eq_none (by omega), Array.getElem?_eq_none (by rw [dc_size]; omega)]
/-- an argument of the type [96]uint32 is a drum -/
theorem open_arr {r : Reach} {b0 : Nat} {v : Value} {d : DataW H} {p : List MemPlace} (hv : Value.okWide Try.prog w r b0 32 v) (h : DataW.Trod enc Try.prog w base spare held 32 v d p) : ∃ D, D32 D ∧ v = .agg (dc D) := by
  obtain ⟨cs, rfl, hs⟩ := okWide_array und_arr hv
  rw [cellsArr] at hs
  obtain ⟨fuel, hf⟩ := h
  obtain ⟨D, hD, rfl⟩ := trod_arr hs hf
  exact ⟨D, hD, rfl⟩

theorem cells2 {a : Addr} {cs : List Value} (h : w.cells? base a 2 = some cs) : ∃ u v, cs = [u, v] ∧ base ≤ a.block ∧ w.cell? a = some u ∧ w.cell? ⟨a.block, a.off + 1, none⟩ = some v := by
  unfold World.cells? at h
  split at h
  case isFalse => cases h
  case isTrue hb =>
    have hr : List.range 2 = [0, 1] := rfl
    rw [hr] at h
    simp only [List.mapM_cons, List.mapM_nil, Addr.add_zero'] at h
    cases h0 : w.cell? a with
    | none => simp [h0] at h
    | some u =>
      cases h1 : w.cell? (a.add 1) with
      | none => simp [h0, h1] at h
      | some v =>
        simp [h0, h1] at h
        refine ⟨u, v, h.symm, hb, rfl, ?_⟩
        rw [← h1]
        rfl
theorem cellsI8 : Try.prog.cellsOf 48 = 1 := by kernel_rfl
end
end Go.Proofs.Ytlcfjeofphncgaa
