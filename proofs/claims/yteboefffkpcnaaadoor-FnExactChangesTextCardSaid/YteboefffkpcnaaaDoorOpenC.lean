/- Arguments of the statements, opened: changes. No conditions. -/
import Derived.Test.YteboefffkpcnaaaDoorOpen
import Derived.Test.YteboefffkpcnaaaDoorChg
import Derived.Deep.Strs
import Derived.ChangeArms
namespace Go.Proofs.YteboefffkpcnaaaDoor
open Go.RowKit Go.ChangeShapes Go.WideShapes Go.Deep
set_option linter.unusedVariables false
set_option linter.unusedSimpArgs false
set_option maxRecDepth 100000

section
variable {H : Type} {enc : TypeId × Value → H} {w : World} {base : Nat} {spare : Nat → Bool} {held : Bool}
theorem cellsI16c : Tryd.prog.cellsOf 34 = 1 := by kernel_rfl
theorem cellsBool : Tryd.prog.cellsOf 4 = 1 := by kernel_rfl
theorem cellsChg : Tryd.prog.cellsOf 63 = 3 := by kernel_rfl
theorem cells3 {a : Addr} {cs : List Value} (h : w.cells? base a 3 = some cs) : ∃ u v x, cs = [u, v, x] ∧ w.cell? a = some u ∧ w.cell? ⟨a.block, a.off + 1, none⟩ = some v ∧ w.cell? ⟨a.block, a.off + 2, none⟩ = some x := by
  obtain ⟨hb, hl, hc⟩ := World.cells?_some h
  match cs, hl with
  | [u, v, x], _ =>
    refine ⟨u, v, x, rfl, ?_, ?_, ?_⟩
    · have := hc 0 (by omega); rw [Addr.add_zero'] at this; exact this
    · have := hc 1 (by omega); exact this
    · have := hc 2 (by omega); exact this
theorem trod_chg {fuel : Nat} {u v x : Value} {y : DataW H × List MemPlace} (h : DataW.trod enc Tryd.prog w base spare held fuel 63 [u, v, x] = some y) :
    ∃ p r b, u = .int .i16 p ∧ v = .int .i8 r ∧ x = .bool b ∧ (-32768 ≤ p ∧ p ≤ 32767) ∧ (-128 ≤ r ∧ r ≤ 127) := by
  obtain ⟨y0, y1, y2, n, _, _, h0, h1, h2⟩ := trod_struct3 Tryd.underlying63 h
  obtain ⟨p, e1, _, hw⟩ := DataW.trod_int Tryd.underlying34 h0
  obtain ⟨r, e2, _, hw'⟩ := DataW.trod_int Tryd.underlying39 h1
  obtain ⟨b, e3, _⟩ := DataW.trod_bool Tryd.underlying4 h2
  simp [cellsI8, cellsI16c, cellsBool] at e1 e2 e3
  exact ⟨p, r, b, e1, e2, e3, wf_i16 hw, wf_i8 hw'⟩
theorem open_chg_list {fuel : Nat} {cs : List Value} {x : DataW H × List MemPlace} (h : DataW.trod enc Tryd.prog w base spare held fuel 27 cs = some x) :
    ∃ a n c S K U, cs = [.slice a n c] ∧ n ≤ 9223372036854775807 ∧ I16 S ∧ I8 K ∧ ChgIn w a n S K U := by
  rcases open_slice Tryd.underlying27 h with ⟨rfl, _⟩ | ⟨a, len, cap, m, n, D, Pl, rfl, hb, hl, hm, hmm, rfl, hx⟩
  · exact ⟨none, 0, 0, fun _ => 0, fun _ => 0, fun _ => false, rfl, by omega, fun _ => by simp, fun _ => by simp, fun h => absurd h (by omega)⟩
  · have hle : len ≤ m := by rw [hmm]; split <;> omega
    rw [cellsChg] at hx
    have each : ∀ i, i < len → ∃ p r b, w.cell? (a.add (i * 3)) = some (.int .i16 p) ∧ w.cell? ⟨(a.add (i * 3)).block, (a.add (i * 3)).off + 1, none⟩ = some (.int .i8 r) ∧ w.cell? ⟨(a.add (i * 3)).block, (a.add (i * 3)).off + 2, none⟩ = some (.bool b) ∧ (-32768 ≤ p ∧ p ≤ 32767) ∧ (-128 ≤ r ∧ r ≤ 127) := by
      intro i hi
      obtain ⟨cs', h1, h2⟩ := hx i (by omega)
      obtain ⟨u, v, y, rfl, hu, hv, hy⟩ := cells3 h1
      obtain ⟨p, r, b, rfl, rfl, rfl, hp, hr⟩ := trod_chg h2
      exact ⟨p, r, b, hu, hv, hy, hp, hr⟩
    refine ⟨some a, len, cap, fun i => if h : i < len then (each i h).choose else 0, fun i => if h : i < len then (each i h).choose_spec.choose else 0, fun i => if h : i < len then (each i h).choose_spec.choose_spec.choose else false, rfl, by unfold maxLen at hm; omega, ?_, ?_, ?_⟩
    · intro i
      by_cases hi : i < len
      · simp only [hi, dif_pos]; exact (each i hi).choose_spec.choose_spec.choose_spec.2.2.2.1
      · simp only [hi, dif_neg, not_false_eq_true]; omega
    · intro i
      by_cases hi : i < len
      · simp only [hi, dif_pos]; exact (each i hi).choose_spec.choose_spec.choose_spec.2.2.2.2
      · simp only [hi, dif_neg, not_false_eq_true]; omega
    · intro hn
      refine ⟨a, rfl, ?_, fun i hi => ?_⟩
      · obtain ⟨p, r, b, h1, _⟩ := each 0 hn
        have := block_lt_of_cell h1
        rwa [add_block] at this
      · simp only [hi, dif_pos]
        exact ⟨(each i hi).choose_spec.choose_spec.choose_spec.1, (each i hi).choose_spec.choose_spec.choose_spec.2.1, (each i hi).choose_spec.choose_spec.choose_spec.2.2.1⟩
/-- an argument that is a slice of changes -/
theorem open_changes {r : Reach} {b0 : Nat} {v : Value} {d : DataW H} {p : List MemPlace} (hv : Value.okWide Tryd.prog w r b0 27 v) (h : DataW.Trod enc Tryd.prog w base spare held 27 v d p) :
    ∃ a n c S K U, v = .slice a n c ∧ n ≤ 9223372036854775807 ∧ I16 S ∧ I8 K ∧ ChgIn w a n S K U := by
  obtain ⟨a, len, cap, rfl⟩ := okWide_slice Tryd.underlying27 hv
  obtain ⟨fuel, hf⟩ := h
  obtain ⟨a, n, c, S, K, U, e, hr⟩ := open_chg_list hf
  simp only [Value.cells, List.cons.injEq, and_true] at e
  exact ⟨a, n, c, S, K, U, e, hr⟩
end
end Go.Proofs.YteboefffkpcnaaaDoor
