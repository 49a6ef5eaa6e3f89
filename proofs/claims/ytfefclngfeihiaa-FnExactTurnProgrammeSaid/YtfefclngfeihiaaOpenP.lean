/- Arguments of the statements, opened: programmes. No conditions. -/
import Derived.Test.YtfefclngfeihiaaOpen
import Derived.Test.YtfefclngfeihiaaPg
namespace Go.Proofs.Ytfefclngfeihiaa
open Go.RowKit Go.ChangeShapes Go.WideShapes Go.Deep
set_option linter.unusedVariables false
set_option linter.unusedSimpArgs false
set_option maxRecDepth 100000

section
variable {H : Type} {enc : TypeId × Value → H} {w : World} {base : Nat} {spare : Nat → Bool} {held : Bool}
theorem cellsI16 : Try.prog.cellsOf 22 = 1 := by kernel_rfl
theorem cellsSS : Try.prog.cellsOf 26 = 1 := by kernel_rfl
theorem cellsOrd : Try.prog.cellsOf 28 = 48 := by kernel_rfl
theorem cellsPrg : Try.prog.cellsOf 30 = 49 := by kernel_rfl
theorem trod_ord {fuel : Nat} {cs : Array Value} {x : DataW H × List MemPlace} (hs : cs.size = 48) (h : DataW.trod enc Try.prog w base spare held fuel 28 cs.toList = some x) : ∃ O, I8 O ∧ cs = oc O := by
  obtain ⟨xs, m, _, _, _, hl, hel⟩ := DataW.trod_array und_ord h
  have each : ∀ k, k < 48 → ∃ z : Int, (-128 ≤ z ∧ z ≤ 127) ∧ cs[k]? = some (.int .i8 z) := by
    intro k hk
    have hE := hel k hk
    rw [cellsI8, Nat.mul_one, List.getElem?_eq_getElem (by omega)] at hE
    obtain ⟨z, e1, e2, hw⟩ := DataW.trod_int Try.underlying27 hE
    have hz := wf_i8 hw
    refine ⟨z, hz, ?_⟩
    have hk' : k < cs.toList.length := by simpa [hs] using hk
    rw [List.drop_eq_getElem_cons hk'] at e1
    simp only [List.take_succ_cons, List.take_zero, List.cons.injEq, and_true] at e1
    have : cs[k]? = some cs.toList[k] := by simp
    rw [this, e1]
  have hD : ∃ D : Nat → Int, ∀ k, (-128 ≤ D k ∧ D k ≤ 127) ∧ (k < 48 → cs[k]? = some (.int .i8 (D k))) := by
    refine ⟨fun k => if h : k < 48 then (each k h).choose else 0, fun k => ?_⟩
    by_cases hk : k < 48
    · simp only [hk, dif_pos]
      exact ⟨(each k hk).choose_spec.1, fun _ => (each k hk).choose_spec.2⟩
    · simp only [hk, dif_neg, not_false_eq_true]
      exact ⟨by omega, fun h => absurd h (by simp)⟩
  obtain ⟨D, hD⟩ := hD
  refine ⟨D, fun k => (hD k).1, ?_⟩
  apply Array.ext_getElem?
  intro i
  by_cases hi : i < 48
  · rw [(hD i).2 hi, oc_get D i hi]
  · rw [Array.getElem?_eq_none (by omega), Array.getElem?_eq_none (by rw [oc_size]; omega)]
theorem cellsSec : Try.prog.cellsOf 76 = 2 := by kernel_rfl
theorem trod_sec {fuel : Nat} {u v : Value} {x : DataW H × List MemPlace} (h : DataW.trod enc Try.prog w base spare held fuel 76 [u, v] = some x) :
    ∃ p r, u = .int .i16 p ∧ v = .int .i16 r ∧ (-32768 ≤ p ∧ p ≤ 32767) ∧ (-32768 ≤ r ∧ r ≤ 32767) := by
  obtain ⟨y0, y1, n, _, _, h0, h1⟩ := trod_struct2 Try.underlying76 h
  obtain ⟨p, e1, _, hw⟩ := DataW.trod_int Try.underlying22 h0
  obtain ⟨r, e2, _, hw'⟩ := DataW.trod_int Try.underlying22 h1
  simp [cellsI16] at e1 e2
  exact ⟨p, r, e1, e2, wf_i16 hw, wf_i16 hw'⟩
/-- a slice of sections that came in -/
theorem open_secs {fuel : Nat} {cs : List Value} {x : DataW H × List MemPlace} (h : DataW.trod enc Try.prog w base spare held fuel 26 cs = some x) :
    ∃ a n c P R, cs = [.slice a n c] ∧ n ≤ 9223372036854775807 ∧ I16 P ∧ I16 R ∧ SecIn w a n P R := by
  rcases open_slice Try.underlying26 h with ⟨rfl, _⟩ | ⟨a, len, cap, m, n, D, Pl, rfl, hb, hl, hm, hmm, rfl, hx⟩
  · exact ⟨none, 0, 0, fun _ => 0, fun _ => 0, rfl, by omega, fun _ => by simp, fun _ => by simp, fun h => absurd h (by omega)⟩
  · have hle : len ≤ m := by rw [hmm]; split <;> omega
    rw [cellsSec] at hx
    have each : ∀ i, i < len → ∃ p r, w.cell? (a.add (i * 2)) = some (.int .i16 p) ∧ w.cell? ⟨(a.add (i * 2)).block, (a.add (i * 2)).off + 1, none⟩ = some (.int .i16 r) ∧ (-32768 ≤ p ∧ p ≤ 32767) ∧ (-32768 ≤ r ∧ r ≤ 32767) := by
      intro i hi
      obtain ⟨cs', h1, h2⟩ := hx i (by omega)
      obtain ⟨u, v, rfl, _, hu, hv⟩ := cells2 h1
      obtain ⟨p, r, rfl, rfl, hp, hr⟩ := trod_sec h2
      exact ⟨p, r, hu, hv, hp, hr⟩
    refine ⟨some a, len, cap, fun i => if h : i < len then (each i h).choose else 0, fun i => if h : i < len then (each i h).choose_spec.choose else 0, rfl, by unfold maxLen at hm; omega, ?_, ?_, ?_⟩
    · intro i
      by_cases hi : i < len
      · simp only [hi, dif_pos]; exact (each i hi).choose_spec.choose_spec.2.2.1
      · simp only [hi, dif_neg, not_false_eq_true]; omega
    · intro i
      by_cases hi : i < len
      · simp only [hi, dif_pos]; exact (each i hi).choose_spec.choose_spec.2.2.2
      · simp only [hi, dif_neg, not_false_eq_true]; omega
    · intro hn
      refine ⟨a, rfl, ?_, fun i hi => ?_⟩
      · obtain ⟨p, r, h1, _⟩ := each 0 hn
        have := block_lt_of_cell h1
        rwa [add_block] at this
      · simp only [hi, dif_pos]
        exact ⟨(each i hi).choose_spec.choose_spec.1, (each i hi).choose_spec.choose_spec.2.1⟩
/-- an argument that is a programme -/
theorem open_prog {r : Reach} {b0 : Nat} {v : Value} {d : DataW H} {p : List MemPlace} (hv : Value.okWide Try.prog w r b0 30 v) (h : DataW.Trod enc Try.prog w base spare held 30 v d p) :
    ∃ a n c F T O, v = .agg (pc a n c O) ∧ n ≤ 9223372036854775807 ∧ I16 F ∧ I16 T ∧ I8 O ∧ SecIn w a n F T := by
  obtain ⟨cs, rfl, hsz⟩ := okWide_struct Try.underlying30 hv
  rw [cellsPrg] at hsz
  obtain ⟨fuel, hf⟩ := h
  obtain ⟨y0, y1, m, _, _, h0, h1⟩ := trod_struct2 Try.underlying30 hf
  simp only [Value.cells] at h0 h1
  rw [cellsSS] at h0
  rw [cellsOrd] at h1
  obtain ⟨a, n, c, F, T, e, hn, hF, hT, hI⟩ := open_secs h0
  obtain ⟨O, hO, e2⟩ := trod_ord (cs := ((cs.toList.drop 1).take 48).toArray) (by simp [hsz]) (by simpa using h1)
  refine ⟨a, n, c, F, T, O, ?_, hn, hF, hT, hO, hI⟩
  congr 1
  have e1 : cs.toList = .slice a n c :: (cs.toList.drop 1) := by
    cases hc : cs.toList with
    | nil => rw [hc] at e; simp at e
    | cons x l => rw [hc] at e; simp at e; rw [e]; rfl
  have e3 : cs.toList.drop 1 = (oc O).toList := by
    rw [← e2]
    simp only [List.toList_toArray]
    exact (List.take_of_length_le (by simp [hsz])).symm
  rw [e3] at e1
  unfold pc
  apply Array.toList_inj.1
  rw [e1]
  simp
end
end Go.Proofs.Ytfefclngfeihiaa
