/- The row of the law FnExactCheckPinning, out of its walk. No conditions. -/
import Derived.Test.YteffaghcjpeblaaRows
import Derived.Test.YteffaghcjpeblaaOpen
import Derived.Test.YteffaghcjpeblaaOpenT
import Derived.Test.YteffaghcjpeblaaLawCheckPinning
import Derived.WalkKit
import Derived.ProofKit
import Derived.OpenShut
import Derived.ShutString
import Derived.ChangeOld
import Derived.Below
import Derived.SizedLaws
namespace Go.Proofs.Yteffaghcjpeblaa.fnExactCheckPinning
open Go.ChangeShapes Go.WideShapes Go.ChangeAt Go.RowKit
set_option linter.unusedVariables false
theorem own : ownKnob Try.prog.godebug = none := by kernel_rfl
theorem laidOut : laidOutB Try.prog = true := by kernel_rfl
set_option maxRecDepth 100000 in
theorem lifted (os : Os) (started : os.Started) (H : Type) (enc : TypeId × Value → H) :
    ReturnsInHanded {} Try.checked os 4 .any (Rows.fnExactCheckPinningSpec.pre6 enc Try.prog Try.f4 Rows.fnExactCheckPinningRow.domain false) (Rows.fnExactCheckPinningSpec.post enc Try.prog Try.f4 false true false false) := by
  refine returnsInHanded_of_change_sized (C := Try.checked) own started (by kernel_rfl) Try.func4
    (ChangeSpec.witness6 (enc := enc) (C := Try.checked) false ⟨#[], #[.agg #[.int .i16 0, .slice none 0 0], .slice none 0 0, .agg (Array.replicate 96 (.int .u32 0))], []⟩ 8 (by kernel_rfl) (by kernel_rfl) (by kernel_rfl) (by kernel_rfl)) ?_
  intro W base args ds gs before hval0 hW hcnd hsz0 _
  have hval : ∀ (j : Nat) t v, Try.f4.params[j]? = some t → args[j]? = some v → Value.okWide Try.prog W .any base t v := hval0
  have hW' := hW
  obtain ⟨p, q, hA0, hV, rfl, hfz, hnd⟩ := hW
  have hA : DataW.TrodAll enc Try.prog W 0 (fun _ => true) true Try.f4.params.toList args.toList ds p := hA0
  rw [Try.params4] at hA hval
  obtain ⟨v0, vs0, d0, ds0, p0, q0, hargs, rfl, rfl, h0, r0⟩ := trodAll_cons hA
  obtain ⟨v1, vs1, d1, ds1, p1, q1, rfl, rfl, rfl, h1, r1⟩ := trodAll_cons r0
  obtain ⟨v2, vs2, d2, ds2, p2, q2, rfl, rfl, rfl, h2, r2⟩ := trodAll_cons r1
  obtain ⟨rfl, rfl, rfl⟩ := trodAll_nil r2
  obtain rfl : args = #[v0, v1, v2] := by cases args; simp_all
  obtain ⟨rfl, rfl⟩ := trodVars_none hV
  have k0 := h0
  have lt0 : ∀ x ∈ p0, x.block < W.heap.size := by obtain ⟨m, hm⟩ := k0; exact DataW.trod_lt m _ _ _ hm
  obtain ⟨s0, a0, n0, c0, P0, R0, rfl, hs0, hn0, hP0, hR0, hh0⟩ := open_frame (hval 0 40 v0 rfl rfl) h0
  have k1 := h1
  have lt1 : ∀ x ∈ p1, x.block < W.heap.size := by obtain ⟨m, hm⟩ := k1; exact DataW.trod_lt m _ _ _ hm
  obtain ⟨a1, n1, c1, A1, P1, rfl, hn1, hA1, hP1, hh1⟩ := open_tune (hval 1 22 v1 rfl rfl) h1
  have k2 := h2
  have lt2 : ∀ x ∈ p2, x.block < W.heap.size := by obtain ⟨m, hm⟩ := k2; exact DataW.trod_lt m _ _ _ hm
  obtain ⟨D2, hD2, rfl⟩ := open_arr (hval 2 42 v2 rfl rfl) h2
  clear hA0 hval0 hsz0
  refine (lawCheckPinning s0 a0 n0 c0 P0 R0 a1 n1 c1 A1 P1 D2 W hn0 hs0 hP0 hR0 hh0 hn1 hA1 hP1 hh1 hD2).mono fun e W' ⟨he, bel⟩ => ?_
  subst he
  exact ⟨_, rfl, _, _, _, [], _, [], hW', trodAll_mk1 (shut_bool Try.underlying4 _), (trodAll_cons_mk (Below.trod laidOut (by kernel_rfl) (of_decide_eq_true (by kernel_rfl)) k0 bel lt0) (trodAll_cons_mk (Below.trod laidOut (by kernel_rfl) (of_decide_eq_true (by kernel_rfl)) k1 bel lt1) (trodAll_cons_mk (Below.trod laidOut (by kernel_rfl) (of_decide_eq_true (by kernel_rfl)) k2 bel lt2) trodAll_mk0))), rfl, bel.frame _, fun h => by cases h⟩
theorem facts0 : ((Rows.fnExactCheckPinningRow.wf (OpenSpec.ofChange Rows.fnExactCheckPinningSpec)) && (laidOutB Try.pinned.checked.prog) && (mapsRowed Try.pinned.checked.prog) && (Try.f4.params.all (Try.pinned.checked.prog.readableRec ·)) && (namedTie Try.pinned.checked.prog Rows.fnExactCheckPinningRow.named Rows.fnExactCheckPinningSpec.vars) && ((Rows.fnExactCheckPinningRow.stops == [])) && ((Try.pinned.checked.prog.stops == [])) && ((Rows.fnExactCheckPinningRow.knobs == [])) && ((Try.pinned.checked.prog.stopKnobs == []))) = true := by kernel_rfl
theorem facts1 : (((Rows.fnExactCheckPinningRow.inPlace == Try.pinned.checked.prog.inPlace 4)) && ((Rows.fnExactCheckPinningRow.unfollowed == Try.pinned.checked.prog.unfollowed 4)) && ((Rows.fnExactCheckPinningRow.recurses == Try.pinned.checked.prog.recurses 4)) && ((Rows.fnExactCheckPinningRow.named == Try.pinned.checked.prog.varsNamed 4))) = true := by kernel_rfl
theorem facts2 : (((Rows.fnExactCheckPinningRow.maps == (Try.f4.params.toList ++ Rows.fnExactCheckPinningSpec.plain.varTypes Try.pinned.checked.prog).any (Try.pinned.checked.prog.mapsRec ·))) && ((Rows.fnExactCheckPinningRow.ifaces == (Try.f4.params.toList ++ Rows.fnExactCheckPinningSpec.plain.varTypes Try.pinned.checked.prog).any (Try.pinned.checked.prog.ifacesRec ·))) && ((Rows.fnExactCheckPinningRow.mapsOut == Try.pinned.checked.prog.mapsAmong Try.f4.resultTypes.toList)) && ((Rows.fnExactCheckPinningRow.loops == (Try.f4.params.toList ++ Rows.fnExactCheckPinningSpec.plain.varTypes Try.pinned.checked.prog).any (Try.pinned.checked.prog.loopsFrom ·))) && ((Rows.fnExactCheckPinningRow.wideKeys == (Try.f4.params.toList ++ Rows.fnExactCheckPinningSpec.plain.varTypes Try.pinned.checked.prog ++ Try.f4.resultTypes.toList).any (Try.pinned.checked.prog.wideKeysFrom ·))) && (Rows.fnExactCheckPinningSpec.vars.all (Try.pinned.checked.prog.varReadable ·)) && (Try.f4.resultTypes.all (fun t => Try.pinned.checked.prog.readableRec t && decide (t < Try.pinned.checked.prog.types.size))) && ((Rows.fnExactCheckPinningRow.ifacesOut == Try.f4.resultTypes.toList.any (Try.pinned.checked.prog.ifacesRec ·))) && ((Rows.fnExactCheckPinningRow.loopsOut == Try.f4.resultTypes.toList.any (Try.pinned.checked.prog.loopsFrom ·)))) = true := by kernel_rfl
theorem facts3 : (((Rows.fnExactCheckPinningRow.plainKeys == Try.pinned.checked.prog.plainKeys)) && (Rows.fnExactCheckPinningRow.shortTexts.isNone) && (Try.pinned.checked.prog.stopsHeard) && (Try.pinned.checked.prog.mayEnter) && ((Rows.fnExactCheckPinningRow.lifted == Try.pinned.checked.prog.liftsFinal)) && ((Try.pinned.checked.prog.make == some Rows.fnExactCheckPinningRow.make))) = true := by kernel_rfl
theorem facts4 : (((Rows.fnExactCheckPinningRow.kinds == (if Rows.fnExactCheckPinningRow.domain.isEmpty then [] else Try.f4.params.toList.map fun t => match Try.pinned.checked.prog.underlying t with | some (.int k) => some k | _ => none))) && ((Rows.fnExactCheckPinningRow.pinned == Rows.fnExactCheckPinningRow.pinnedBy)) && ((Rows.fnExactCheckPinningRow.veiled == (Try.f4.params.toList ++ Rows.fnExactCheckPinningSpec.plain.varTypes Try.pinned.checked.prog ++ Try.f4.resultTypes.toList).any (Try.pinned.checked.prog.veiledRec ·))) && (Rows.fnExactCheckPinningRow.veiledFits Try.pinned.checked.prog Try.f4.params.toList (Try.f4.params.toList ++ Rows.fnExactCheckPinningSpec.plain.varTypes Try.pinned.checked.prog ++ Try.f4.resultTypes.toList))) = true := by kernel_rfl
set_option maxRecDepth 100000 in
theorem joined : joinedFacts Try.pinned.checked.prog 4 Try.f4 Rows.fnExactCheckPinningSpec Rows.fnExactCheckPinningRow = true := by
  have h0 := facts0
  have h1 := facts1
  have h2 := facts2
  have h3 := facts3
  have h4 := facts4
  simp only [Bool.and_eq_true] at h0 h1 h2 h3 h4
  obtain ⟨⟨⟨⟨⟨⟨⟨⟨p0, p1⟩, p2⟩, p3⟩, p4⟩, p5⟩, p6⟩, p7⟩, p8⟩ := h0
  obtain ⟨⟨⟨p9, p10⟩, p11⟩, p12⟩ := h1
  obtain ⟨⟨⟨⟨⟨⟨⟨⟨p13, p14⟩, p15⟩, p16⟩, p17⟩, p18⟩, p19⟩, p20⟩, p21⟩ := h2
  obtain ⟨⟨⟨⟨⟨p22, p23⟩, p24⟩, p25⟩, p26⟩, p27⟩ := h3
  obtain ⟨⟨⟨p28, p29⟩, p30⟩, p31⟩ := h4
  simp only [joinedFacts, Bool.and_eq_true]
  exact ⟨⟨⟨⟨⟨⟨⟨⟨⟨⟨⟨⟨⟨⟨⟨⟨⟨⟨⟨⟨⟨⟨⟨⟨⟨⟨⟨⟨⟨⟨⟨p0, p1⟩, p2⟩, p3⟩, p4⟩, p5⟩, p6⟩, p7⟩, p8⟩, p9⟩, p10⟩, p11⟩, p12⟩, p13⟩, p14⟩, p15⟩, p16⟩, p17⟩, p18⟩, p19⟩, p20⟩, p21⟩, p22⟩, p23⟩, p24⟩, p25⟩, p26⟩, p27⟩, p28⟩, p29⟩, p30⟩, p31⟩
theorem over : Rows.fnExactCheckPinningRow.holds Try.pinned (OpenSpec.ofChange Rows.fnExactCheckPinningSpec) :=
  OpenClaim.holds_of_wide 4 Try.f4 rfl rfl rfl rfl rfl rfl rfl ⟨rfl, rfl, rfl, rfl, rfl⟩ rfl rfl rfl rfl rfl (by kernel_rfl) Try.func4 (by exact joined)
    (of_decide_eq_true (by kernel_rfl)) (by unfold Func.isWrapper; first | (rw [if_pos (by decide +kernel)]; kernel_rfl) | (rw [if_neg (by decide +kernel)]; exact ⟨rfl, rfl⟩))
    (fun os started H enc _ => lifted os started H enc)
theorem proved : Rows.FnExactCheckPinningSaid := over
end Go.Proofs.Yteffaghcjpeblaa.fnExactCheckPinning
namespace Go.Proofs.Yteffaghcjpeblaa
/-- The row, under a short name, for the claim. -/
theorem fnExactCheckPinning_holds : Rows.FnExactCheckPinningSaid := fnExactCheckPinning.proved
#print axioms fnExactCheckPinning_holds
end Go.Proofs.Yteffaghcjpeblaa
