/- The row of the law FnExactTurnProgramme, out of its walk. No conditions. -/
import Derived.Test.YtfefclngfeihiaaRows
import Derived.Test.YtfefclngfeihiaaOpen
import Derived.Test.YtfefclngfeihiaaOpenP
import Derived.Test.YtfefclngfeihiaaOpenS
import Derived.Test.YtfefclngfeihiaaLawTurnProgramme
import Derived.WalkKit
import Derived.ProofKit
import Derived.OpenShut
import Derived.ShutString
import Derived.ChangeOld
import Derived.Below
import Derived.SizedLaws
namespace Go.Proofs.Ytfefclngfeihiaa.fnExactTurnProgramme
open Go.ChangeShapes Go.WideShapes Go.ChangeAt Go.RowKit
set_option linter.unusedVariables false
theorem own : ownKnob Try.prog.godebug = none := by kernel_rfl
theorem laidOut : laidOutB Try.prog = true := by kernel_rfl
set_option maxRecDepth 100000 in
theorem lifted (os : Os) (started : os.Started) (H : Type) (enc : TypeId × Value → H) :
    ReturnsInHanded {} Try.checked os 3 .any (Rows.fnExactTurnProgrammeSpec.pre6 enc Try.prog Try.f3 Rows.fnExactTurnProgrammeRow.domain false) (Rows.fnExactTurnProgrammeSpec.post enc Try.prog Try.f3 false true false false) := by
  refine returnsInHanded_of_change_sized (C := Try.checked) own started (by kernel_rfl) Try.func3
    (ChangeSpec.witness6 (enc := enc) (C := Try.checked) false ⟨#[], #[.agg #[.int .i16 0, .slice none 0 0], .agg (#[.slice none 0 0] ++ Array.replicate 48 (.int .i8 0)), .int .i64 0], []⟩ 8 (by kernel_rfl) (by kernel_rfl) (by kernel_rfl) (by kernel_rfl)) ?_
  intro W base args ds gs before hval0 hW hcnd hsz0 _
  have hval : ∀ (j : Nat) t v, Try.f3.params[j]? = some t → args[j]? = some v → Value.okWide Try.prog W .any base t v := hval0
  have hW' := hW
  obtain ⟨p, q, hA0, hV, rfl, hfz, hnd⟩ := hW
  have hA : DataW.TrodAll enc Try.prog W 0 (fun _ => true) true Try.f3.params.toList args.toList ds p := hA0
  rw [Try.params3] at hA hval
  obtain ⟨v0, vs0, d0, ds0, p0, q0, hargs, rfl, rfl, h0, r0⟩ := trodAll_cons hA
  obtain ⟨v1, vs1, d1, ds1, p1, q1, rfl, rfl, rfl, h1, r1⟩ := trodAll_cons r0
  obtain ⟨v2, vs2, d2, ds2, p2, q2, rfl, rfl, rfl, h2, r2⟩ := trodAll_cons r1
  obtain ⟨rfl, rfl, rfl⟩ := trodAll_nil r2
  obtain rfl : args = #[v0, v1, v2] := by cases args; simp_all
  obtain ⟨rfl, rfl⟩ := trodVars_none hV
  have k0 := h0
  have lt0 : ∀ x ∈ p0, x.block < W.heap.size := by obtain ⟨m, hm⟩ := k0; exact DataW.trod_lt m _ _ _ hm
  obtain ⟨s0, a0, n0, c0, P0, R0, rfl, hs0, hn0, hP0, hR0, hh0⟩ := open_frame (hval 0 25 v0 rfl rfl) h0
  have k1 := h1
  have lt1 : ∀ x ∈ p1, x.block < W.heap.size := by obtain ⟨m, hm⟩ := k1; exact DataW.trod_lt m _ _ _ hm
  obtain ⟨a1, n1, c1, F1, T1, O1, rfl, hn1, hF1, hT1, hO1, hh1⟩ := open_prog (hval 1 30 v1 rfl rfl) h1
  have k2 := h2
  have lt2 : ∀ x ∈ p2, x.block < W.heap.size := by obtain ⟨m, hm⟩ := k2; exact DataW.trod_lt m _ _ _ hm
  obtain ⟨x2, rfl, _, _, hx2⟩ := open_int Try.underlying2 (hval 2 2 v2 rfl rfl) h2
  clear hA0 hval0 hsz0
  refine (lawTurnProgramme s0 a0 n0 c0 P0 R0 a1 n1 c1 F1 T1 O1 x2 W hn0 hs0 hP0 hR0 hh0 hn1 hF1 hT1 hO1 hh1 (wf_i64 hx2)).mono fun e W' ⟨he, bel⟩ => ?_
  subst he
  exact ⟨_, rfl, _, _, _, [], _, [], hW', trodAll_mk1 (shut_bool Try.underlying4 _), (trodAll_cons_mk (Below.trod laidOut (by kernel_rfl) (of_decide_eq_true (by kernel_rfl)) k0 bel lt0) (trodAll_cons_mk (Below.trod laidOut (by kernel_rfl) (of_decide_eq_true (by kernel_rfl)) k1 bel lt1) (trodAll_cons_mk (Below.trod laidOut (by kernel_rfl) (of_decide_eq_true (by kernel_rfl)) k2 bel lt2) trodAll_mk0))), rfl, bel.frame _, fun h => by cases h⟩
theorem facts0 : ((Rows.fnExactTurnProgrammeRow.wf (OpenSpec.ofChange Rows.fnExactTurnProgrammeSpec)) && (laidOutB Try.pinned.checked.prog) && (mapsRowed Try.pinned.checked.prog) && (Try.f3.params.all (Try.pinned.checked.prog.readableRec ·)) && (namedTie Try.pinned.checked.prog Rows.fnExactTurnProgrammeRow.named Rows.fnExactTurnProgrammeSpec.vars) && ((Rows.fnExactTurnProgrammeRow.stops == [])) && ((Try.pinned.checked.prog.stops == [])) && ((Rows.fnExactTurnProgrammeRow.knobs == [])) && ((Try.pinned.checked.prog.stopKnobs == []))) = true := by kernel_rfl
theorem facts1 : (((Rows.fnExactTurnProgrammeRow.inPlace == Try.pinned.checked.prog.inPlace 3)) && ((Rows.fnExactTurnProgrammeRow.unfollowed == Try.pinned.checked.prog.unfollowed 3)) && ((Rows.fnExactTurnProgrammeRow.recurses == Try.pinned.checked.prog.recurses 3)) && ((Rows.fnExactTurnProgrammeRow.named == Try.pinned.checked.prog.varsNamed 3))) = true := by kernel_rfl
theorem facts2 : (((Rows.fnExactTurnProgrammeRow.maps == (Try.f3.params.toList ++ Rows.fnExactTurnProgrammeSpec.plain.varTypes Try.pinned.checked.prog).any (Try.pinned.checked.prog.mapsRec ·))) && ((Rows.fnExactTurnProgrammeRow.ifaces == (Try.f3.params.toList ++ Rows.fnExactTurnProgrammeSpec.plain.varTypes Try.pinned.checked.prog).any (Try.pinned.checked.prog.ifacesRec ·))) && ((Rows.fnExactTurnProgrammeRow.mapsOut == Try.pinned.checked.prog.mapsAmong Try.f3.resultTypes.toList)) && ((Rows.fnExactTurnProgrammeRow.loops == (Try.f3.params.toList ++ Rows.fnExactTurnProgrammeSpec.plain.varTypes Try.pinned.checked.prog).any (Try.pinned.checked.prog.loopsFrom ·))) && ((Rows.fnExactTurnProgrammeRow.wideKeys == (Try.f3.params.toList ++ Rows.fnExactTurnProgrammeSpec.plain.varTypes Try.pinned.checked.prog ++ Try.f3.resultTypes.toList).any (Try.pinned.checked.prog.wideKeysFrom ·))) && (Rows.fnExactTurnProgrammeSpec.vars.all (Try.pinned.checked.prog.varReadable ·)) && (Try.f3.resultTypes.all (fun t => Try.pinned.checked.prog.readableRec t && decide (t < Try.pinned.checked.prog.types.size))) && ((Rows.fnExactTurnProgrammeRow.ifacesOut == Try.f3.resultTypes.toList.any (Try.pinned.checked.prog.ifacesRec ·))) && ((Rows.fnExactTurnProgrammeRow.loopsOut == Try.f3.resultTypes.toList.any (Try.pinned.checked.prog.loopsFrom ·)))) = true := by kernel_rfl
theorem facts3 : (((Rows.fnExactTurnProgrammeRow.plainKeys == Try.pinned.checked.prog.plainKeys)) && (Rows.fnExactTurnProgrammeRow.shortTexts.isNone) && (Try.pinned.checked.prog.stopsHeard) && (Try.pinned.checked.prog.mayEnter) && ((Rows.fnExactTurnProgrammeRow.lifted == Try.pinned.checked.prog.liftsFinal)) && ((Try.pinned.checked.prog.make == some Rows.fnExactTurnProgrammeRow.make))) = true := by kernel_rfl
theorem facts4 : (((Rows.fnExactTurnProgrammeRow.kinds == (if Rows.fnExactTurnProgrammeRow.domain.isEmpty then [] else Try.f3.params.toList.map fun t => match Try.pinned.checked.prog.underlying t with | some (.int k) => some k | _ => none))) && ((Rows.fnExactTurnProgrammeRow.pinned == Rows.fnExactTurnProgrammeRow.pinnedBy)) && ((Rows.fnExactTurnProgrammeRow.veiled == (Try.f3.params.toList ++ Rows.fnExactTurnProgrammeSpec.plain.varTypes Try.pinned.checked.prog ++ Try.f3.resultTypes.toList).any (Try.pinned.checked.prog.veiledRec ·))) && (Rows.fnExactTurnProgrammeRow.veiledFits Try.pinned.checked.prog Try.f3.params.toList (Try.f3.params.toList ++ Rows.fnExactTurnProgrammeSpec.plain.varTypes Try.pinned.checked.prog ++ Try.f3.resultTypes.toList))) = true := by kernel_rfl
set_option maxRecDepth 100000 in
theorem joined : joinedFacts Try.pinned.checked.prog 3 Try.f3 Rows.fnExactTurnProgrammeSpec Rows.fnExactTurnProgrammeRow = true := by
  have h0 := facts0
  have h1 := facts1
  have h2 := facts2
  have h3 := facts3
  have h4 := facts4
  simp only [Bool.and_eq_true] at h0 h1 h2 h3 h4
  obtain ⟨⟨⟨⟨⟨⟨⟨⟨p0, p1⟩, p2⟩, p3⟩, p4⟩, p5⟩, p6⟩, p7⟩, p8⟩ := h0
  obtain ⟨⟨⟨p9, p10⟩, p11⟩, p12⟩ := h1
  obtain ⟨⟨⟨⟨⟨⟨⟨⟨p13, p14⟩, p15⟩, p16⟩, p17⟩, p18⟩, p19⟩, p20⟩, p21⟩ := h2
  obtain ⟨⟨⟨⟨⟨p22, p23⟩, p24⟩, p25⟩, p26⟩, p27⟩ := h3
  obtain ⟨⟨⟨p28, p29⟩, p30⟩, p31⟩ := h4
  simp only [joinedFacts, Bool.and_eq_true]
  exact ⟨⟨⟨⟨⟨⟨⟨⟨⟨⟨⟨⟨⟨⟨⟨⟨⟨⟨⟨⟨⟨⟨⟨⟨⟨⟨⟨⟨⟨⟨⟨p0, p1⟩, p2⟩, p3⟩, p4⟩, p5⟩, p6⟩, p7⟩, p8⟩, p9⟩, p10⟩, p11⟩, p12⟩, p13⟩, p14⟩, p15⟩, p16⟩, p17⟩, p18⟩, p19⟩, p20⟩, p21⟩, p22⟩, p23⟩, p24⟩, p25⟩, p26⟩, p27⟩, p28⟩, p29⟩, p30⟩, p31⟩
theorem over : Rows.fnExactTurnProgrammeRow.holds Try.pinned (OpenSpec.ofChange Rows.fnExactTurnProgrammeSpec) :=
  OpenClaim.holds_of_wide 3 Try.f3 rfl rfl rfl rfl rfl rfl rfl ⟨rfl, rfl, rfl, rfl, rfl⟩ rfl rfl rfl rfl rfl (by kernel_rfl) Try.func3 (by exact joined)
    (of_decide_eq_true (by kernel_rfl)) (by unfold Func.isWrapper; first | (rw [if_pos (by decide +kernel)]; kernel_rfl) | (rw [if_neg (by decide +kernel)]; exact ⟨rfl, rfl⟩))
    (fun os started H enc _ => lifted os started H enc)
theorem proved : Rows.FnExactTurnProgrammeSaid := over
end Go.Proofs.Ytfefclngfeihiaa.fnExactTurnProgramme
namespace Go.Proofs.Ytfefclngfeihiaa
/-- The row, under a short name, for the claim. -/
theorem fnExactTurnProgramme_holds : Rows.FnExactTurnProgrammeSaid := fnExactTurnProgramme.proved
#print axioms fnExactTurnProgramme_holds
end Go.Proofs.Ytfefclngfeihiaa
