/- The row of the law FnExactShareGroups, out of its walk. No conditions. -/
import Derived.Test.YtpfjmoodfodfhaaRows
import Derived.Test.YtpfjmoodfodfhaaOpen
import Derived.Test.YtpfjmoodfodfhaaOpenD
import Derived.Test.YtpfjmoodfodfhaaLawShareGroups
import Derived.WalkKit
import Derived.ProofKit
import Derived.OpenShut
import Derived.ShutString
import Derived.ChangeOld
import Derived.Below
import Derived.SizedLaws
namespace Go.Proofs.Ytpfjmoodfodfhaa.fnExactShareGroups
open Go.ChangeShapes Go.WideShapes Go.ChangeAt Go.RowKit
set_option linter.unusedVariables false
theorem own : ownKnob Try.prog.godebug = none := by kernel_rfl
theorem laidOut : laidOutB Try.prog = true := by kernel_rfl
set_option maxRecDepth 100000 in
theorem lifted (os : Os) (started : os.Started) (H : Type) (enc : TypeId × Value → H) :
    ReturnsInHanded {} Try.checked os 4 .any (Rows.fnExactShareGroupsSpec.pre6 enc Try.prog Try.f4 Rows.fnExactShareGroupsRow.domain false) (Rows.fnExactShareGroupsSpec.post enc Try.prog Try.f4 false true false false) := by
  refine returnsInHanded_of_change_sized (C := Try.checked) own started (by kernel_rfl) Try.func4
    (ChangeSpec.witness6 (enc := enc) (C := Try.checked) false ⟨#[], #[.agg #[.int .i16 0, .slice none 0 0], .slice none 0 0], []⟩ 8 (by kernel_rfl) (by kernel_rfl) (by kernel_rfl) (by kernel_rfl)) ?_
  intro W base args ds gs before hval0 hW hcnd hsz0 _
  have hval : ∀ (j : Nat) t v, Try.f4.params[j]? = some t → args[j]? = some v → Value.okWide Try.prog W .any base t v := hval0
  have hW' := hW
  obtain ⟨p, q, hA0, hV, rfl, hfz, hnd⟩ := hW
  have hA : DataW.TrodAll enc Try.prog W 0 (fun _ => true) true Try.f4.params.toList args.toList ds p := hA0
  rw [Try.params4] at hA hval
  obtain ⟨v0, vs0, d0, ds0, p0, q0, hargs, rfl, rfl, h0, r0⟩ := trodAll_cons hA
  obtain ⟨v1, vs1, d1, ds1, p1, q1, rfl, rfl, rfl, h1, r1⟩ := trodAll_cons r0
  obtain ⟨rfl, rfl, rfl⟩ := trodAll_nil r1
  obtain rfl : args = #[v0, v1] := by cases args; simp_all
  obtain ⟨rfl, rfl⟩ := trodVars_none hV
  have k0 := h0
  have lt0 : ∀ x ∈ p0, x.block < W.heap.size := by obtain ⟨m, hm⟩ := k0; exact DataW.trod_lt m _ _ _ hm
  obtain ⟨s0, a0, n0, c0, P0, R0, rfl, hs0, hn0, hP0, hR0, hh0⟩ := open_frame (hval 0 40 v0 rfl rfl) h0
  have k1 := h1
  have lt1 : ∀ x ∈ p1, x.block < W.heap.size := by obtain ⟨m, hm⟩ := k1; exact DataW.trod_lt m _ _ _ hm
  obtain ⟨a1, n1, c1, L1, rfl, hn1, hL1, hh1⟩ := open_drums (hval 1 41 v1 rfl rfl) h1
  clear hA0 hval0 hsz0
  refine (lawShareGroups s0 a0 n0 c0 P0 R0 a1 n1 c1 L1 W hn0 hs0 hP0 hR0 hh0 hn1 hL1 hh1).mono fun e W' ⟨he, bel⟩ => ?_
  subst he
  exact ⟨_, rfl, _, _, _, [], _, [], hW', trodAll_mk1 (shut_bool Try.underlying4 _), (trodAll_cons_mk (Below.trod laidOut (by kernel_rfl) (of_decide_eq_true (by kernel_rfl)) k0 bel lt0) (trodAll_cons_mk (Below.trod laidOut (by kernel_rfl) (of_decide_eq_true (by kernel_rfl)) k1 bel lt1) trodAll_mk0)), rfl, bel.frame _, fun h => by cases h⟩
theorem facts0 : ((Rows.fnExactShareGroupsRow.wf (OpenSpec.ofChange Rows.fnExactShareGroupsSpec)) && (laidOutB Try.pinned.checked.prog) && (mapsRowed Try.pinned.checked.prog) && (Try.f4.params.all (Try.pinned.checked.prog.readableRec ·)) && (namedTie Try.pinned.checked.prog Rows.fnExactShareGroupsRow.named Rows.fnExactShareGroupsSpec.vars) && ((Rows.fnExactShareGroupsRow.stops == [])) && ((Try.pinned.checked.prog.stops == [])) && ((Rows.fnExactShareGroupsRow.knobs == [])) && ((Try.pinned.checked.prog.stopKnobs == []))) = true := by kernel_rfl
theorem facts1 : (((Rows.fnExactShareGroupsRow.inPlace == Try.pinned.checked.prog.inPlace 4)) && ((Rows.fnExactShareGroupsRow.unfollowed == Try.pinned.checked.prog.unfollowed 4)) && ((Rows.fnExactShareGroupsRow.recurses == Try.pinned.checked.prog.recurses 4)) && ((Rows.fnExactShareGroupsRow.named == Try.pinned.checked.prog.varsNamed 4))) = true := by kernel_rfl
theorem facts2 : (((Rows.fnExactShareGroupsRow.maps == (Try.f4.params.toList ++ Rows.fnExactShareGroupsSpec.plain.varTypes Try.pinned.checked.prog).any (Try.pinned.checked.prog.mapsRec ·))) && ((Rows.fnExactShareGroupsRow.ifaces == (Try.f4.params.toList ++ Rows.fnExactShareGroupsSpec.plain.varTypes Try.pinned.checked.prog).any (Try.pinned.checked.prog.ifacesRec ·))) && ((Rows.fnExactShareGroupsRow.mapsOut == Try.pinned.checked.prog.mapsAmong Try.f4.resultTypes.toList)) && ((Rows.fnExactShareGroupsRow.loops == (Try.f4.params.toList ++ Rows.fnExactShareGroupsSpec.plain.varTypes Try.pinned.checked.prog).any (Try.pinned.checked.prog.loopsFrom ·))) && ((Rows.fnExactShareGroupsRow.wideKeys == (Try.f4.params.toList ++ Rows.fnExactShareGroupsSpec.plain.varTypes Try.pinned.checked.prog ++ Try.f4.resultTypes.toList).any (Try.pinned.checked.prog.wideKeysFrom ·))) && (Rows.fnExactShareGroupsSpec.vars.all (Try.pinned.checked.prog.varReadable ·)) && (Try.f4.resultTypes.all (fun t => Try.pinned.checked.prog.readableRec t && decide (t < Try.pinned.checked.prog.types.size))) && ((Rows.fnExactShareGroupsRow.ifacesOut == Try.f4.resultTypes.toList.any (Try.pinned.checked.prog.ifacesRec ·))) && ((Rows.fnExactShareGroupsRow.loopsOut == Try.f4.resultTypes.toList.any (Try.pinned.checked.prog.loopsFrom ·)))) = true := by kernel_rfl
theorem facts3 : (((Rows.fnExactShareGroupsRow.plainKeys == Try.pinned.checked.prog.plainKeys)) && (Rows.fnExactShareGroupsRow.shortTexts.isNone) && (Try.pinned.checked.prog.stopsHeard) && (Try.pinned.checked.prog.mayEnter) && ((Rows.fnExactShareGroupsRow.lifted == Try.pinned.checked.prog.liftsFinal)) && ((Try.pinned.checked.prog.make == some Rows.fnExactShareGroupsRow.make))) = true := by kernel_rfl
theorem facts4 : (((Rows.fnExactShareGroupsRow.kinds == (if Rows.fnExactShareGroupsRow.domain.isEmpty then [] else Try.f4.params.toList.map fun t => match Try.pinned.checked.prog.underlying t with | some (.int k) => some k | _ => none))) && ((Rows.fnExactShareGroupsRow.pinned == Rows.fnExactShareGroupsRow.pinnedBy)) && ((Rows.fnExactShareGroupsRow.veiled == (Try.f4.params.toList ++ Rows.fnExactShareGroupsSpec.plain.varTypes Try.pinned.checked.prog ++ Try.f4.resultTypes.toList).any (Try.pinned.checked.prog.veiledRec ·))) && (Rows.fnExactShareGroupsRow.veiledFits Try.pinned.checked.prog Try.f4.params.toList (Try.f4.params.toList ++ Rows.fnExactShareGroupsSpec.plain.varTypes Try.pinned.checked.prog ++ Try.f4.resultTypes.toList))) = true := by kernel_rfl
set_option maxRecDepth 100000 in
theorem joined : joinedFacts Try.pinned.checked.prog 4 Try.f4 Rows.fnExactShareGroupsSpec Rows.fnExactShareGroupsRow = true := by
  have h0 := facts0
  have h1 := facts1
  have h2 := facts2
  have h3 := facts3
  have h4 := facts4
  simp only [Bool.and_eq_true] at h0 h1 h2 h3 h4
  obtain ⟨⟨⟨⟨⟨⟨⟨⟨p0, p1⟩, p2⟩, p3⟩, p4⟩, p5⟩, p6⟩, p7⟩, p8⟩ := h0
  obtain ⟨⟨⟨p9, p10⟩, p11⟩, p12⟩ := h1
  obtain ⟨⟨⟨⟨⟨⟨⟨⟨p13, p14⟩, p15⟩, p16⟩, p17⟩, p18⟩, p19⟩, p20⟩, p21⟩ := h2
  obtain ⟨⟨⟨⟨⟨p22, p23⟩, p24⟩, p25⟩, p26⟩, p27⟩ := h3
  obtain ⟨⟨⟨p28, p29⟩, p30⟩, p31⟩ := h4
  simp only [joinedFacts, Bool.and_eq_true]
  exact ⟨⟨⟨⟨⟨⟨⟨⟨⟨⟨⟨⟨⟨⟨⟨⟨⟨⟨⟨⟨⟨⟨⟨⟨⟨⟨⟨⟨⟨⟨⟨p0, p1⟩, p2⟩, p3⟩, p4⟩, p5⟩, p6⟩, p7⟩, p8⟩, p9⟩, p10⟩, p11⟩, p12⟩, p13⟩, p14⟩, p15⟩, p16⟩, p17⟩, p18⟩, p19⟩, p20⟩, p21⟩, p22⟩, p23⟩, p24⟩, p25⟩, p26⟩, p27⟩, p28⟩, p29⟩, p30⟩, p31⟩
theorem over : Rows.fnExactShareGroupsRow.holds Try.pinned (OpenSpec.ofChange Rows.fnExactShareGroupsSpec) :=
  OpenClaim.holds_of_wide 4 Try.f4 rfl rfl rfl rfl rfl rfl rfl ⟨rfl, rfl, rfl, rfl, rfl⟩ rfl rfl rfl rfl rfl (by kernel_rfl) Try.func4 (by exact joined)
    (of_decide_eq_true (by kernel_rfl)) (by unfold Func.isWrapper; first | (rw [if_pos (by decide +kernel)]; kernel_rfl) | (rw [if_neg (by decide +kernel)]; exact ⟨rfl, rfl⟩))
    (fun os started H enc _ => lifted os started H enc)
theorem proved : Rows.FnExactShareGroupsSaid := over
end Go.Proofs.Ytpfjmoodfodfhaa.fnExactShareGroups
namespace Go.Proofs.Ytpfjmoodfodfhaa
/-- The row, under a short name, for the claim. -/
theorem fnExactShareGroups_holds : Rows.FnExactShareGroupsSaid := fnExactShareGroups.proved
#print axioms fnExactShareGroups_holds
end Go.Proofs.Ytpfjmoodfodfhaa
