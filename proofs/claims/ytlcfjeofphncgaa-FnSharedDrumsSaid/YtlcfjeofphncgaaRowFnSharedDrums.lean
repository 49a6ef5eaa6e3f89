/- The row of the law FnSharedDrums, out of its walk. No conditions. -/
import Derived.Test.YtlcfjeofphncgaaRows
import Derived.Test.YtlcfjeofphncgaaQ1
import Derived.Test.YtlcfjeofphncgaaQ6
import Derived.WalkKit
import Derived.ProofKit
import Derived.OpenShut
import Derived.ShutString
import Derived.ChangeOld
import Derived.Below
import Derived.SizedLaws
namespace Go.Proofs.Ytlcfjeofphncgaa.fnSharedDrums
open Go.ChangeShapes Go.WideShapes Go.ChangeAt Go.RowKit
set_option linter.unusedVariables false
theorem own : ownKnob Try.prog.godebug = none := by kernel_rfl
theorem laidOut : laidOutB Try.prog = true := by kernel_rfl
set_option maxRecDepth 100000 in
theorem lifted (os : Os) (started : os.Started) (H : Type) (enc : TypeId × Value → H) :
    ReturnsInHanded {} Try.checked os 3 .any (Rows.fnSharedDrumsSpec.pre6 enc Try.prog Try.f3 Rows.fnSharedDrumsRow.domain false) (Rows.fnSharedDrumsSpec.post enc Try.prog Try.f3 false true false false) := by
  refine returnsInHanded_of_change_sized (C := Try.checked) own started (by kernel_rfl) Try.func3
    (ChangeSpec.witness6 (enc := enc) (C := Try.checked) false ⟨#[], #[.slice none 0 0, .slice none 0 0], []⟩ 8 (by kernel_rfl) (by kernel_rfl) (by kernel_rfl) (by kernel_rfl)) ?_
  intro W base args ds gs before hval0 hW hcnd hsz0 _
  have hval : ∀ (j : Nat) t v, Try.f3.params[j]? = some t → args[j]? = some v → Value.okWide Try.prog W .any base t v := hval0
  have hW' := hW
  obtain ⟨p, q, hA0, hV, rfl, hfz, hnd⟩ := hW
  have hA : DataW.TrodAll enc Try.prog W 0 (fun _ => true) true Try.f3.params.toList args.toList ds p := hA0
  rw [Try.params3] at hA hval
  obtain ⟨v0, vs0, d0, ds0, p0, q0, hargs, rfl, rfl, h0, r0⟩ := trodAll_cons hA
  obtain ⟨v1, vs1, d1, ds1, p1, q1, rfl, rfl, rfl, h1, r1⟩ := trodAll_cons r0
  obtain ⟨rfl, rfl, rfl⟩ := trodAll_nil r1
  obtain rfl : args = #[v0, v1] := by cases args; simp_all
  obtain ⟨rfl, rfl⟩ := trodVars_none hV
  have k0 := h0
  have lt0 : ∀ x ∈ p0, x.block < W.heap.size := by obtain ⟨m, hm⟩ := k0; exact DataW.trod_lt m _ _ _ hm
  obtain ⟨a0, n0, c0, B0, rfl, hn0, hu0, hb0⟩ := open_bytes (hval 0 22 v0 rfl rfl) h0
  have k1 := h1
  have lt1 : ∀ x ∈ p1, x.block < W.heap.size := by obtain ⟨m, hm⟩ := k1; exact DataW.trod_lt m _ _ _ hm
  obtain ⟨a1, n1, c1, B1, rfl, hn1, hu1, hb1⟩ := open_bytes (hval 1 22 v1 rfl rfl) h1
  clear hA0 hval0 hsz0
  refine (lawSharedDrums a0 n0 c0 B0 a1 n1 c1 B1 W hn0 hu0 hb0 hn1 hu1 hb1).mono fun e W' ⟨he, bel⟩ => ?_
  subst he
  exact ⟨_, rfl, _, _, _, [], _, [], hW', trodAll_mk1 (shut_bool Try.underlying4 _), (trodAll_cons_mk (Below.trod laidOut (by kernel_rfl) (of_decide_eq_true (by kernel_rfl)) k0 bel lt0) (trodAll_cons_mk (Below.trod laidOut (by kernel_rfl) (of_decide_eq_true (by kernel_rfl)) k1 bel lt1) trodAll_mk0)), rfl, bel.frame _, fun h => by cases h⟩
theorem facts0 : ((Rows.fnSharedDrumsRow.wf (OpenSpec.ofChange Rows.fnSharedDrumsSpec)) && (laidOutB Try.pinned.checked.prog) && (mapsRowed Try.pinned.checked.prog) && (Try.f3.params.all (Try.pinned.checked.prog.readableRec ·)) && (namedTie Try.pinned.checked.prog Rows.fnSharedDrumsRow.named Rows.fnSharedDrumsSpec.vars) && ((Rows.fnSharedDrumsRow.stops == [])) && ((Try.pinned.checked.prog.stops == [])) && ((Rows.fnSharedDrumsRow.knobs == [])) && ((Try.pinned.checked.prog.stopKnobs == []))) = true := by kernel_rfl
theorem facts1 : (((Rows.fnSharedDrumsRow.inPlace == Try.pinned.checked.prog.inPlace 3)) && ((Rows.fnSharedDrumsRow.unfollowed == Try.pinned.checked.prog.unfollowed 3)) && ((Rows.fnSharedDrumsRow.recurses == Try.pinned.checked.prog.recurses 3)) && ((Rows.fnSharedDrumsRow.named == Try.pinned.checked.prog.varsNamed 3))) = true := by kernel_rfl
theorem facts2 : (((Rows.fnSharedDrumsRow.maps == (Try.f3.params.toList ++ Rows.fnSharedDrumsSpec.plain.varTypes Try.pinned.checked.prog).any (Try.pinned.checked.prog.mapsRec ·))) && ((Rows.fnSharedDrumsRow.ifaces == (Try.f3.params.toList ++ Rows.fnSharedDrumsSpec.plain.varTypes Try.pinned.checked.prog).any (Try.pinned.checked.prog.ifacesRec ·))) && ((Rows.fnSharedDrumsRow.mapsOut == Try.pinned.checked.prog.mapsAmong Try.f3.resultTypes.toList)) && ((Rows.fnSharedDrumsRow.loops == (Try.f3.params.toList ++ Rows.fnSharedDrumsSpec.plain.varTypes Try.pinned.checked.prog).any (Try.pinned.checked.prog.loopsFrom ·))) && ((Rows.fnSharedDrumsRow.wideKeys == (Try.f3.params.toList ++ Rows.fnSharedDrumsSpec.plain.varTypes Try.pinned.checked.prog ++ Try.f3.resultTypes.toList).any (Try.pinned.checked.prog.wideKeysFrom ·))) && (Rows.fnSharedDrumsSpec.vars.all (Try.pinned.checked.prog.varReadable ·)) && (Try.f3.resultTypes.all (fun t => Try.pinned.checked.prog.readableRec t && decide (t < Try.pinned.checked.prog.types.size))) && ((Rows.fnSharedDrumsRow.ifacesOut == Try.f3.resultTypes.toList.any (Try.pinned.checked.prog.ifacesRec ·))) && ((Rows.fnSharedDrumsRow.loopsOut == Try.f3.resultTypes.toList.any (Try.pinned.checked.prog.loopsFrom ·)))) = true := by kernel_rfl
theorem facts3 : (((Rows.fnSharedDrumsRow.plainKeys == Try.pinned.checked.prog.plainKeys)) && (Rows.fnSharedDrumsRow.shortTexts.isNone) && (Try.pinned.checked.prog.stopsHeard) && (Try.pinned.checked.prog.mayEnter) && ((Rows.fnSharedDrumsRow.lifted == Try.pinned.checked.prog.liftsFinal)) && ((Try.pinned.checked.prog.make == some Rows.fnSharedDrumsRow.make))) = true := by kernel_rfl
theorem facts4 : (((Rows.fnSharedDrumsRow.kinds == (if Rows.fnSharedDrumsRow.domain.isEmpty then [] else Try.f3.params.toList.map fun t => match Try.pinned.checked.prog.underlying t with | some (.int k) => some k | _ => none))) && ((Rows.fnSharedDrumsRow.pinned == Rows.fnSharedDrumsRow.pinnedBy)) && ((Rows.fnSharedDrumsRow.veiled == (Try.f3.params.toList ++ Rows.fnSharedDrumsSpec.plain.varTypes Try.pinned.checked.prog ++ Try.f3.resultTypes.toList).any (Try.pinned.checked.prog.veiledRec ·))) && (Rows.fnSharedDrumsRow.veiledFits Try.pinned.checked.prog Try.f3.params.toList (Try.f3.params.toList ++ Rows.fnSharedDrumsSpec.plain.varTypes Try.pinned.checked.prog ++ Try.f3.resultTypes.toList))) = true := by kernel_rfl
set_option maxRecDepth 100000 in
theorem joined : joinedFacts Try.pinned.checked.prog 3 Try.f3 Rows.fnSharedDrumsSpec Rows.fnSharedDrumsRow = true := by
  have h0 := facts0
  have h1 := facts1
  have h2 := facts2
  have h3 := facts3
  have h4 := facts4
  simp only [Bool.and_eq_true] at h0 h1 h2 h3 h4
  obtain ⟨⟨⟨⟨⟨⟨⟨⟨p0, p1⟩, p2⟩, p3⟩, p4⟩, p5⟩, p6⟩, p7⟩, p8⟩ := h0
  obtain ⟨⟨⟨p9, p10⟩, p11⟩, p12⟩ := h1
  obtain ⟨⟨⟨⟨⟨⟨⟨⟨p13, p14⟩, p15⟩, p16⟩, p17⟩, p18⟩, p19⟩, p20⟩, p21⟩ := h2
  obtain ⟨⟨⟨⟨⟨p22, p23⟩, p24⟩, p25⟩, p26⟩, p27⟩ := h3
  obtain ⟨⟨⟨p28, p29⟩, p30⟩, p31⟩ := h4
  simp only [joinedFacts, Bool.and_eq_true]
  exact ⟨⟨⟨⟨⟨⟨⟨⟨⟨⟨⟨⟨⟨⟨⟨⟨⟨⟨⟨⟨⟨⟨⟨⟨⟨⟨⟨⟨⟨⟨⟨p0, p1⟩, p2⟩, p3⟩, p4⟩, p5⟩, p6⟩, p7⟩, p8⟩, p9⟩, p10⟩, p11⟩, p12⟩, p13⟩, p14⟩, p15⟩, p16⟩, p17⟩, p18⟩, p19⟩, p20⟩, p21⟩, p22⟩, p23⟩, p24⟩, p25⟩, p26⟩, p27⟩, p28⟩, p29⟩, p30⟩, p31⟩
theorem over : Rows.fnSharedDrumsRow.holds Try.pinned (OpenSpec.ofChange Rows.fnSharedDrumsSpec) :=
  OpenClaim.holds_of_wide 3 Try.f3 rfl rfl rfl rfl rfl rfl rfl ⟨rfl, rfl, rfl, rfl, rfl⟩ rfl rfl rfl rfl rfl (by kernel_rfl) Try.func3 (by exact joined)
    (of_decide_eq_true (by kernel_rfl)) (by unfold Func.isWrapper; first | (rw [if_pos (by decide +kernel)]; kernel_rfl) | (rw [if_neg (by decide +kernel)]; exact ⟨rfl, rfl⟩))
    (fun os started H enc _ => lifted os started H enc)
theorem proved : Rows.FnSharedDrumsSaid := over
end Go.Proofs.Ytlcfjeofphncgaa.fnSharedDrums
namespace Go.Proofs.Ytlcfjeofphncgaa
/-- The row, under a short name, for the claim. -/
theorem fnSharedDrums_holds : Rows.FnSharedDrumsSaid := fnSharedDrums.proved
#print axioms fnSharedDrums_holds
end Go.Proofs.Ytlcfjeofphncgaa
