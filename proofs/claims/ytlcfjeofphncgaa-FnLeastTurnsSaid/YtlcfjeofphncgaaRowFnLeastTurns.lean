/- The row of the law FnLeastTurns, out of its walk. No conditions. -/
import Derived.Test.YtlcfjeofphncgaaRows
import Derived.Test.YtlcfjeofphncgaaOpen
import Derived.Test.YtlcfjeofphncgaaOpenB
import Derived.Test.YtlcfjeofphncgaaLawLeastTurns
import Derived.WalkKit
import Derived.ProofKit
import Derived.OpenShut
import Derived.ShutString
import Derived.ChangeOld
import Derived.Below
import Derived.SizedLaws
namespace Go.Proofs.Ytlcfjeofphncgaa.fnLeastTurns
open Go.ChangeShapes Go.WideShapes Go.ChangeAt Go.RowKit
set_option linter.unusedVariables false
theorem own : ownKnob Try.prog.godebug = none := by kernel_rfl
theorem laidOut : laidOutB Try.prog = true := by kernel_rfl
set_option maxRecDepth 100000 in
theorem lifted (os : Os) (started : os.Started) (H : Type) (enc : TypeId × Value → H) :
    ReturnsInHanded {} Try.checked os 4 .any (Rows.fnLeastTurnsSpec.pre6 enc Try.prog Try.f4 Rows.fnLeastTurnsRow.domain false) (Rows.fnLeastTurnsSpec.post enc Try.prog Try.f4 false true false false) := by
  refine returnsInHanded_of_change_sized (C := Try.checked) own started (by kernel_rfl) Try.func4
    (ChangeSpec.witness6 (enc := enc) (C := Try.checked) false ⟨#[], #[.slice none 0 0, .slice none 0 0], []⟩ 8 (by kernel_rfl) (by kernel_rfl) (by kernel_rfl) (by kernel_rfl)) ?_
  intro W base args ds gs before hval0 hW hcnd hsz0 _
  have hval : ∀ (j : Nat) t v, Try.f4.params[j]? = some t → args[j]? = some v → Value.okWide Try.prog W .any base t v := hval0
  have hW' := hW
  obtain ⟨p, q, hA0, hV, rfl, hfz, hnd⟩ := hW
  have hA : DataW.TrodAll enc Try.prog W 0 (fun _ => true) true Try.f4.params.toList args.toList ds p := hA0
  rw [Try.params4] at hA hval
  obtain ⟨v0, vs0, d0, ds0, p0, q0, hargs, rfl, rfl, h0, r0⟩ := trodAll_cons hA
  obtain ⟨v1, vs1, d1, ds1, p1, q1, rfl, rfl, rfl, h1, r1⟩ := trodAll_cons r0
  obtain ⟨rfl, rfl, rfl⟩ := trodAll_nil r1
  obtain rfl : args = #[v0, v1] := by cases args; simp_all
  obtain ⟨rfl, rfl⟩ := trodVars_none hV
  have k0 := h0
  have lt0 : ∀ x ∈ p0, x.block < W.heap.size := by obtain ⟨m, hm⟩ := k0; exact DataW.trod_lt m _ _ _ hm
  obtain ⟨a0, n0, c0, B0, rfl, hn0, hu0, hb0⟩ := open_bytes (hval 0 22 v0 rfl rfl) h0
  have k1 := h1
  have lt1 : ∀ x ∈ p1, x.block < W.heap.size := by obtain ⟨m, hm⟩ := k1; exact DataW.trod_lt m _ _ _ hm
  obtain ⟨a1, n1, c1, B1, rfl, hn1, hu1, hb1⟩ := open_bytes (hval 1 22 v1 rfl rfl) h1
  clear hA0 hval0 hsz0
  refine (lawLeastTurns a0 n0 c0 B0 a1 n1 c1 B1 W hn0 hu0 hb0 hn1 hu1 hb1).mono fun e W' ⟨he, bel⟩ => ?_
  subst he
  exact ⟨_, rfl, _, _, _, [], _, [], hW', trodAll_mk1 (shut_bool Try.underlying4 _), (trodAll_cons_mk (Below.trod laidOut (by kernel_rfl) (of_decide_eq_true (by kernel_rfl)) k0 bel lt0) (trodAll_cons_mk (Below.trod laidOut (by kernel_rfl) (of_decide_eq_true (by kernel_rfl)) k1 bel lt1) trodAll_mk0)), rfl, bel.frame _, fun h => by cases h⟩
theorem facts0 : ((Rows.fnLeastTurnsRow.wf (OpenSpec.ofChange Rows.fnLeastTurnsSpec)) && (laidOutB Try.pinned.checked.prog) && (mapsRowed Try.pinned.checked.prog) && (Try.f4.params.all (Try.pinned.checked.prog.readableRec ·)) && (namedTie Try.pinned.checked.prog Rows.fnLeastTurnsRow.named Rows.fnLeastTurnsSpec.vars) && ((Rows.fnLeastTurnsRow.stops == [])) && ((Try.pinned.checked.prog.stops == [])) && ((Rows.fnLeastTurnsRow.knobs == [])) && ((Try.pinned.checked.prog.stopKnobs == []))) = true := by kernel_rfl
theorem facts1 : (((Rows.fnLeastTurnsRow.inPlace == Try.pinned.checked.prog.inPlace 4)) && ((Rows.fnLeastTurnsRow.unfollowed == Try.pinned.checked.prog.unfollowed 4)) && ((Rows.fnLeastTurnsRow.recurses == Try.pinned.checked.prog.recurses 4)) && ((Rows.fnLeastTurnsRow.named == Try.pinned.checked.prog.varsNamed 4))) = true := by kernel_rfl
theorem facts2 : (((Rows.fnLeastTurnsRow.maps == (Try.f4.params.toList ++ Rows.fnLeastTurnsSpec.plain.varTypes Try.pinned.checked.prog).any (Try.pinned.checked.prog.mapsRec ·))) && ((Rows.fnLeastTurnsRow.ifaces == (Try.f4.params.toList ++ Rows.fnLeastTurnsSpec.plain.varTypes Try.pinned.checked.prog).any (Try.pinned.checked.prog.ifacesRec ·))) && ((Rows.fnLeastTurnsRow.mapsOut == Try.pinned.checked.prog.mapsAmong Try.f4.resultTypes.toList)) && ((Rows.fnLeastTurnsRow.loops == (Try.f4.params.toList ++ Rows.fnLeastTurnsSpec.plain.varTypes Try.pinned.checked.prog).any (Try.pinned.checked.prog.loopsFrom ·))) && ((Rows.fnLeastTurnsRow.wideKeys == (Try.f4.params.toList ++ Rows.fnLeastTurnsSpec.plain.varTypes Try.pinned.checked.prog ++ Try.f4.resultTypes.toList).any (Try.pinned.checked.prog.wideKeysFrom ·))) && (Rows.fnLeastTurnsSpec.vars.all (Try.pinned.checked.prog.varReadable ·)) && (Try.f4.resultTypes.all (fun t => Try.pinned.checked.prog.readableRec t && decide (t < Try.pinned.checked.prog.types.size))) && ((Rows.fnLeastTurnsRow.ifacesOut == Try.f4.resultTypes.toList.any (Try.pinned.checked.prog.ifacesRec ·))) && ((Rows.fnLeastTurnsRow.loopsOut == Try.f4.resultTypes.toList.any (Try.pinned.checked.prog.loopsFrom ·)))) = true := by kernel_rfl
theorem facts3 : (((Rows.fnLeastTurnsRow.plainKeys == Try.pinned.checked.prog.plainKeys)) && (Rows.fnLeastTurnsRow.shortTexts.isNone) && (Try.pinned.checked.prog.stopsHeard) && (Try.pinned.checked.prog.mayEnter) && ((Rows.fnLeastTurnsRow.lifted == Try.pinned.checked.prog.liftsFinal)) && ((Try.pinned.checked.prog.make == some Rows.fnLeastTurnsRow.make))) = true := by kernel_rfl
theorem facts4 : (((Rows.fnLeastTurnsRow.kinds == (if Rows.fnLeastTurnsRow.domain.isEmpty then [] else Try.f4.params.toList.map fun t => match Try.pinned.checked.prog.underlying t with | some (.int k) => some k | _ => none))) && ((Rows.fnLeastTurnsRow.pinned == Rows.fnLeastTurnsRow.pinnedBy)) && ((Rows.fnLeastTurnsRow.veiled == (Try.f4.params.toList ++ Rows.fnLeastTurnsSpec.plain.varTypes Try.pinned.checked.prog ++ Try.f4.resultTypes.toList).any (Try.pinned.checked.prog.veiledRec ·))) && (Rows.fnLeastTurnsRow.veiledFits Try.pinned.checked.prog Try.f4.params.toList (Try.f4.params.toList ++ Rows.fnLeastTurnsSpec.plain.varTypes Try.pinned.checked.prog ++ Try.f4.resultTypes.toList))) = true := by kernel_rfl
set_option maxRecDepth 100000 in
theorem joined : joinedFacts Try.pinned.checked.prog 4 Try.f4 Rows.fnLeastTurnsSpec Rows.fnLeastTurnsRow = true := by
  have h0 := facts0
  have h1 := facts1
  have h2 := facts2
  have h3 := facts3
  have h4 := facts4
  simp only [Bool.and_eq_true] at h0 h1 h2 h3 h4
  obtain ⟨⟨⟨⟨⟨⟨⟨⟨p0, p1⟩, p2⟩, p3⟩, p4⟩, p5⟩, p6⟩, p7⟩, p8⟩ := h0
  obtain ⟨⟨⟨p9, p10⟩, p11⟩, p12⟩ := h1
  obtain ⟨⟨⟨⟨⟨⟨⟨⟨p13, p14⟩, p15⟩, p16⟩, p17⟩, p18⟩, p19⟩, p20⟩, p21⟩ := h2
  obtain ⟨⟨⟨⟨⟨p22, p23⟩, p24⟩, p25⟩, p26⟩, p27⟩ := h3
  obtain ⟨⟨⟨p28, p29⟩, p30⟩, p31⟩ := h4
  simp only [joinedFacts, Bool.and_eq_true]
  exact ⟨⟨⟨⟨⟨⟨⟨⟨⟨⟨⟨⟨⟨⟨⟨⟨⟨⟨⟨⟨⟨⟨⟨⟨⟨⟨⟨⟨⟨⟨⟨p0, p1⟩, p2⟩, p3⟩, p4⟩, p5⟩, p6⟩, p7⟩, p8⟩, p9⟩, p10⟩, p11⟩, p12⟩, p13⟩, p14⟩, p15⟩, p16⟩, p17⟩, p18⟩, p19⟩, p20⟩, p21⟩, p22⟩, p23⟩, p24⟩, p25⟩, p26⟩, p27⟩, p28⟩, p29⟩, p30⟩, p31⟩
theorem over : Rows.fnLeastTurnsRow.holds Try.pinned (OpenSpec.ofChange Rows.fnLeastTurnsSpec) :=
  OpenClaim.holds_of_wide 4 Try.f4 rfl rfl rfl rfl rfl rfl rfl ⟨rfl, rfl, rfl, rfl, rfl⟩ rfl rfl rfl rfl rfl (by kernel_rfl) Try.func4 (by exact joined)
    (of_decide_eq_true (by kernel_rfl)) (by unfold Func.isWrapper; first | (rw [if_pos (by decide +kernel)]; kernel_rfl) | (rw [if_neg (by decide +kernel)]; exact ⟨rfl, rfl⟩))
    (fun os started H enc _ => lifted os started H enc)
theorem proved : Rows.FnLeastTurnsSaid := over
end Go.Proofs.Ytlcfjeofphncgaa.fnLeastTurns
namespace Go.Proofs.Ytlcfjeofphncgaa
/-- The row, under a short name, for the claim. -/
theorem fnLeastTurns_holds : Rows.FnLeastTurnsSaid := fnLeastTurns.proved
#print axioms fnLeastTurns_holds
end Go.Proofs.Ytlcfjeofphncgaa
