/- The row of the law FnExactLayTunes, out of its walk. No conditions. -/
import Derived.Test.YtpfjmoodfodfhaaRows
import Derived.Test.YtpfjmoodfodfhaaOpen
import Derived.Test.YtpfjmoodfodfhaaOpenU
import Derived.Test.YtpfjmoodfodfhaaOpenS
import Derived.Test.YtpfjmoodfodfhaaLawLayTunes
import Derived.WalkKit
import Derived.ProofKit
import Derived.OpenShut
import Derived.ShutString
import Derived.ChangeOld
import Derived.Below
import Derived.SizedLaws
namespace Go.Proofs.Ytpfjmoodfodfhaa.fnExactLayTunes
open Go.ChangeShapes Go.WideShapes Go.ChangeAt Go.RowKit
set_option linter.unusedVariables false
theorem own : ownKnob Try.prog.godebug = none := by kernel_rfl
theorem laidOut : laidOutB Try.prog = true := by kernel_rfl
set_option maxRecDepth 100000 in
theorem lifted (os : Os) (started : os.Started) (H : Type) (enc : TypeId × Value → H) :
    ReturnsInHanded {} Try.checked os 7 .any (Rows.fnExactLayTunesSpec.pre6 enc Try.prog Try.f7 Rows.fnExactLayTunesRow.domain false) (Rows.fnExactLayTunesSpec.post enc Try.prog Try.f7 false true false false) := by
  refine returnsInHanded_of_change_sized (C := Try.checked) own started (by kernel_rfl) Try.func7
    (ChangeSpec.witness6 (enc := enc) (C := Try.checked) false ⟨#[], #[.agg #[.int .i16 0, .slice none 0 0], .slice none 0 0, .int .i64 0], []⟩ 8 (by kernel_rfl) (by kernel_rfl) (by kernel_rfl) (by kernel_rfl)) ?_
  intro W base args ds gs before hval0 hW hcnd hsz0 _
  have hval : ∀ (j : Nat) t v, Try.f7.params[j]? = some t → args[j]? = some v → Value.okWide Try.prog W .any base t v := hval0
  have hW' := hW
  obtain ⟨p, q, hA0, hV, rfl, hfz, hnd⟩ := hW
  have hA : DataW.TrodAll enc Try.prog W 0 (fun _ => true) true Try.f7.params.toList args.toList ds p := hA0
  rw [Try.params7] at hA hval
  obtain ⟨v0, vs0, d0, ds0, p0, q0, hargs, rfl, rfl, h0, r0⟩ := trodAll_cons hA
  obtain ⟨v1, vs1, d1, ds1, p1, q1, rfl, rfl, rfl, h1, r1⟩ := trodAll_cons r0
  obtain ⟨v2, vs2, d2, ds2, p2, q2, rfl, rfl, rfl, h2, r2⟩ := trodAll_cons r1
  obtain ⟨rfl, rfl, rfl⟩ := trodAll_nil r2
  obtain rfl : args = #[v0, v1, v2] := by cases args; simp_all
  obtain ⟨rfl, rfl⟩ := trodVars_none hV
  have k0 := h0
  have lt0 : ∀ x ∈ p0, x.block < W.heap.size := by obtain ⟨m, hm⟩ := k0; exact DataW.trod_lt m _ _ _ hm
  obtain ⟨s0, a0, n0, c0, P0, R0, rfl, hs0, hn0, hP0, hR0, hh0⟩ := open_frame (hval 0 40 v0 rfl rfl) h0
  have k1 := h1
  have lt1 : ∀ x ∈ p1, x.block < W.heap.size := by obtain ⟨m, hm⟩ := k1; exact DataW.trod_lt m _ _ _ hm
  obtain ⟨a1, n1, c1, aa1, N1, C1, A1, Q1, rfl, hn1, hM1, hA1, hQ1, hh1⟩ := open_tunes (hval 1 76 v1 rfl rfl) h1
  have k2 := h2
  have lt2 : ∀ x ∈ p2, x.block < W.heap.size := by obtain ⟨m, hm⟩ := k2; exact DataW.trod_lt m _ _ _ hm
  obtain ⟨x2, rfl, _, _, hx2⟩ := open_int Try.underlying2 (hval 2 2 v2 rfl rfl) h2
  clear hA0 hval0 hsz0
  refine (lawLayTunes s0 a0 n0 c0 P0 R0 a1 n1 c1 aa1 N1 C1 A1 Q1 x2 W hn0 hs0 hP0 hR0 hh0 hn1 hM1 hA1 hQ1 hh1 (wf_i64 hx2)).mono fun e W' ⟨he, bel⟩ => ?_
  subst he
  exact ⟨_, rfl, _, _, _, [], _, [], hW', trodAll_mk1 (shut_bool Try.underlying4 _), (trodAll_cons_mk (Below.trod laidOut (by kernel_rfl) (of_decide_eq_true (by kernel_rfl)) k0 bel lt0) (trodAll_cons_mk (Below.trod laidOut (by kernel_rfl) (of_decide_eq_true (by kernel_rfl)) k1 bel lt1) (trodAll_cons_mk (Below.trod laidOut (by kernel_rfl) (of_decide_eq_true (by kernel_rfl)) k2 bel lt2) trodAll_mk0))), rfl, bel.frame _, fun h => by cases h⟩
theorem facts0 : ((Rows.fnExactLayTunesRow.wf (OpenSpec.ofChange Rows.fnExactLayTunesSpec)) && (laidOutB Try.pinned.checked.prog) && (mapsRowed Try.pinned.checked.prog) && (Try.f7.params.all (Try.pinned.checked.prog.readableRec ·)) && (namedTie Try.pinned.checked.prog Rows.fnExactLayTunesRow.named Rows.fnExactLayTunesSpec.vars) && ((Rows.fnExactLayTunesRow.stops == [])) && ((Try.pinned.checked.prog.stops == [])) && ((Rows.fnExactLayTunesRow.knobs == [])) && ((Try.pinned.checked.prog.stopKnobs == []))) = true := by kernel_rfl
theorem facts1 : (((Rows.fnExactLayTunesRow.inPlace == Try.pinned.checked.prog.inPlace 7)) && ((Rows.fnExactLayTunesRow.unfollowed == Try.pinned.checked.prog.unfollowed 7)) && ((Rows.fnExactLayTunesRow.recurses == Try.pinned.checked.prog.recurses 7)) && ((Rows.fnExactLayTunesRow.named == Try.pinned.checked.prog.varsNamed 7))) = true := by kernel_rfl
theorem facts2 : (((Rows.fnExactLayTunesRow.maps == (Try.f7.params.toList ++ Rows.fnExactLayTunesSpec.plain.varTypes Try.pinned.checked.prog).any (Try.pinned.checked.prog.mapsRec ·))) && ((Rows.fnExactLayTunesRow.ifaces == (Try.f7.params.toList ++ Rows.fnExactLayTunesSpec.plain.varTypes Try.pinned.checked.prog).any (Try.pinned.checked.prog.ifacesRec ·))) && ((Rows.fnExactLayTunesRow.mapsOut == Try.pinned.checked.prog.mapsAmong Try.f7.resultTypes.toList)) && ((Rows.fnExactLayTunesRow.loops == (Try.f7.params.toList ++ Rows.fnExactLayTunesSpec.plain.varTypes Try.pinned.checked.prog).any (Try.pinned.checked.prog.loopsFrom ·))) && ((Rows.fnExactLayTunesRow.wideKeys == (Try.f7.params.toList ++ Rows.fnExactLayTunesSpec.plain.varTypes Try.pinned.checked.prog ++ Try.f7.resultTypes.toList).any (Try.pinned.checked.prog.wideKeysFrom ·))) && (Rows.fnExactLayTunesSpec.vars.all (Try.pinned.checked.prog.varReadable ·)) && (Try.f7.resultTypes.all (fun t => Try.pinned.checked.prog.readableRec t && decide (t < Try.pinned.checked.prog.types.size))) && ((Rows.fnExactLayTunesRow.ifacesOut == Try.f7.resultTypes.toList.any (Try.pinned.checked.prog.ifacesRec ·))) && ((Rows.fnExactLayTunesRow.loopsOut == Try.f7.resultTypes.toList.any (Try.pinned.checked.prog.loopsFrom ·)))) = true := by kernel_rfl
theorem facts3 : (((Rows.fnExactLayTunesRow.plainKeys == Try.pinned.checked.prog.plainKeys)) && (Rows.fnExactLayTunesRow.shortTexts.isNone) && (Try.pinned.checked.prog.stopsHeard) && (Try.pinned.checked.prog.mayEnter) && ((Rows.fnExactLayTunesRow.lifted == Try.pinned.checked.prog.liftsFinal)) && ((Try.pinned.checked.prog.make == some Rows.fnExactLayTunesRow.make))) = true := by kernel_rfl
theorem facts4 : (((Rows.fnExactLayTunesRow.kinds == (if Rows.fnExactLayTunesRow.domain.isEmpty then [] else Try.f7.params.toList.map fun t => match Try.pinned.checked.prog.underlying t with | some (.int k) => some k | _ => none))) && ((Rows.fnExactLayTunesRow.pinned == Rows.fnExactLayTunesRow.pinnedBy)) && ((Rows.fnExactLayTunesRow.veiled == (Try.f7.params.toList ++ Rows.fnExactLayTunesSpec.plain.varTypes Try.pinned.checked.prog ++ Try.f7.resultTypes.toList).any (Try.pinned.checked.prog.veiledRec ·))) && (Rows.fnExactLayTunesRow.veiledFits Try.pinned.checked.prog Try.f7.params.toList (Try.f7.params.toList ++ Rows.fnExactLayTunesSpec.plain.varTypes Try.pinned.checked.prog ++ Try.f7.resultTypes.toList))) = true := by kernel_rfl
set_option maxRecDepth 100000 in
theorem joined : joinedFacts Try.pinned.checked.prog 7 Try.f7 Rows.fnExactLayTunesSpec Rows.fnExactLayTunesRow = true := by
  have h0 := facts0
  have h1 := facts1
  have h2 := facts2
  have h3 := facts3
  have h4 := facts4
  simp only [Bool.and_eq_true] at h0 h1 h2 h3 h4
  obtain ⟨⟨⟨⟨⟨⟨⟨⟨p0, p1⟩, p2⟩, p3⟩, p4⟩, p5⟩, p6⟩, p7⟩, p8⟩ := h0
  obtain ⟨⟨⟨p9, p10⟩, p11⟩, p12⟩ := h1
  obtain ⟨⟨⟨⟨⟨⟨⟨⟨p13, p14⟩, p15⟩, p16⟩, p17⟩, p18⟩, p19⟩, p20⟩, p21⟩ := h2
  obtain ⟨⟨⟨⟨⟨p22, p23⟩, p24⟩, p25⟩, p26⟩, p27⟩ := h3
  obtain ⟨⟨⟨p28, p29⟩, p30⟩, p31⟩ := h4
  simp only [joinedFacts, Bool.and_eq_true]
  exact ⟨⟨⟨⟨⟨⟨⟨⟨⟨⟨⟨⟨⟨⟨⟨⟨⟨⟨⟨⟨⟨⟨⟨⟨⟨⟨⟨⟨⟨⟨⟨p0, p1⟩, p2⟩, p3⟩, p4⟩, p5⟩, p6⟩, p7⟩, p8⟩, p9⟩, p10⟩, p11⟩, p12⟩, p13⟩, p14⟩, p15⟩, p16⟩, p17⟩, p18⟩, p19⟩, p20⟩, p21⟩, p22⟩, p23⟩, p24⟩, p25⟩, p26⟩, p27⟩, p28⟩, p29⟩, p30⟩, p31⟩
theorem over : Rows.fnExactLayTunesRow.holds Try.pinned (OpenSpec.ofChange Rows.fnExactLayTunesSpec) :=
  OpenClaim.holds_of_wide 7 Try.f7 rfl rfl rfl rfl rfl rfl rfl ⟨rfl, rfl, rfl, rfl, rfl⟩ rfl rfl rfl rfl rfl (by kernel_rfl) Try.func7 (by exact joined)
    (of_decide_eq_true (by kernel_rfl)) (by unfold Func.isWrapper; first | (rw [if_pos (by decide +kernel)]; kernel_rfl) | (rw [if_neg (by decide +kernel)]; exact ⟨rfl, rfl⟩))
    (fun os started H enc _ => lifted os started H enc)
theorem proved : Rows.FnExactLayTunesSaid := over
end Go.Proofs.Ytpfjmoodfodfhaa.fnExactLayTunes
namespace Go.Proofs.Ytpfjmoodfodfhaa
/-- The row, under a short name, for the claim. -/
theorem fnExactLayTunes_holds : Rows.FnExactLayTunesSaid := fnExactLayTunes.proved
#print axioms fnExactLayTunes_holds
end Go.Proofs.Ytpfjmoodfodfhaa
