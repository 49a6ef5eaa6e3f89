/- The row of the law FnExactChangesText, out of its walk. No conditions. -/
import Derived.Test.YteboefffkpcnaaaDoorRows
import Derived.Test.YteboefffkpcnaaaDoorCards
import Derived.Test.YteboefffkpcnaaaDoorTie
import Derived.Test.YteboefffkpcnaaaDoorOpen
import Derived.Test.YteboefffkpcnaaaDoorOpenC
import Derived.Test.YteboefffkpcnaaaDoorLawChangesText
import Derived.WalkKit
import Derived.LaidMore
import Derived.SevenTiedAt
import Derived.Stop.Joined
import Derived.ProofKit
import Derived.OpenShut
import Derived.ShutString
import Derived.ChangeOld
import Derived.Below
import Derived.SizedLaws
namespace Go.Proofs.YteboefffkpcnaaaDoor.fnExactChangesText
open Go.ChangeShapes Go.WideShapes Go.ChangeAt Go.RowKit
set_option linter.unusedVariables false
theorem own : ownKnob Tryd.prog.godebug = none := by kernel_rfl
theorem laidOut : laidOutB Tryd.prog = true := by kernel_rfl
theorem door_met (os : Os) (args : Array Value) : laidMetH Tryd.prog Rows.fnExactChangesTextRow.laid ((World.doorLaid Tryd.prog 400 os).forCall (fun _ _ => 0) ⟨#[], args, []⟩).memory :=
  laidMetH_of_parts3 (fuel := 8) (laidMet_of_run' 8 (by kernel_rfl) (by kernel_rfl)) (by kernel_rfl) (by kernel_rfl)
set_option maxRecDepth 100000 in
theorem lifted (os : Os) (started : os.Started) (H : Type) (enc : TypeId × Value → H) :
    ReturnsInHanded {} Tryd.checked os 5 .any (fun w args => (Rows.fnExactChangesTextSpec.pre enc Tryd.prog Tryd.f5 [] false w args ∧ laidMetH Tryd.prog Rows.fnExactChangesTextRow.laid w) ∧ sizedMet enc Tryd.prog Tryd.f5 (OpenSpec.ofChange Rows.fnExactChangesTextSpec) false w args)
      (Rows.fnExactChangesTextSpec.post enc Tryd.prog Tryd.f5 false true false false) := by
  refine returnsInHanded_of_change_and (C := Tryd.checked) (X := fun w _ => laidMetH Tryd.prog Rows.fnExactChangesTextRow.laid w) (fun _ _ _ hh h => h.of_heap hh) own started (by kernel_rfl) Tryd.func5
    (ChangeSpec.witness_shaped (enc := enc) (C := Tryd.checked) (os := os) (X := fun w _ => laidMetH Tryd.prog Rows.fnExactChangesTextRow.laid w) false (World.doorLaid Tryd.prog 400 os) #[.slice none 0 0] 8 rfl (World.shaped_of_RefB (by kernel_rfl) (by kernel_rfl)) (by kernel_rfl) (by kernel_rfl) (by kernel_rfl) (door_met os _)) ?_
  intro W base args ds gs before hval0 hW _ _ hL0 _
  have hval : ∀ (j : Nat) t v, Tryd.f5.params[j]? = some t → args[j]? = some v → Value.okWide Tryd.prog W .any base t v := hval0
  have hW' := hW
  obtain ⟨p, q, hA0, hV, rfl, hfz, hnd⟩ := hW
  have hA : DataW.TrodAll enc Tryd.prog W 0 (fun _ => true) true Tryd.f5.params.toList args.toList ds p := hA0
  rw [Tryd.params5] at hA hval
  obtain ⟨v0, vs0, d0, ds0, p0, q0, hargs, rfl, rfl, h0, r0⟩ := trodAll_cons hA
  obtain ⟨rfl, rfl, rfl⟩ := trodAll_nil r0
  obtain rfl : args = #[v0] := by cases args; simp_all
  obtain ⟨rfl, rfl⟩ := trodVars_none hV
  have k0 := h0
  have lt0 : ∀ x ∈ p0, x.block < W.heap.size := by obtain ⟨m, hm⟩ := k0; exact DataW.trod_lt m _ _ _ hm
  obtain ⟨a0, n0, c0, S0, K0, U0, rfl, hn0, hS0, hK0, hh0⟩ := open_changes (hval 0 27 v0 rfl rfl) h0
  clear hA0 hval0
  refine (lawChangesText a0 n0 c0 S0 K0 U0 W hn0 hS0 hK0 hh0).mono fun e W' ⟨he, bel⟩ => ?_
  subst he
  exact ⟨_, rfl, _, _, _, [], _, [], hW', trodAll_mk1 (shut_bool Tryd.underlying4 _), (trodAll_cons_mk (Below.trod laidOut (by kernel_rfl) (of_decide_eq_true (by kernel_rfl)) k0 bel lt0) trodAll_mk0), rfl, bel.frame _, fun h => by cases h⟩
theorem facts0 : ((Rows.fnExactChangesTextRow.wf (OpenSpec.ofChange Rows.fnExactChangesTextSpec)) && (laidOutB Tryd.pinned.checked.prog) && (mapsRowed Tryd.pinned.checked.prog) && (Tryd.f5.params.all (Tryd.pinned.checked.prog.readableRec ·)) && (namedTie Tryd.pinned.checked.prog Rows.fnExactChangesTextRow.named Rows.fnExactChangesTextSpec.vars) && ((Rows.fnExactChangesTextRow.stops == [])) && ((Tryd.pinned.checked.prog.stops == [])) && ((Rows.fnExactChangesTextRow.knobs == [])) && ((Tryd.pinned.checked.prog.stopKnobs == []))) = true := by kernel_rfl
theorem facts1 : (((Rows.fnExactChangesTextRow.inPlace == Tryd.pinned.checked.prog.inPlace 5)) && ((Rows.fnExactChangesTextRow.unfollowed == Tryd.pinned.checked.prog.unfollowed 5)) && ((Rows.fnExactChangesTextRow.recurses == Tryd.pinned.checked.prog.recurses 5)) && ((Rows.fnExactChangesTextRow.named == Tryd.pinned.checked.prog.varsNamed 5))) = true := by kernel_rfl
theorem facts2 : (((Rows.fnExactChangesTextRow.maps == (Tryd.f5.params.toList ++ Rows.fnExactChangesTextSpec.plain.varTypes Tryd.pinned.checked.prog).any (Tryd.pinned.checked.prog.mapsRec ·))) && ((Rows.fnExactChangesTextRow.ifaces == (Tryd.f5.params.toList ++ Rows.fnExactChangesTextSpec.plain.varTypes Tryd.pinned.checked.prog).any (Tryd.pinned.checked.prog.ifacesRec ·))) && ((Rows.fnExactChangesTextRow.mapsOut == Tryd.pinned.checked.prog.mapsAmong Tryd.f5.resultTypes.toList)) && ((Rows.fnExactChangesTextRow.loops == (Tryd.f5.params.toList ++ Rows.fnExactChangesTextSpec.plain.varTypes Tryd.pinned.checked.prog).any (Tryd.pinned.checked.prog.loopsFrom ·))) && ((Rows.fnExactChangesTextRow.wideKeys == (Tryd.f5.params.toList ++ Rows.fnExactChangesTextSpec.plain.varTypes Tryd.pinned.checked.prog ++ Tryd.f5.resultTypes.toList).any (Tryd.pinned.checked.prog.wideKeysFrom ·))) && (Rows.fnExactChangesTextSpec.vars.all (Tryd.pinned.checked.prog.varReadable ·)) && (Tryd.f5.resultTypes.all (fun t => Tryd.pinned.checked.prog.readableRec t && decide (t < Tryd.pinned.checked.prog.types.size))) && ((Rows.fnExactChangesTextRow.ifacesOut == Tryd.f5.resultTypes.toList.any (Tryd.pinned.checked.prog.ifacesRec ·))) && ((Rows.fnExactChangesTextRow.loopsOut == Tryd.f5.resultTypes.toList.any (Tryd.pinned.checked.prog.loopsFrom ·)))) = true := by kernel_rfl
theorem facts3 : (((Rows.fnExactChangesTextRow.plainKeys == Tryd.pinned.checked.prog.plainKeys)) && (Rows.fnExactChangesTextRow.shortTexts.isNone) && (Tryd.pinned.checked.prog.stopsHeard) && (Tryd.pinned.checked.prog.mayEnter) && ((Rows.fnExactChangesTextRow.lifted == Tryd.pinned.checked.prog.liftsFinal)) && ((Tryd.pinned.checked.prog.make == some Rows.fnExactChangesTextRow.make))) = true := by kernel_rfl
theorem facts4 : (((Rows.fnExactChangesTextRow.kinds == (if Rows.fnExactChangesTextRow.domain.isEmpty then [] else Tryd.f5.params.toList.map fun t => match Tryd.pinned.checked.prog.underlying t with | some (.int k) => some k | _ => none))) && ((Rows.fnExactChangesTextRow.pinned == Rows.fnExactChangesTextRow.pinnedBy)) && ((Rows.fnExactChangesTextRow.veiled == (Tryd.f5.params.toList ++ Rows.fnExactChangesTextSpec.plain.varTypes Tryd.pinned.checked.prog ++ Tryd.f5.resultTypes.toList).any (Tryd.pinned.checked.prog.veiledRec ·))) && (Rows.fnExactChangesTextRow.veiledFits Tryd.pinned.checked.prog Tryd.f5.params.toList (Tryd.f5.params.toList ++ Rows.fnExactChangesTextSpec.plain.varTypes Tryd.pinned.checked.prog ++ Tryd.f5.resultTypes.toList))) = true := by kernel_rfl
set_option maxRecDepth 100000 in
theorem joined : joinedFacts Tryd.pinned.checked.prog 5 Tryd.f5 Rows.fnExactChangesTextSpec Rows.fnExactChangesTextRow = true := by
  have h0 := facts0
  have h1 := facts1
  have h2 := facts2
  have h3 := facts3
  have h4 := facts4
  simp only [Bool.and_eq_true] at h0 h1 h2 h3 h4
  obtain ⟨⟨⟨⟨⟨⟨⟨⟨p0, p1⟩, p2⟩, p3⟩, p4⟩, p5⟩, p6⟩, p7⟩, p8⟩ := h0
  obtain ⟨⟨⟨p9, p10⟩, p11⟩, p12⟩ := h1
  obtain ⟨⟨⟨⟨⟨⟨⟨⟨p13, p14⟩, p15⟩, p16⟩, p17⟩, p18⟩, p19⟩, p20⟩, p21⟩ := h2
  obtain ⟨⟨⟨⟨⟨p22, p23⟩, p24⟩, p25⟩, p26⟩, p27⟩ := h3
  obtain ⟨⟨⟨p28, p29⟩, p30⟩, p31⟩ := h4
  simp only [joinedFacts, Bool.and_eq_true]
  exact ⟨⟨⟨⟨⟨⟨⟨⟨⟨⟨⟨⟨⟨⟨⟨⟨⟨⟨⟨⟨⟨⟨⟨⟨⟨⟨⟨⟨⟨⟨⟨p0, p1⟩, p2⟩, p3⟩, p4⟩, p5⟩, p6⟩, p7⟩, p8⟩, p9⟩, p10⟩, p11⟩, p12⟩, p13⟩, p14⟩, p15⟩, p16⟩, p17⟩, p18⟩, p19⟩, p20⟩, p21⟩, p22⟩, p23⟩, p24⟩, p25⟩, p26⟩, p27⟩, p28⟩, p29⟩, p30⟩, p31⟩
theorem over : Rows.fnExactChangesTextRow.holds Tryd.pinned (OpenSpec.ofChange Rows.fnExactChangesTextSpec) :=
  OpenClaim.holds_of_wide 5 Tryd.f5 rfl rfl rfl rfl rfl rfl rfl ⟨rfl, rfl, rfl, rfl, rfl⟩ rfl rfl rfl rfl rfl (by kernel_rfl) Tryd.func5 (by exact joined)
    (of_decide_eq_true (by kernel_rfl)) (by unfold Func.isWrapper; first | (rw [if_pos (by decide +kernel)]; kernel_rfl) | (rw [if_neg (by decide +kernel)]; exact ⟨rfl, rfl⟩))
    (fun os started H enc _ => lifted os started H enc)
theorem proved : Rows.FnExactChangesTextSaid := over
theorem card : Rows.FnExactChangesTextCardSaid :=
  Claim7.holds_tied_plain_at .later [] [.data, .data, .data] true (true, "cf50f11a9f544b43ed2e509f7d56dd6dbfa44f6da813f6a47d5f064c75633aa3") false
    proved (fun _ h => by cases h) (by kernel_rfl) (fun _ h => by cases h) fnExactChangesText_row_tie rfl ⟨rfl, rfl⟩ (by kernel_rfl) rfl
    (fun f fn hf hfn => by
      obtain rfl : f = 5 := Option.some.inj ((show Tryd.prog.funcNamed "loop.example/g01311/laws.FnExactChangesText" = some 5 by kernel_rfl).symm.trans hf) |>.symm
      obtain rfl : fn = Tryd.f5 := (Option.some.inj (Tryd.func5.symm.trans hfn)).symm
      exact ⟨by kernel_rfl, fun j t ht => by
        rw [Tryd.params5] at ht
        have hm : t ∈ [27] := by simpa using Array.mem_of_getElem? ht
        have hall : ([27].all fun u => !Tryd.prog.wantsStandIn u) = true := by kernel_rfl
        exact (show Tryd.prog.wantsStandIn t = false by simpa using List.all_eq_true.1 hall t hm)⟩)
    (by kernel_rfl)
end Go.Proofs.YteboefffkpcnaaaDoor.fnExactChangesText
namespace Go.Proofs.YteboefffkpcnaaaDoor
/-- The row, under a short name, for the claim. -/
theorem fnExactChangesText_holds : Rows.FnExactChangesTextCardSaid := fnExactChangesText.card
#print axioms fnExactChangesText_holds
end Go.Proofs.YteboefffkpcnaaaDoor
