/- The row of the law FnExactWholeChime, out of its walk. No conditions. -/
import Derived.Test.YteffaghcjpeblaaGreatRows
import Derived.Test.YteffaghcjpeblaaGreatOpen
import Derived.Test.YteffaghcjpeblaaGreatOpenP
import Derived.Test.YteffaghcjpeblaaGreatOpenS
import Derived.Test.YteffaghcjpeblaaGreatLawWholeChime
import Derived.WalkKit
import Derived.ProofKit
import Derived.OpenShut
import Derived.ShutString
import Derived.ChangeOld
import Derived.Below
import Derived.SizedLaws
namespace Go.Proofs.YteffaghcjpeblaaGreat.fnExactWholeChime
open Go.ChangeShapes Go.WideShapes Go.ChangeAt Go.RowKit
set_option linter.unusedVariables false
theorem own : ownKnob Tryz.prog.godebug = none := by kernel_rfl
theorem laidOut : laidOutB Tryz.prog = true := by kernel_rfl
set_option maxRecDepth 100000 in
theorem lifted (os : Os) (started : os.Started) (H : Type) (enc : TypeId × Value → H) :
    ReturnsInHanded {} Tryz.checked os 6 .any (Rows.fnExactWholeChimeSpec.pre6 enc Tryz.prog Tryz.f6 Rows.fnExactWholeChimeRow.domain false) (Rows.fnExactWholeChimeSpec.post enc Tryz.prog Tryz.f6 false true false false) := by
  refine returnsInHanded_of_change_sized (C := Tryz.checked) own started (by kernel_rfl) Tryz.func6
    (ChangeSpec.witness6 (enc := enc) (C := Tryz.checked) false ⟨#[], #[.agg #[.int .i16 0, .slice none 0 0], .agg (Array.replicate 96 (.int .u32 0)), .agg (#[.slice none 0 0] ++ Array.replicate 48 (.int .i8 0)), .int .i64 0, .int .i64 0, .int .i64 0], []⟩ 8 (by kernel_rfl) (by kernel_rfl) (by kernel_rfl) (by kernel_rfl)) ?_
  intro W base args ds gs before hval0 hW hcnd hsz0 _
  have hval : ∀ (j : Nat) t v, Tryz.f6.params[j]? = some t → args[j]? = some v → Value.okWide Tryz.prog W .any base t v := hval0
  have hW' := hW
  obtain ⟨p, q, hA0, hV, rfl, hfz, hnd⟩ := hW
  have hA : DataW.TrodAll enc Tryz.prog W 0 (fun _ => true) true Tryz.f6.params.toList args.toList ds p := hA0
  rw [Tryz.params6] at hA hval
  obtain ⟨v0, vs0, d0, ds0, p0, q0, hargs, rfl, rfl, h0, r0⟩ := trodAll_cons hA
  obtain ⟨v1, vs1, d1, ds1, p1, q1, rfl, rfl, rfl, h1, r1⟩ := trodAll_cons r0
  obtain ⟨v2, vs2, d2, ds2, p2, q2, rfl, rfl, rfl, h2, r2⟩ := trodAll_cons r1
  obtain ⟨v3, vs3, d3, ds3, p3, q3, rfl, rfl, rfl, h3, r3⟩ := trodAll_cons r2
  obtain ⟨v4, vs4, d4, ds4, p4, q4, rfl, rfl, rfl, h4, r4⟩ := trodAll_cons r3
  obtain ⟨v5, vs5, d5, ds5, p5, q5, rfl, rfl, rfl, h5, r5⟩ := trodAll_cons r4
  obtain ⟨rfl, rfl, rfl⟩ := trodAll_nil r5
  obtain rfl : args = #[v0, v1, v2, v3, v4, v5] := by cases args; simp_all
  obtain ⟨rfl, rfl⟩ := trodVars_none hV
  have k0 := h0
  have lt0 : ∀ x ∈ p0, x.block < W.heap.size := by obtain ⟨m, hm⟩ := k0; exact DataW.trod_lt m _ _ _ hm
  obtain ⟨s0, a0, n0, c0, P0, R0, rfl, hs0, hn0, hP0, hR0, hh0⟩ := open_frame (hval 0 25 v0 rfl rfl) h0
  have k1 := h1
  have lt1 : ∀ x ∈ p1, x.block < W.heap.size := by obtain ⟨m, hm⟩ := k1; exact DataW.trod_lt m _ _ _ hm
  obtain ⟨D1, hD1, rfl⟩ := open_arr (hval 1 28 v1 rfl rfl) h1
  have k2 := h2
  have lt2 : ∀ x ∈ p2, x.block < W.heap.size := by obtain ⟨m, hm⟩ := k2; exact DataW.trod_lt m _ _ _ hm
  obtain ⟨a2, n2, c2, F2, T2, O2, rfl, hn2, hF2, hT2, hO2, hh2⟩ := open_prog (hval 2 54 v2 rfl rfl) h2
  have k3 := h3
  have lt3 : ∀ x ∈ p3, x.block < W.heap.size := by obtain ⟨m, hm⟩ := k3; exact DataW.trod_lt m _ _ _ hm
  obtain ⟨x3, rfl, _, _, hx3⟩ := open_int Tryz.underlying2 (hval 3 2 v3 rfl rfl) h3
  have k4 := h4
  have lt4 : ∀ x ∈ p4, x.block < W.heap.size := by obtain ⟨m, hm⟩ := k4; exact DataW.trod_lt m _ _ _ hm
  obtain ⟨x4, rfl, _, _, hx4⟩ := open_int Tryz.underlying2 (hval 4 2 v4 rfl rfl) h4
  have k5 := h5
  have lt5 : ∀ x ∈ p5, x.block < W.heap.size := by obtain ⟨m, hm⟩ := k5; exact DataW.trod_lt m _ _ _ hm
  obtain ⟨x5, rfl, _, _, hx5⟩ := open_int Tryz.underlying2 (hval 5 2 v5 rfl rfl) h5
  clear hA0 hval0 hsz0
  refine (lawWholeChime s0 a0 n0 c0 P0 R0 D1 a2 n2 c2 F2 T2 O2 x3 x4 x5 W hn0 hs0 hP0 hR0 hh0 hD1 hn2 hF2 hT2 hO2 hh2 (wf_i64 hx3) (wf_i64 hx4) (wf_i64 hx5)).mono fun e W' ⟨he, bel⟩ => ?_
  subst he
  exact ⟨_, rfl, _, _, _, [], _, [], hW', trodAll_mk1 (shut_bool Tryz.underlying4 _), (trodAll_cons_mk (Below.trod laidOut (by kernel_rfl) (of_decide_eq_true (by kernel_rfl)) k0 bel lt0) (trodAll_cons_mk (Below.trod laidOut (by kernel_rfl) (of_decide_eq_true (by kernel_rfl)) k1 bel lt1) (trodAll_cons_mk (Below.trod laidOut (by kernel_rfl) (of_decide_eq_true (by kernel_rfl)) k2 bel lt2) (trodAll_cons_mk (Below.trod laidOut (by kernel_rfl) (of_decide_eq_true (by kernel_rfl)) k3 bel lt3) (trodAll_cons_mk (Below.trod laidOut (by kernel_rfl) (of_decide_eq_true (by kernel_rfl)) k4 bel lt4) (trodAll_cons_mk (Below.trod laidOut (by kernel_rfl) (of_decide_eq_true (by kernel_rfl)) k5 bel lt5) trodAll_mk0)))))), rfl, bel.frame _, fun h => by cases h⟩
theorem facts0 : ((Rows.fnExactWholeChimeRow.wf (OpenSpec.ofChange Rows.fnExactWholeChimeSpec)) && (laidOutB Tryz.pinned.checked.prog) && (mapsRowed Tryz.pinned.checked.prog) && (Tryz.f6.params.all (Tryz.pinned.checked.prog.readableRec ·)) && (namedTie Tryz.pinned.checked.prog Rows.fnExactWholeChimeRow.named Rows.fnExactWholeChimeSpec.vars) && ((Rows.fnExactWholeChimeRow.stops == [])) && ((Tryz.pinned.checked.prog.stops == [])) && ((Rows.fnExactWholeChimeRow.knobs == [])) && ((Tryz.pinned.checked.prog.stopKnobs == []))) = true := by kernel_rfl
theorem facts1 : (((Rows.fnExactWholeChimeRow.inPlace == Tryz.pinned.checked.prog.inPlace 6)) && ((Rows.fnExactWholeChimeRow.unfollowed == Tryz.pinned.checked.prog.unfollowed 6)) && ((Rows.fnExactWholeChimeRow.recurses == Tryz.pinned.checked.prog.recurses 6)) && ((Rows.fnExactWholeChimeRow.named == Tryz.pinned.checked.prog.varsNamed 6))) = true := by kernel_rfl
theorem facts2 : (((Rows.fnExactWholeChimeRow.maps == (Tryz.f6.params.toList ++ Rows.fnExactWholeChimeSpec.plain.varTypes Tryz.pinned.checked.prog).any (Tryz.pinned.checked.prog.mapsRec ·))) && ((Rows.fnExactWholeChimeRow.ifaces == (Tryz.f6.params.toList ++ Rows.fnExactWholeChimeSpec.plain.varTypes Tryz.pinned.checked.prog).any (Tryz.pinned.checked.prog.ifacesRec ·))) && ((Rows.fnExactWholeChimeRow.mapsOut == Tryz.pinned.checked.prog.mapsAmong Tryz.f6.resultTypes.toList)) && ((Rows.fnExactWholeChimeRow.loops == (Tryz.f6.params.toList ++ Rows.fnExactWholeChimeSpec.plain.varTypes Tryz.pinned.checked.prog).any (Tryz.pinned.checked.prog.loopsFrom ·))) && ((Rows.fnExactWholeChimeRow.wideKeys == (Tryz.f6.params.toList ++ Rows.fnExactWholeChimeSpec.plain.varTypes Tryz.pinned.checked.prog ++ Tryz.f6.resultTypes.toList).any (Tryz.pinned.checked.prog.wideKeysFrom ·))) && (Rows.fnExactWholeChimeSpec.vars.all (Tryz.pinned.checked.prog.varReadable ·)) && (Tryz.f6.resultTypes.all (fun t => Tryz.pinned.checked.prog.readableRec t && decide (t < Tryz.pinned.checked.prog.types.size))) && ((Rows.fnExactWholeChimeRow.ifacesOut == Tryz.f6.resultTypes.toList.any (Tryz.pinned.checked.prog.ifacesRec ·))) && ((Rows.fnExactWholeChimeRow.loopsOut == Tryz.f6.resultTypes.toList.any (Tryz.pinned.checked.prog.loopsFrom ·)))) = true := by kernel_rfl
theorem facts3 : (((Rows.fnExactWholeChimeRow.plainKeys == Tryz.pinned.checked.prog.plainKeys)) && (Rows.fnExactWholeChimeRow.shortTexts.isNone) && (Tryz.pinned.checked.prog.stopsHeard) && (Tryz.pinned.checked.prog.mayEnter) && ((Rows.fnExactWholeChimeRow.lifted == Tryz.pinned.checked.prog.liftsFinal)) && ((Tryz.pinned.checked.prog.make == some Rows.fnExactWholeChimeRow.make))) = true := by kernel_rfl
theorem facts4 : (((Rows.fnExactWholeChimeRow.kinds == (if Rows.fnExactWholeChimeRow.domain.isEmpty then [] else Tryz.f6.params.toList.map fun t => match Tryz.pinned.checked.prog.underlying t with | some (.int k) => some k | _ => none))) && ((Rows.fnExactWholeChimeRow.pinned == Rows.fnExactWholeChimeRow.pinnedBy)) && ((Rows.fnExactWholeChimeRow.veiled == (Tryz.f6.params.toList ++ Rows.fnExactWholeChimeSpec.plain.varTypes Tryz.pinned.checked.prog ++ Tryz.f6.resultTypes.toList).any (Tryz.pinned.checked.prog.veiledRec ·))) && (Rows.fnExactWholeChimeRow.veiledFits Tryz.pinned.checked.prog Tryz.f6.params.toList (Tryz.f6.params.toList ++ Rows.fnExactWholeChimeSpec.plain.varTypes Tryz.pinned.checked.prog ++ Tryz.f6.resultTypes.toList))) = true := by kernel_rfl
set_option maxRecDepth 100000 in
theorem joined : joinedFacts Tryz.pinned.checked.prog 6 Tryz.f6 Rows.fnExactWholeChimeSpec Rows.fnExactWholeChimeRow = true := by
  have h0 := facts0
  have h1 := facts1
  have h2 := facts2
  have h3 := facts3
  have h4 := facts4
  simp only [Bool.and_eq_true] at h0 h1 h2 h3 h4
  obtain ⟨⟨⟨⟨⟨⟨⟨⟨p0, p1⟩, p2⟩, p3⟩, p4⟩, p5⟩, p6⟩, p7⟩, p8⟩ := h0
  obtain ⟨⟨⟨p9, p10⟩, p11⟩, p12⟩ := h1
  obtain ⟨⟨⟨⟨⟨⟨⟨⟨p13, p14⟩, p15⟩, p16⟩, p17⟩, p18⟩, p19⟩, p20⟩, p21⟩ := h2
  obtain ⟨⟨⟨⟨⟨p22, p23⟩, p24⟩, p25⟩, p26⟩, p27⟩ := h3
  obtain ⟨⟨⟨p28, p29⟩, p30⟩, p31⟩ := h4
  simp only [joinedFacts, Bool.and_eq_true]
  exact ⟨⟨⟨⟨⟨⟨⟨⟨⟨⟨⟨⟨⟨⟨⟨⟨⟨⟨⟨⟨⟨⟨⟨⟨⟨⟨⟨⟨⟨⟨⟨p0, p1⟩, p2⟩, p3⟩, p4⟩, p5⟩, p6⟩, p7⟩, p8⟩, p9⟩, p10⟩, p11⟩, p12⟩, p13⟩, p14⟩, p15⟩, p16⟩, p17⟩, p18⟩, p19⟩, p20⟩, p21⟩, p22⟩, p23⟩, p24⟩, p25⟩, p26⟩, p27⟩, p28⟩, p29⟩, p30⟩, p31⟩
theorem over : Rows.fnExactWholeChimeRow.holds Tryz.pinned (OpenSpec.ofChange Rows.fnExactWholeChimeSpec) :=
  OpenClaim.holds_of_wide 6 Tryz.f6 rfl rfl rfl rfl rfl rfl rfl ⟨rfl, rfl, rfl, rfl, rfl⟩ rfl rfl rfl rfl rfl (by kernel_rfl) Tryz.func6 (by exact joined)
    (of_decide_eq_true (by kernel_rfl)) (by unfold Func.isWrapper; first | (rw [if_pos (by decide +kernel)]; kernel_rfl) | (rw [if_neg (by decide +kernel)]; exact ⟨rfl, rfl⟩))
    (fun os started H enc _ => lifted os started H enc)
theorem proved : Rows.FnExactWholeChimeSaid := over
end Go.Proofs.YteffaghcjpeblaaGreat.fnExactWholeChime
namespace Go.Proofs.YteffaghcjpeblaaGreat
/-- The row, under a short name, for the claim. -/
theorem fnExactWholeChime_holds : Rows.FnExactWholeChimeSaid := fnExactWholeChime.proved
#print axioms fnExactWholeChime_holds
end Go.Proofs.YteffaghcjpeblaaGreat
