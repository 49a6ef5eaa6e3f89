/- LeastStepsOrder, by the program and by the reference. No conditions. -/
import Derived.Test.YtlcfjeofphncgaaLo
import Derived.Test.YtlcfjeofphncgaaTv
import Derived.Outline
namespace Go.Proofs.Ytlcfjeofphncgaa
open Go.RowKit
set_option linter.unusedVariables false
set_option linter.unusedSimpArgs false

noncomputable def loCode (s : Int) (n : Nat) (P R : Nat → Int) (m : Nat) (F S O : Nat → Int) : Int := if vProg s n P R m F S O then (if m ≤ 6 then 0 else 3) else 1
noncomputable def loV (s : Int) (n : Nat) (P R : Nat → Int) (m : Nat) (F S O : Nat → Int) : List Int := if vProg s n P R m F S O then (if m ≤ 6 then (loB (loC s F S) m m [] ([], -1)).1 else []) else []
noncomputable def loX (s : Int) (n : Nat) (P R : Nat → Int) (m : Nat) (F S O : Nat → Int) : Int := if vProg s n P R m F S O then (if m ≤ 6 then (loB (loC s F S) m m [] ([], -1)).2 else 0) else 0
section
variable {s : Int} {n : Nat} {P R : Nat → Int} {m : Nat} {F S O : Nat → Int}
theorem lo_no (h : vProg s n P R m F S O = false) : loV s n P R m F S O = [] ∧ loX s n P R m F S O = 0 ∧ loCode s n P R m F S O = 1 := by unfold loV loX loCode; rw [h]; exact ⟨rfl, rfl, rfl⟩
theorem lo_many (h : vProg s n P R m F S O = true) (h6 : ¬ m ≤ 6) : loV s n P R m F S O = [] ∧ loX s n P R m F S O = 0 ∧ loCode s n P R m F S O = 3 := by unfold loV loX loCode; rw [h, if_pos rfl, if_pos rfl, if_pos rfl, if_neg h6, if_neg h6, if_neg h6]; exact ⟨rfl, rfl, rfl⟩
theorem lo_yes (h : vProg s n P R m F S O = true) (h6 : m ≤ 6) : loV s n P R m F S O = (loB (loC s F S) m m [] ([], -1)).1 ∧ loX s n P R m F S O = (loB (loC s F S) m m [] ([], -1)).2 ∧ loCode s n P R m F S O = 0 := by unfold loV loX loCode; rw [h, if_pos rfl, if_pos rfl, if_pos rfl, if_pos h6, if_pos h6, if_pos h6]; exact ⟨rfl, rfl, rfl⟩
theorem lo_start : goodS ([], -1) := ⟨by decide, by decide, by decide⟩
theorem loV_len : (loV s n P R m F S O).length ≤ 1000000 := by
  cases h : vProg s n P R m F S O
  · rw [(lo_no h).1]; simp
  · by_cases h6 : m ≤ 6
    · rw [(lo_yes h h6).1]
      obtain ⟨hs2, hm2, hsec, hord⟩ := vProg_facts h
      have := loB_good (fun l hl h48 => loC_bound hs2 hsec l hl h48) m [] ([], -1) (okL_nil m) (by simp; omega) lo_start
      have := this.2.2
      omega
    · rw [(lo_many h h6).1]; simp
theorem firstL_lo (v : Bool) (x : Bool) : firstL [pcode v true, unl x 3] = if v then unl x 3 else 1 := by
  cases v
  · rw [pcode_f, firstL_at _ (by decide)]; rfl
  · rw [pcode_tt, firstL_zero _ rfl]
    cases x
    · rw [firstL_at _ (by rw [unl_false]; decide)]; rfl
    · rw [firstL_zero _ (unl_true 3), firstL_nil, unl_true]; rfl
end
attribute [irreducible] loCode loV loX
set_option maxRecDepth 100000 in
set_option maxHeartbeats 1000000 in
theorem implLeastStepsOrder_any (s : Int) (a : Option Addr) (n c : Nat) (P R : Nat → Int) (b : Option Addr) (m d : Nat) (F S O : Nat → Int) (w : World) (hs : -32768 ≤ s ∧ s ≤ 32767) (hn : n ≤ 1048576) (hP : I8 P) (hR : I8 R) (hh : HamAt w a n P R) (hm : m ≤ 1048576) (hF : I16 F) (hS : I16 S) (hO : I8 O) (hl : SecAt w b m F S) :
    Calls Try.prog 24 #[.agg #[.int .i16 s, .slice a n c], .agg (pc b m d O)] w fun e w' => ∃ v, e = .returned (.tuple #[v, .int .i64 (loX s n P R m F S O), .int .i64 (loCode s n P R m F S O)]) ∧ Below w.heap.size w w' ∧ OwnI w' w.heap.size v (loV s n P R m F S O) := by
  have HP := Lib.hid hP; have HR := Lib.hid hR; have HF := Lib.hid hF; have HS := Lib.hid hS; have HO := Lib.hid hO
  clear hP hR hF hS hO
  have KB := Kp.base w
  have KH := kp_ham hh; have KL := kp_sec hl
  have hsecb : ∀ g off, 0 < m → b = some ⟨g, off, none⟩ → g < w.heap.size := fun g off h0 e => by
    obtain ⟨g', off', e', hg, _⟩ := hl h0
    rw [e] at e'; injection e' with e'; injection e' with e1; omega
  clear hh hl
  replace KB := KB.alloc (.cells #[.int .i16 s, .slice a n c] 27)
  replace KH := KH.alloc (.cells #[.int .i16 s, .slice a n c] 27)
  replace KL := KL.alloc (.cells #[.int .i16 s, .slice a n c] 27)
  have KF := kp_new1 w #[.int .i16 s, .slice a n c] 27 (g := w.heap.size) (by simp)
  replace KB := KB.alloc (.cells (pc b m d O) 51)
  replace KH := KH.alloc (.cells (pc b m d O) 51)
  replace KL := KL.alloc (.cells (pc b m d O) 51)
  replace KF := KF.alloc (.cells (pc b m d O) 51)
  have KP := kp_new1 (w.alloc (.cells #[.int .i16 s, .slice a n c] 27)) (pc b m d O) 51 (g := w.heap.size + 1) (by simp)
  have HZ := Lib.hid (show ((w.alloc (.cells #[.int .i16 s, .slice a n c] 27)).alloc (.cells (pc b m d O) 51)).heap.size = w.heap.size + 1 + 1 by simp)
  go_enter Try.func24, Try.ntmps24
  go_wp2
  generalize ((w.alloc (.cells #[.int .i16 s, .slice a n c] 27)).alloc (.cells (pc b m d O) 51)) = W at KB KH KL KF KP HZ ⊢
  have hS0 := below_drew W
  refine wp_region_S (fun V => Below W.heap.size W V) (by kernel_rfl) hS0 ?_
  refine take_val 0 (.agg #[.int .i16 s, .slice a n c]) rfl (by kernel_rfl) (by kernel_rfl) (by kernel_rfl) (fun _ _ _ h => h) rfl (fun V hV => ex_load_iframe _ rfl w.heap.size rfl _ s a n c (KF.at hV)) hS0 ?_
  simp only [List.getElem_toArray, List.getElem_cons_zero, List.getElem_cons_succ, Act.put, List.setIfInBounds_toArray, List.set_cons_zero, List.set_cons_succ]
  refine take_val 1 (.agg (pc b m d O)) rfl (by kernel_rfl) (by kernel_rfl) (by kernel_rfl) (fun _ _ _ h => h) rfl (fun V hV => ex_load_iprog _ rfl (w.heap.size + 1) rfl _ b m d O (KP.at hV)) hS0 ?_
  simp only [List.getElem_toArray, List.getElem_cons_zero, List.getElem_cons_succ, Act.put, List.setIfInBounds_toArray, List.set_cons_zero, List.set_cons_succ]
  refine take_val 3 (.pointer (some ⟨w.heap.size + 1, 0, none⟩)) rfl (by kernel_rfl) (by kernel_rfl) (by kernel_rfl) (fun _ _ _ h => h) rfl (fun V hV => by simp [go_sem]) hS0 ?_
  simp only [List.getElem_toArray, List.getElem_cons_zero, List.getElem_cons_succ, Act.put, List.setIfInBounds_toArray, List.set_cons_zero, List.set_cons_succ]
  refine take_val 4 (.slice b m d) rfl (by kernel_rfl) (by kernel_rfl) (by kernel_rfl) (fun _ _ _ h => h) rfl (fun V hV => by have c := row_cell 0 (KP.at hV); rw [pc_get0] at c; simp [go_sem, c]) hS0 ?_
  simp only [List.getElem_toArray, List.getElem_cons_zero, List.getElem_cons_succ, Act.put, List.setIfInBounds_toArray, List.set_cons_zero, List.set_cons_succ]
  refine take_val 5 (.int .i64 m) rfl (by kernel_rfl) (by kernel_rfl) (by kernel_rfl) (fun _ _ _ h => h) rfl (fun V hV => by simp [go_sem]) hS0 ?_
  simp only [List.getElem_toArray, List.getElem_cons_zero, List.getElem_cons_succ, Act.put, List.setIfInBounds_toArray, List.set_cons_zero, List.set_cons_succ]
  refine take_val 6 (.bool (decide ((m : Int) ≤ 6))) rfl (by kernel_rfl) (by kernel_rfl) (by kernel_rfl) (fun _ _ _ h => h) rfl (fun V hV => by simp [go_sem]) hS0 ?_
  simp only [List.getElem_toArray, List.getElem_cons_zero, List.getElem_cons_succ, Act.put, List.setIfInBounds_toArray, List.set_cons_zero, List.set_cons_succ]
  have hcon := programmeCode_any s a n c P R b m d F S O none 0 0 (fun _ => 0) none 0 0 (fun _ => 0) W.drew hs hn HP.out HR.out (KH.at hS0) hm HF.out HS.out HO.out (KL.at hS0) (by omega) (IntAt.nil _ _) (by omega) (IntAt.nil _ _)
  rw [allIn_zero, allIn_zero, Bool.and_self] at hcon
  obtain ⟨pv, hpv⟩ : ∃ x, vProg s n P R m F S O = x := ⟨_, rfl⟩
  rw [hpv] at hcon
  have HPV := Lib.hid hpv; clear hpv
  obtain ⟨x6, hx6⟩ : ∃ x, decide ((m : Int) ≤ 6) = x := ⟨_, rfl⟩
  rw [hx6]
  have HX6 := Lib.hid hx6; clear hx6
  have hfl := firstL_lo pv x6
  obtain ⟨y, hy⟩ : ∃ y, pcode pv true = y := ⟨_, rfl⟩
  rw [hy] at hcon hfl
  obtain ⟨z, hz⟩ : ∃ z, unl x6 3 = z := ⟨_, rfl⟩
  have hun := fun V : World => unless_any x6 3 V
  rw [hz] at hfl hun
  have HZ1 := Lib.hid hz; have HFL := Lib.hid hfl; clear hy hz hfl
  have KS := kp_start W
  refine step_call 2 53 #[.agg #[.int .i16 s, .slice a n c], .agg (pc b m d O), .slice none 0 0, .slice none 0 0] (by kernel_rfl) rfl rfl (by simp [go_sem]) ?_
  refine (hcon).mono ?_
  rintro e V1 ⟨rfl, hb1⟩
  refine ⟨_, rfl, KS.at hb1, ?_⟩
  simp only [List.getElem_toArray, List.getElem_cons_zero, List.getElem_cons_succ, Act.put, List.setIfInBounds_toArray, List.set_cons_zero, List.set_cons_succ]
  have hS1 := KS.at hb1
  replace KS := KS.on hb1
  refine step_call 7 54 #[.bool x6, .int .i64 3] (by kernel_rfl) rfl rfl (by simp [go_sem]) ?_
  refine (hun V1).mono ?_
  rintro e V2 ⟨rfl, rfl⟩
  refine ⟨_, rfl, hS1, ?_⟩
  simp only [List.getElem_toArray, List.getElem_cons_zero, List.getElem_cons_succ, Act.put, List.setIfInBounds_toArray, List.set_cons_zero, List.set_cons_succ]
  have hS2 := hS1.alloc (o := .cells #[.int .i64 y, .int .i64 z] 2) hS1.size
  refine step_val 8 (.slice (some ⟨V1.heap.size, 0, none⟩) 2 2) (V1.alloc (.cells #[.int .i64 y, .int .i64 z] 2)) (by kernel_rfl) rfl rfl (by simp [go_sem]) hS2 ?_
  simp only [List.getElem_toArray, List.getElem_cons_zero, List.getElem_cons_succ, Act.put, List.setIfInBounds_toArray, List.set_cons_zero, List.set_cons_succ]
  have hfo := firstOf_any [y, z] V1.heap.size 2 (V1.alloc (.cells #[.int .i64 y, .int .i64 z] 2)) (by simp) (heap_alloc_new V1 _)
  rw [HFL.out] at hfo
  obtain ⟨r, hr⟩ : ∃ r, (if pv then z else 1) = r := ⟨_, rfl⟩
  have HR1 := Lib.hid hr
  rw [show (if pv = true then z else 1) = r from hr] at hfo
  clear hr
  refine step_call 9 52 #[.slice (some ⟨V1.heap.size, 0, none⟩) 2 2] (by kernel_rfl) rfl rfl (by simp [go_sem]) ?_
  refine (hfo).mono ?_
  rintro e V2 ⟨rfl, rfl⟩
  refine ⟨_, rfl, hS2, ?_⟩
  simp only [List.getElem_toArray, List.getElem_cons_zero, List.getElem_cons_succ, Act.put, List.setIfInBounds_toArray, List.set_cons_zero, List.set_cons_succ]
  refine take_val 10 (.int .i64 r) rfl (by kernel_rfl) (by kernel_rfl) (by kernel_rfl) (fun _ _ _ h => h) rfl (fun V hV => by simp [go_sem]) hS2 ?_
  simp only [List.getElem_toArray, List.getElem_cons_zero, List.getElem_cons_succ, Act.put, List.setIfInBounds_toArray, List.set_cons_zero, List.set_cons_succ]
  refine wpAnyH_done (by kernel_rfl) ?_ _
  replace KB := KB.on hS2
  replace KF := KF.on hS2
  replace KP := KP.on hS2
  replace KL := KL.on hS2
  generalize (V1.alloc (.cells #[.int .i64 y, .int .i64 z] 2)) = w1 at KB KF KP KL ⊢
  clear hS2 hS1 hS0 hb1 hcon hfo hun KH KS
  have hbs := KB.here.size
  by_cases h0 : r = 0
  · subst h0
    have hyes : vProg s n P R m F S O = true ∧ m ≤ 6 := by
      cases pv
      · have := HR1.out
        rw [if_neg (by decide)] at this
        exact absurd this (by decide)
      · refine ⟨HPV.out, ?_⟩
        have hz0 : z = 0 := by have := HR1.out; rwa [if_pos rfl] at this
        by_cases h : m ≤ 6
        · exact h
        · have e : x6 = false := by rw [← HX6.out]; exact decide_eq_false (by omega)
          have := HZ1.out
          rw [e, unl_false, hz0] at this
          omega
    obtain ⟨hp, h6⟩ := hyes
    have hlo := lo_yes hp h6
    obtain ⟨hs2, hm2, hsec, _⟩ := vProg_facts hp
    have hgood := loB_good (fun l hl h48 => loC_bound hs2 hsec l hl h48) m [] ([], -1) (okL_nil m) (by simp; omega) lo_start
    have hlt2 := row_lt KP.here
    obtain ⟨W3, hW3⟩ : ∃ x, (w1.alloc (.cells #[.slice none 0 0] 38)).alloc (.cells #[.int .i64 (-1)] 2) = x := ⟨_, rfl⟩
    have hz3 : W3.heap.size = w1.heap.size + 2 := by rw [← hW3]; simp
    have hb3 : Below w1.heap.size w1 W3 := by rw [← hW3]; exact ((Below.refl _ _).alloc (Nat.le_refl _) _).alloc (by simp) _
    have rl : W3.heap[w1.heap.size + 1]? = some (.cells #[.int .i64 (-1)] 2 (0, 0)) := by
      rw [← hW3]
      have := heap_alloc_new (w1.alloc (.cells #[.slice none 0 0] 38)) (.cells #[.int .i64 (-1)] 2)
      simpa using this
    have rb : W3.heap[w1.heap.size]? = some (.cells #[.slice none 0 0] 38 (0, 0)) := by
      rw [← hW3]
      have := heap_alloc_new w1 (.cells #[.slice none 0 0] 38)
      exact ((Below.refl _ _).alloc (Nat.le_refl _) _).block _ (by simp) |>.trans this
    replace KB := KB.on hb3
    replace KF := KF.on hb3
    replace KP := KP.on hb3
    replace KL := KL.on hb3
    have p0 := row_cell 0 KP.here
    rw [pc_get0] at p0
    have hI0 : LoInv w.heap.size (w.heap.size + 1) (w1.heap.size + 1) w1.heap.size (w1.heap.size + 2) s a n c b m d F S O ([], -1) W3 := ⟨KF.here, KP.here, KL.here, rl, _, rb, OwnI.none0 _ _⟩
    have hG : LoG w.heap.size (w.heap.size + 1) (w1.heap.size + 1) w1.heap.size (w1.heap.size + 2) m b := by
      have hsec' := hsecb
      refine ⟨by omega, by omega, by omega, by omega, by omega, by omega, by omega, ?_⟩
      intro h0 g off e
      have := hsecb g off h0 e
      omega
    have hcall := orders_any w.heap.size (w.heap.size + 1) (w1.heap.size + 1) w1.heap.size (w1.heap.size + 2) s a n c b m d F S O hs2 hm2 hsec hG m [] (.slice none 0 0) ([], -1) W3 (by simp) (okL_nil m) lo_start (by omega) (OwnI.none0 _ _) hI0
    have HC := Lib.hid hcall; have HLO := Lib.hid hlo; have HGD := Lib.hid hgood; have HG := Lib.hid hG
    clear hcall hlo hgood hG hI0 hsec hsecb rl rb hs2 hm2 HF HS HO HP HR HPV HX6 HZ1 HFL HR1
    go_wp2_with (go_at_call 55; refine HC.out.mono ?_; rintro e W4 ⟨rfl, hI, hk⟩)
    clear HC p0
    have hgd := HGD.out
    have hlo := HLO.out
    obtain ⟨st, hst⟩ : ∃ x, loB (loC s F S) m m [] ([], -1) = x := ⟨_, rfl⟩
    rw [hst] at hI hgd hlo
    have HL1 := Lib.hid hlo
    clear hst HLO HGD hlo
    obtain ⟨_, _, _, h4, v, h5, h6⟩ := hI
    have c1 := row_cell 0 h4
    have c2 := row_cell 0 h5
    have hown := Lib.hid (OwnI.mono h6 (show w.heap.size ≤ w1.heap.size + 2 by omega))
    have hbelow : Below w.heap.size w W4 := ⟨hk.2.2.1.trans KB.here.os, hk.2.2.2.1.trans KB.here.tape, hk.2.2.2.2.trans KB.here.output, Nat.le_trans KB.here.size hk.1, fun j hj => (hk.2.1 j (by omega) (by omega) (by omega)).trans (KB.here.block j hj)⟩
    have HBB := Lib.hid hbelow
    clear h4 h5 h6 hbelow hk
    go_quiet (fail)
    go_wp2
    go_ret3
    have hbq : Below W4.heap.size W4 (W4.drewN nq) := below_drewN (Below.refl _ _) _
    exact ⟨v, by rw [HL1.out.2.1, HL1.out.2.2]; rfl, HBB.out.trans (hbq.mono HBB.out.size), by rw [HL1.out.1]; exact hown.out.below hbq⟩
  · have hRR := HR1.out
    have hres : loV s n P R m F S O = [] ∧ loX s n P R m F S O = 0 ∧ loCode s n P R m F S O = r := by
      cases pv
      · have h1 := lo_no HPV.out
        rw [h1.1, h1.2.1, h1.2.2]
        exact ⟨rfl, rfl, by rw [← hRR]; rfl⟩
      · rw [if_pos rfl] at hRR
        have h6 : ¬ m ≤ 6 := fun h => by
          have e : x6 = true := by rw [← HX6.out]; exact decide_eq_true (by omega)
          have := HZ1.out
          rw [e, unl_true] at this
          omega
        have h1 := lo_many HPV.out h6
        have e : x6 = false := by rw [← HX6.out]; exact decide_eq_false (by omega)
        have := HZ1.out
        rw [e, unl_false] at this
        exact ⟨h1.1, h1.2.1, by rw [h1.2.2, ← hRR, ← this]⟩
    have HRES := Lib.hid hres
    clear hRR hres
    go_wp2
    go_ret3
    exact ⟨_, by rw [HRES.out.2.1, HRES.out.2.2]; rfl, KB.here, by rw [HRES.out.1]; exact OwnI.none0 _ _⟩
end Go.Proofs.Ytlcfjeofphncgaa
