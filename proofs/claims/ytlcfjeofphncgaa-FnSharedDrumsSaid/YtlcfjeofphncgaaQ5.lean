/- Texts of this claim, put together in their order of building. No conditions. -/
import Derived.Maps.AppendAt
import Derived.Outline
import Derived.Test.YtlcfjeofphncgaaQ4
namespace Go.Proofs.Ytlcfjeofphncgaa
open Go.RowKit
set_option linter.unusedVariables false
set_option linter.unusedSimpArgs false

set_option maxRecDepth 100000 in
theorem shareGroups1_any (gf gd Tf Td : Nat) (k : Nat) (a : Option Addr) (n c : Nat) (P R : Nat → Int) (D E : Nat → Nat) (w : World) (hk : 2 ≤ k ∧ k ≤ 96) (hn : 1 ≤ n ∧ n ≤ 24) (hR : I8 R) (hD : D32 D) (hE : D32 E)
    (hf : w.heap[gf]? = some (.cells #[.int .i16 (k : Int), .slice a n c] Tf (0, 0))) (hg : DrumAt w Td gd E) (hh : HamAt w a n P R) :
    Calls Try.prog 41 #[.agg (dc D), .pointer (some ⟨gf, 0, none⟩), .pointer (some ⟨gd, 0, none⟩)] w fun e w' => e = .returned (.bool (freeB k R n (fun x => D x ||| E x))) ∧ Below w.heap.size w w' := by
  have HR := Lib.hid hR; have HD := Lib.hid hD; have HE := Lib.hid hE; clear hR hD hE
  have KB := Kp.base w; have KH := kp_ham hh; have KF := kp_row hf; have KE := kp_drum hg; clear hh hf hg
  replace KB := KB.alloc (.cells (dc D) 33)
  replace KH := KH.alloc (.cells (dc D) 33)
  replace KF := KF.alloc (.cells (dc D) 33)
  replace KE := KE.alloc (.cells (dc D) 33)
  have KD := kp_newd w (D) 33 (g := w.heap.size) (by simp)
  have HZ := Lib.hid (show (w.alloc (.cells (dc D) 33)).heap.size = w.heap.size + 1 by simp)
  go_enter Try.func41, Try.ntmps41
  go_wp2_with fail
  generalize (w.alloc (.cells (dc D) 33)) = W at KB KH KF KE KD HZ ⊢
  have hS0 := below_drew W
  refine wp_region_S (fun V => Below W.heap.size W V) (by kernel_rfl) hS0 ?_
  refine take_val 0 (.agg #[.int .i16 (k : Int), .slice a n c]) rfl (by kernel_rfl) (by kernel_rfl) (by kernel_rfl) (fun _ _ _ h => h) rfl (fun V hV => ex_load_iframe _ rfl gf rfl _ (k : Int) a n c (KF.at hV)) hS0 ?_
  simp only [List.getElem_toArray, List.getElem_cons_zero, List.getElem_cons_succ, Act.put, List.setIfInBounds_toArray, List.set_cons_zero, List.set_cons_succ]
  refine take_val 1 (.agg (dc D)) rfl (by kernel_rfl) (by kernel_rfl) (by kernel_rfl) (fun _ _ _ h => h) rfl (fun V hV => ex_load_drum _ rfl w.heap.size rfl _ D (KD.at hV)) hS0 ?_
  simp only [List.getElem_toArray, List.getElem_cons_zero, List.getElem_cons_succ, Act.put, List.setIfInBounds_toArray, List.set_cons_zero, List.set_cons_succ]
  refine take_val 2 (.agg (dc E)) rfl (by kernel_rfl) (by kernel_rfl) (by kernel_rfl) (fun _ _ _ h => h) rfl (fun V hV => ex_load_drum _ rfl gd rfl _ E (KE.at hV)) hS0 ?_
  simp only [List.getElem_toArray, List.getElem_cons_zero, List.getElem_cons_succ, Act.put, List.setIfInBounds_toArray, List.set_cons_zero, List.set_cons_succ]
  have hl := DrumsAt.two W.drew D E (twoL D E) rfl rfl
  have hS1 := hS0.alloc (o := .cells (dc D ++ dc E) 33) hS0.size
  refine step_val 3 _ _ (by kernel_rfl) rfl rfl (ex_build2 _ _ rfl D E rfl rfl) hS1 ?_
  simp only [List.getElem_toArray, List.getElem_cons_zero, List.getElem_cons_succ, Act.put, List.setIfInBounds_toArray, List.set_cons_zero, List.set_cons_succ]
  refine step_call 4 36 #[.slice (some ⟨W.drew.heap.size, 0, none⟩) 2 2] (by kernel_rfl) rfl rfl (by simp [go_sem]) ?_
  refine (union_any _ 2 2 (twoL D E) _ (by omega) (twoL_32 HD.out HE.out) hl).mono ?_
  have hu := unionTo_32 (twoL_32 HD.out HE.out) 2
  rw [union_two] at hu ⊢
  obtain ⟨U, hU⟩ : ∃ U, (fun x => D x ||| E x) = U := ⟨_, rfl⟩
  rw [hU] at hu ⊢
  rintro e w2 ⟨rfl, hb2⟩
  have hS2 := hS1.trans (hb2.mono hS1.size)
  refine ⟨_, rfl, hS2, ?_⟩
  simp only [List.getElem_toArray, List.getElem_cons_zero, List.getElem_cons_succ, Act.put, List.setIfInBounds_toArray, List.set_cons_zero, List.set_cons_succ]
  refine step_call 5 42 #[.agg #[.int .i16 (k : Int), .slice a n c], .agg (dc U)] (by kernel_rfl) rfl rfl (by simp [go_sem]) ?_
  refine (allClashes_any k a n c P R U w2 (by omega) hn hu HR.out (KH.at hS2)).mono ?_
  rintro e w3 ⟨v, rfl, hb3, hown⟩
  have hS3 := hS2.trans (hb3.mono hS2.size)
  obtain ⟨b1, c1, rfl⟩ := OwnL.form hown
  obtain ⟨x, hx⟩ : ∃ x, (plL (clB k R U) n (k * n)).length = x := ⟨_, rfl⟩
  have HX := Lib.hid (freeB_len hx)
  rw [hx]
  clear hown
  refine ⟨_, rfl, hS3, ?_⟩
  simp only [List.getElem_toArray, List.getElem_cons_zero, List.getElem_cons_succ, Act.put, List.setIfInBounds_toArray, List.set_cons_zero, List.set_cons_succ]
  refine take_val 6 (.int .i64 (x : Int)) rfl (by kernel_rfl) (by kernel_rfl) (by kernel_rfl) (fun _ _ _ h => h) rfl (fun V hV => by simp [go_sem]) hS3 ?_
  simp only [List.getElem_toArray, List.getElem_cons_zero, List.getElem_cons_succ, Act.put, List.setIfInBounds_toArray, List.set_cons_zero, List.set_cons_succ]
  refine take_val 7 (.bool (decide (x = 0))) rfl (by kernel_rfl) (by kernel_rfl) (by kernel_rfl) (fun _ _ _ h => h) rfl (fun V hV => by simp [go_sem, eq0_dec]) hS3 ?_
  simp only [List.getElem_toArray, List.getElem_cons_zero, List.getElem_cons_succ, Act.put, List.setIfInBounds_toArray, List.set_cons_zero, List.set_cons_succ]
  refine take_val 8 (.bool (decide (x = 0))) rfl (by kernel_rfl) (by kernel_rfl) (by kernel_rfl) (fun _ _ _ h => h) rfl (fun V hV => by simp [go_sem]) hS3 ?_
  simp only [List.getElem_toArray, List.getElem_cons_zero, List.getElem_cons_succ, Act.put, List.setIfInBounds_toArray, List.set_cons_zero, List.set_cons_succ]
  refine wpAnyH_done (by kernel_rfl) ?_ _
  have hb3 := KB.at hS3
  go_wp2
  go_ret
  exact ⟨by rw [hU, HX.out]; rfl, hb3⟩
theorem indexFuncShare_any (a : Option Addr) (n c : Nat) (L : Nat → Nat → Nat) (cp cq : Value) (p : Nat → Bool) (w : World) (hn : n ≤ 1000000000) (hh : DrumsAt w a n L)
    (hcall : ∀ W k, k < n → Below w.heap.size w W → Calls Try.prog 41 #[.agg (dc (L k)), cp, cq] W fun e W' => e = .returned (.bool (p k)) ∧ Below W.heap.size W W') :
    Calls Try.prog 40 #[.slice a n c, .func (.func 41) #[] #[cp, cq]] w fun e w' => ∃ r, e = .returned (.int .i64 r) ∧ IdxOf p n r ∧ Below w.heap.size w w' := by
  have HH := Lib.hid hh; clear hh
  have HC := Lib.hid hcall; clear hcall
  go_enter Try.func40, Try.ntmps40
  go_wp2
  go_loopw [8] (fun i w' => Below w.heap.size w w' ∧ ∃ k : Nat, k ≤ n ∧ i = .int .i64 k ∧ ∀ j, j < k → p j = false) (fun i _ => n - (intOf i).toNat)
  case atStart => exact ⟨Below.refl _ _, 0, by omega, rfl, fun j hj => by omega⟩
  case round =>
    obtain ⟨hb, k, hk, rfl, hK⟩ := hrel
    have HK := Lib.hid hK; clear hK
    by_cases hlt : k < n
    · have hx := DrumsAt.get HH.out (show 0 < n by omega)
      obtain ⟨g, off, rfl, hg, hc⟩ := hx
      have hck := Lib.hid ((hc k hlt).below hb hg)
      clear hc
      cases hp : p k
      · go_wp2_with (first | (with_reducible refine load_drum_mid rfl _ rfl g (off + k * 96) rfl (L k) hck.out ?_) | (go_at_call 41; refine (HC.out _ k hlt hb).mono ?_; rintro e w1 ⟨rfl, hb1⟩))
        go_roundw
        case rel => exact ⟨hb.trans (hb1.mono hb.size), k + 1, by omega, by go_num, fun j hj => if e : j = k then e ▸ hp else HK.out j (by omega)⟩
        case measure => simp [intOf]; omega
      · go_wp2_with (first | (with_reducible refine load_drum_mid rfl _ rfl g (off + k * 96) rfl (L k) hck.out ?_) | (go_at_call 41; refine (HC.out _ k hlt hb).mono ?_; rintro e w1 ⟨rfl, hb1⟩))
        go_ret
        exact ⟨_, rfl, .inr ⟨k, rfl, hlt, hp, HK.out⟩, hb.trans (hb1.mono hb.size)⟩
    · go_wp2
      go_ret
      exact ⟨_, rfl, .inl ⟨rfl, fun j hj => HK.out j (by omega)⟩, hb⟩
section
variable {ops : Array Oper} {rest : List Oper} {o : Oper} {a : Act} {w : World} {Q : Exit → Act → World → Prop}
/-- a number is appended; what the world is then, block by block -/
theorem append_intg (hgd : o.guard = none) (s x : Operand) (ho : o.op = .call { callee := .builtin .append, args := #[s, x], argTypes := #[38, 38] }) (base : Nat) (v : Value) (l : List Int) (hs : a.eval s = v) (hown : OwnI w base v l)
    (g : Nat) (y : Int) (hx : a.eval x = .slice (some ⟨g, 0, none⟩) 1 1) (hc : w.cell? ⟨g, 0, none⟩ = some (.int .i64 y)) (hl : l.length ≤ 1000000) (hbase : base ≤ w.heap.size)
    (h : ∀ v' w', OwnI w' base v' (l ++ [y]) → w.grownBy w' v.ownBlock → Below base w w' → wpList Try.prog ops Q rest (a.put o.dst v') w') : wpList Try.prog ops Q (o :: rest) a w := by
  obtain ⟨i0, hi, hz0, hz1, hz2⟩ := info_parts infoI64
  refine wpList_append_own w hgd s x 38 ho base 2 i0 (.int .i64 0) 1 8 Try.underlying38 hi hz0 hz1 hz2 rfl (by decide) v l.length _ hs hown ⟨g, 0, none⟩ 1 1 [.int .i64 y] hx rfl ?_ ?_ ?_ ?_ hbase ?_
  · intro j u hj
    match j, hj with
    | 0, hj => simp at hj; subst hj; simpa [Addr.add] using hc
  · intro u hu; simp at hu; subst hu; rfl
  · unfold maxLen; omega
  · omega
  · intro v' w' hown' hgrow _
    refine h v' w' ?_ hgrow (Below.grown (Below.refl _ _) hgrow hbase fun k hk => (World.ownsRow.lt hown k hk).1)
    unfold OwnI
    rw [List.length_append, List.map_append]
    exact hown'
/-- a drum is appended; which block it is then -/
theorem append_drum_at (hgd : o.guard = none) (s x : Operand) (ho : o.op = .call { callee := .builtin .append, args := #[s, x], argTypes := #[29, 29] }) (base : Nat) (v : Value) (l : List (Nat → Nat)) (hs : a.eval s = v) (hown : OwnD w base v l)
    (g : Nat) (E : Nat → Nat) (hx : a.eval x = .slice (some ⟨g, 0, none⟩) 1 1) (hg : w.heap[g]? = some (.cells (dc E) 33 (0, 0))) (hl : l.length ≤ 1000000) (hbase : base ≤ w.heap.size)
    (h : ∀ v' w', OwnD w' base v' (l ++ [E]) → w.grownBy w' v.ownBlock → Below base w w' → (v'.ownBlock = v.ownBlock ∨ v'.ownBlock = some w.heap.size) → wpList Try.prog ops Q rest (a.put o.dst v') w') : wpList Try.prog ops Q (o :: rest) a w := by
  obtain ⟨i0, hi, hz0, hz1, hz2⟩ := info_parts infoDrum
  unfold OwnD at hown h
  refine wpList_append_own_at w hgd s x 29 ho base 33 i0 (.agg (Array.replicate 96 (.int .u32 0))) 96 384 Try.underlying29 hi hz0 hz1 hz2 (by simp [Value.cells]) (by decide) v l.length _ hs hown ⟨g, 0, none⟩ 1 1 ([E].flatMap encD) hx (by simp [encD_len]) (one_cells (enc := encD) (T' := 33) (f := (0, 0)) (by rw [encD_arr]; exact hg)) ?_ ?_ ?_ hbase ?_
  · intro u hu
    simp at hu
    exact encD_one E u hu
  · unfold maxLen; omega
  · omega
  · intro v' w' hown' hgrow _ hat
    refine h v' w' ?_ hgrow (Below.grown (Below.refl _ _) hgrow hbase fun k hk => (World.ownsRow.lt hown k hk).1) hat
    unfold OwnL
    rw [List.length_append, List.flatMap_append]
    exact hown'
end
theorem heap_setCells_other (vs : List Value) : ∀ {o : Nat} {w : World} {g x : Nat}, x ≠ g → (w.setCells g o vs).heap[x]? = w.heap[x]? := by
  induction vs with
  | nil => intro o w g x _; rfl
  | cons v r ih =>
    intro o w g x h
    rw [World.setCells, ih h]
    exact heap_setCell_other w ⟨g, o, none⟩ x v h
theorem OwnD.keep {w w' : World} {base base2 : Nat} {v u : Value} {l : List (Nat → Nat)} {r : List Int} (h : OwnD w base v l) (hi : OwnI w base2 u r) (hg : w.grownBy w' u.ownBlock) : OwnD w' base v l := by
  unfold OwnD OwnL at *
  unfold OwnI at hi
  exact own_keep h (keep_grown (T2 := 2) hi hg) (by decide) (by decide)
theorem OwnI.keepD {w w' : World} {base base2 : Nat} {v u : Value} {l : List (Nat → Nat)} {r : List Int} (h : OwnI w base2 u r) (hi : OwnD w base v l) (hg : w.grownBy w' v.ownBlock) : OwnI w' base2 u r := by
  unfold OwnD OwnL at *
  unfold OwnI at *
  exact own_keep h (keep_grown (T2 := 33) hi hg) (by decide) (by decide)
theorem OwnI.setD {w : World} {base g o N : Nat} {u : Value} {r : List Int} {f : Nat → Value} (h : OwnI w base u r) (hb : BlkAt w 33 g N f) (vs : List Value) (hl : o + vs.length ≤ N) : OwnI (w.setCells g o vs) base u r := by
  unfold OwnI at *
  exact own_setCells (by decide) vs h hb hl
/-- what the closure asks -/
theorem fit_eq {k : Nat} {R : Nat → Int} {n : Nat} {L : Nat → Nat → Nat} {gs : List (List Nat)} {x t : Nat} (hx : x < gs.length) : fit k R n L (gs.getD x []) t = freeB k R n (fun y => ((gs.map (uniL L)).getD x D0) y ||| L t y) := by
  rw [fit_def, uniL_snoc]
  congr 1
  funext y
  simp [List.getD, List.getElem?_map, List.getElem?_eq_getElem hx]
theorem getD_32 {L : Nat → Nat → Nat} (hL : L32 L) (gs : List (List Nat)) (x : Nat) : D32 ((gs.map (uniL L)).getD x D0) := by
  by_cases hx : x < gs.length
  · have : (gs.map (uniL L)).getD x D0 = uniL L gs[x] := by simp [List.getD, List.getElem?_map, List.getElem?_eq_getElem hx]
    rw [this]; exact uniL_32 hL _
  · have : (gs.map (uniL L)).getD x D0 = D0 := by simp [List.getD, List.getElem?_map, List.getElem?_eq_none (Nat.le_of_not_lt hx)]
    rw [this]; intro j; simp [D0]
theorem getL_32 {L : Nat → Nat → Nat} (hL : L32 L) (g : List Nat) (i : Nat) : D32 ((g.map L).getD i D0) := by
  by_cases hx : i < g.length
  · have : (g.map L).getD i D0 = L g[i] := by simp [List.getD, List.getElem?_map, List.getElem?_eq_getElem hx]
    rw [this]; exact hL _
  · have : (g.map L).getD i D0 = D0 := by simp [List.getD, List.getElem?_map, List.getElem?_eq_none (Nat.le_of_not_lt hx)]
    rw [this]; intro j; simp [D0]
theorem grp_set {L : Nat → Nat → Nat} {gs : List (List Nat)} {j i : Nat} {l : List (Nat → Nat)} (hl : l = (more gs j).map (uniL L)) (hj : j < l.length) : l.set j (fun y => (l.getD j D0) y ||| L i y) = (grp gs j i).map (uniL L) := by
  rw [grp_uni, ← hl]
  congr 1
  funext y
  subst hl
  rw [List.length_map] at hj
  simp [List.getD, List.getElem?_map, List.getElem?_eq_getElem hj]
end Go.Proofs.Ytlcfjeofphncgaa
namespace Go.Proofs.Ytlcfjeofphncgaa
open Go.RowKit
set_option linter.unusedVariables false
set_option linter.unusedSimpArgs false

/-- valid drums -/
def DrV (s : Int) (n : Nat) (L : List (Nat → Nat)) : Prop := ∀ i, i < L.length → D32 (L.getD i D0) ∧ vDrum s n (L.getD i D0) = true
theorem DrV.nil (s : Int) (n : Nat) : DrV s n [] := fun i h => absurd h (by simp)
theorem DrV.snoc {s : Int} {n : Nat} {L : List (Nat → Nat)} {D : Nat → Nat} (h : DrV s n L) (h1 : D32 D) (h2 : vDrum s n D = true) : DrV s n (L ++ [D]) := by
  intro i hi
  rw [List.length_append, List.length_singleton] at hi
  by_cases e : i = L.length
  · subst e; simp [List.getD]; exact ⟨h1, h2⟩
  · have := h i (by omega)
    simpa [List.getD, List.getElem?_append_left (show i < L.length by omega)] using this
theorem DrV.l32 {s : Int} {n : Nat} {L : List (Nat → Nat)} (h : DrV s n L) : L32 (fun i => L.getD i D0) := by
  intro i
  by_cases hi : i < L.length
  · exact (h i hi).1
  · show D32 (L.getD i D0)
    rw [List.getD, List.getElem?_eq_none (Nat.le_of_not_lt hi)]
    exact D32_zero
theorem KeepS.drums {g base : Nat} {w V : World} {v : Value} {L : List (Nat → Nat)} (h : KeepS g w V) (ho : OwnD w base v L) (hb : g < base) : OwnD V base v L := by
  unfold OwnD OwnL at *
  exact h.grown ho hb
set_option maxRecDepth 100000 in
set_option maxHeartbeats 1000000 in
theorem a2Drums_any (a : Option Addr) (n c : Nat) (B : Nat → Int) (m : Nat) (b : Option Addr) (nh hc : Nat) (P R : Nat → Int) (w : World) (hn : n ≤ 1000000000000) (hu : U8 B) (hb : BytIn w w.heap.size a n B) (hm : 4 ≤ m ∧ m ≤ 17) (hnh : 1 ≤ nh ∧ nh ≤ 5) (hv : vFrame (m : Int) nh P R = true) (hh : HamAt w b nh P R) :
    Calls Try.prog 7 #[.slice a n c, .agg #[.int .i16 (m : Int), .slice b nh hc]] w fun e w' => (∃ L vb vc, e = .returned (.slice vb L.length vc) ∧ L.length ≤ 5 ∧ DrV (m : Int) nh L ∧ OwnD w' w.heap.size (.slice vb L.length vc) L) ∧ Below w.heap.size w w' := by
  have KB := Kp.base w
  have KH := kp_ham hh
  have HV := Lib.hid hv
  clear hh hv
  replace KB := KB.alloc (.cells #[.int .i16 (m : Int), .slice b nh hc] 27)
  replace KH := KH.alloc (.cells #[.int .i16 (m : Int), .slice b nh hc] 27)
  have KF := kp_new1 w #[.int .i16 (m : Int), .slice b nh hc] 27 (g := w.heap.size) (by simp)
  have HZ := Lib.hid (show (w.alloc (.cells #[.int .i16 (m : Int), .slice b nh hc] 27)).heap.size = w.heap.size + 1 by simp)
  go_enter Try.func7, Try.ntmps7
  go_wp2_with fail
  generalize (w.alloc (.cells #[.int .i16 (m : Int), .slice b nh hc] 27)) = W at KB KH KF HZ ⊢
  have hsz : w.heap.size < W.heap.size := by have := HZ.out; omega
  have hbw := KB.here
  have hb2 := Lib.hid (show BytIn W W.heap.size a n B from fun h => by
    obtain ⟨ad, e, h1, h2⟩ := (hb.below hbw) h
    exact ⟨ad, e, Nat.lt_of_lt_of_le h1 hbw.size, h2⟩)
  clear hb HZ
  refine (l00From_any a n c B W hu hb2.out).mono ?_
  rintro e w2 ⟨rfl, hs2, hbw2⟩
  have hgl := hs2.lt
  have hown0 : OwnD (w2.alloc (.cells #[] 33)) (W.heap.size + 1) (.slice (some ⟨w2.heap.size, 0, none⟩) 0 0) [] := OwnD.nil w2 (W.heap.size + 1) hgl
  have HO0 := Lib.hid hown0
  have HS2 := Lib.hid (hs2.below ((Below.refl _ _).alloc (Nat.le_refl _) (.cells #[] 33)))
  have HBA := Lib.hid (hbw2.alloc (Nat.le_of_lt hgl) (.cells #[] 33))
  clear hs2 hown0 hbw2 hb2
  go_wp2_with fail
  generalize w2.alloc (.cells #[] 33) = w3 at HO0 HS2 HBA ⊢
  refine (pick_any W.heap.size a n c B 0 6 w3 (by omega) hn (by omega) HS2.out).mono ?_
  rintro e w5 ⟨⟨v2, rfl, hv2⟩, hs5, hk5⟩
  have hv2 := hv2.lt (by omega)
  obtain ⟨m0, rfl⟩ : ∃ m0 : Nat, v2 = m0 := ⟨v2.toNat, by omega⟩
  have HO5 := Lib.hid (hk5.drums HO0.out (Nat.lt_succ_self _))
  have HB5 := Lib.hid (HBA.out.trans (hk5.below (Nat.le_refl _) HBA.out.size))
  have HS5 := Lib.hid hs5
  clear hs5 hk5 HS2 HO0 HBA
  go_wp2
  go_loopw [6, 7] (fun v i V => ∃ (j : Nat) (L : List (Nat → Nat)), i = .int .i64 j ∧ L.length + j = m0 ∧ DrV (m : Int) nh L ∧ OwnD V (W.heap.size + 1) v L ∧ Below W.heap.size W V ∧ SrcAt V W.heap.size a n c B (2 + 200 * L.length)) (fun _ i _ => (intOf i).toNat)
  case atStart => exact ⟨m0, [], rfl, by simp, DrV.nil _ _, HO5.out, HB5.out, HS5.out.more (by omega)⟩
  case round =>
    clear HO5 HB5 HS5
    obtain ⟨j, L, rfl, hj, hdr, hown, hbb, hsr⟩ := hrel
    obtain ⟨vb, vc, rfl⟩ := OwnD.form hown
    have HDR := Lib.hid hdr; have HO := Lib.hid hown; have HBB := Lib.hid hbb; have HS := Lib.hid hsr
    clear hdr hown hbb hsr
    by_cases h0 : 0 < j
    · have h0' : (0 : Int) < j := by omega
      have q3 := i64_id (x := (j : Int) - 1) (by omega)
      go_wp2_with fail
      refine (drumDrawn_any W.heap.size w.heap.size m b nh hc P R a n c B _ wr (by omega) hn HS.out hm hnh HV.out (kx_of_kp KF HBB.out (Nat.le_refl _)) (kx_of_kp KH HBB.out (Nat.le_refl _))).mono ?_
      rintro e w6 ⟨⟨D, rfl, hd, hvd⟩, hs6, hk6⟩
      have ho6 := hk6.drums HO.out (Nat.lt_succ_self _)
      have HOA := Lib.hid (ho6.alloc (.cells (dc D) 33))
      have hg6 := hs6.lt
      have HSA := Lib.hid (hs6.below ((Below.refl _ _).alloc (Nat.le_refl _) (.cells (dc D) 33)))
      have HBA := Lib.hid ((HBB.out.trans (hk6.below (Nat.le_refl _) HBB.out.size)).alloc (Nat.le_of_lt hg6) (.cells (dc D) 33))
      have hgA : W.heap.size + 1 ≤ (w6.alloc (.cells (dc D) 33)).heap.size := Nat.le_trans hg6 (by simp)
      have HDD := Lib.hid (HDR.out.snoc hd hvd)
      clear hs6 hk6 ho6 hd hvd HS HO
      go_wp2_with (first | (with_reducible refine build1 rfl _ rfl D rfl ?_) | (at_builtin; refine append_drum_at rfl _ _ rfl (W.heap.size + 1) _ L rfl HOA.out w6.heap.size D rfl (heap_alloc_new w6 _) (by omega) hgA ?_; intro v9 w9 hown9 hgr9 hb9 hat9; have HO9 := Lib.hid hown9; have HS9 := Lib.hid (HSA.out.stay hb9); have HB9 := Lib.hid (HBA.out.trans (hb9.mono (Nat.le_succ _))); clear hown9 hgr9 hb9 hat9) | fail)
      go_roundw
      case rel => exact ⟨j - 1, L ++ [D], by rw [show ((j - 1 : Nat) : Int) = (j : Int) - 1 by omega], by rw [List.length_append, List.length_singleton]; omega, HDD.out, HO9.out, HB9.out, HS9.out.more (by rw [List.length_append, List.length_singleton]; omega)⟩
      case measure => simp [intOf]; omega
    · have h0' : ¬ (0 : Int) < j := by omega
      have hwb := Lib.hid (KB.here.trans (HBB.out.mono (Nat.le_of_lt hsz)))
      go_wp2
      go_ret
      exact ⟨⟨L, vb, vc, rfl, by omega, HDR.out, OwnD.mono HO.out (by omega)⟩, hwb.out⟩
end Go.Proofs.Ytlcfjeofphncgaa
namespace Go.Proofs.Ytlcfjeofphncgaa
open Go.RowKit
set_option linter.unusedVariables false
set_option linter.unusedSimpArgs false

/-- a slice that came in reads as n changes -/
def ChgIn (w : World) (a : Option Addr) (n : Nat) (S K : Nat → Int) (U : Nat → Bool) : Prop :=
  0 < n → ∃ ad, a = some ad ∧ ad.block < w.heap.size ∧
    ∀ i, i < n → w.cell? (ad.add (i * 3)) = some (.int .i16 (S i)) ∧ w.cell? ⟨(ad.add (i * 3)).block, (ad.add (i * 3)).off + 1, none⟩ = some (.int .i8 (K i)) ∧ w.cell? ⟨(ad.add (i * 3)).block, (ad.add (i * 3)).off + 2, none⟩ = some (.bool (U i))
theorem ChgIn.get {w : World} {a : Option Addr} {n : Nat} {S K : Nat → Int} {U : Nat → Bool} (h : ChgIn w a n S K U) (hn : 0 < n) : ∃ ad, a = some ad ∧ ad.block < w.heap.size ∧
    ∀ i, i < n → w.cell? (ad.add (i * 3)) = some (.int .i16 (S i)) ∧ w.cell? ⟨(ad.add (i * 3)).block, (ad.add (i * 3)).off + 1, none⟩ = some (.int .i8 (K i)) ∧ w.cell? ⟨(ad.add (i * 3)).block, (ad.add (i * 3)).off + 2, none⟩ = some (.bool (U i)) := h hn
theorem ChgIn.below {w w' : World} {a : Option Addr} {n : Nat} {S K : Nat → Int} {U : Nat → Bool} (h : ChgIn w a n S K U) (hb : Below w.heap.size w w') : ChgIn w' a n S K U := by
  intro hn
  obtain ⟨ad, rfl, hg, hc⟩ := h hn
  refine ⟨ad, rfl, Nat.lt_of_lt_of_le hg hb.size, fun i hi => ?_⟩
  rw [hb.cell (p := ad.add (i * 3)) (by rw [add_block]; exact hg), hb.cell (p := ⟨(ad.add (i * 3)).block, (ad.add (i * 3)).off + 1, none⟩) (by rw [add_block]; exact hg), hb.cell (p := ⟨(ad.add (i * 3)).block, (ad.add (i * 3)).off + 2, none⟩) (by rw [add_block]; exact hg)]
  exact hc i hi
/-- a slice at the address a reads as n changes -/
def ChgAt (w : World) (a : Option Addr) (n : Nat) (S K : Nat → Int) (U : Nat → Bool) : Prop :=
  0 < n → ∃ g off, a = some ⟨g, off, none⟩ ∧ g < w.heap.size ∧
    ∀ i, i < n → w.cell? ⟨g, off + i * 3, none⟩ = some (.int .i16 (S i)) ∧ w.cell? ⟨g, off + i * 3 + 1, none⟩ = some (.int .i8 (K i)) ∧ w.cell? ⟨g, off + i * 3 + 2, none⟩ = some (.bool (U i))
theorem ChgAt.get {w : World} {a : Option Addr} {n : Nat} {S K : Nat → Int} {U : Nat → Bool} (h : ChgAt w a n S K U) (hn : 0 < n) : ∃ g off, a = some ⟨g, off, none⟩ ∧ g < w.heap.size ∧
    ∀ i, i < n → w.cell? ⟨g, off + i * 3, none⟩ = some (.int .i16 (S i)) ∧ w.cell? ⟨g, off + i * 3 + 1, none⟩ = some (.int .i8 (K i)) ∧ w.cell? ⟨g, off + i * 3 + 2, none⟩ = some (.bool (U i)) := h hn
theorem ChgAt.below {w w' : World} {a : Option Addr} {n : Nat} {S K : Nat → Int} {U : Nat → Bool} (h : ChgAt w a n S K U) (hb : Below w.heap.size w w') : ChgAt w' a n S K U := by
  intro hn
  obtain ⟨g, off, rfl, hg, hc⟩ := h hn
  refine ⟨g, off, rfl, Nat.lt_of_lt_of_le hg hb.size, fun i hi => ?_⟩
  rw [hb.cell (p := ⟨g, off + i * 3, none⟩) hg, hb.cell (p := ⟨g, off + i * 3 + 1, none⟩) hg, hb.cell (p := ⟨g, off + i * 3 + 2, none⟩) hg]
  exact hc i hi
/-- a block bears n changes -/
def ChgF (n : Nat) (S K : Nat → Int) (U : Nat → Bool) (f : Nat → Value) : Prop := ∀ i, i < n → f (i * 3) = .int .i16 (S i) ∧ f (i * 3 + 1) = .int .i8 (K i) ∧ f (i * 3 + 2) = .bool (U i)
theorem ChgF.at {w : World} {T g n : Nat} {S K : Nat → Int} {U : Nat → Bool} {f : Nat → Value} (h : ChgF n S K U f) (hb : BlkAt w T g (n * 3) f) : ChgAt w (some ⟨g, 0, none⟩) n S K U := fun _ =>
  ⟨g, 0, rfl, hb.lt, fun i hi => by
    rw [Nat.zero_add, hb.cell (i * 3) (by omega), hb.cell (i * 3 + 1) (by omega), hb.cell (i * 3 + 2) (by omega), (h i hi).1, (h i hi).2.1, (h i hi).2.2]
    exact ⟨rfl, rfl, rfl⟩⟩
theorem ChgF.step {k : Nat} {S K : Nat → Int} {U : Nat → Bool} {f : Nat → Value} (h : ChgF k S K U f) : ChgF (k + 1) S K U (updV (updV (updV f (k * 3) (.int .i16 (S k))) (k * 3 + 1) (.int .i8 (K k))) (k * 3 + 2) (.bool (U k))) := by
  intro i hi
  by_cases e : i = k
  · subst e
    rw [updV_other _ _ _ (by omega), updV_other _ _ _ (by omega), updV_same, updV_other _ _ _ (by omega), updV_same, updV_same]
    exact ⟨rfl, rfl, rfl⟩
  · rw [updV_other _ _ _ (by omega), updV_other _ _ _ (by omega), updV_other _ _ _ (by omega), updV_other _ _ _ (by omega), updV_other _ _ _ (by omega), updV_other _ _ _ (by omega), updV_other _ _ _ (by omega), updV_other _ _ _ (by omega), updV_other _ _ _ (by omega)]
    exact h i (by omega)
theorem kp_chgIn {w : World} {a : Option Addr} {n : Nat} {S K : Nat → Int} {U : Nat → Bool} (h : ChgIn w a n S K U) : Kp w (fun V => ChgIn V a n S K U) := Kp.mk fun _ hb => h.below hb
theorem kp_chg {w : World} {a : Option Addr} {n : Nat} {S K : Nat → Int} {U : Nat → Bool} (h : ChgAt w a n S K U) : Kp w (fun V => ChgAt V a n S K U) := Kp.mk fun _ hb => h.below hb
end Go.Proofs.Ytlcfjeofphncgaa
namespace Go.Proofs.Ytlcfjeofphncgaa
open Go.RowKit
set_option linter.unusedVariables false
set_option linter.unusedSimpArgs false

/-- the code of a change -/
def wpC (s : Int) (n : Nat) (P R : Nat → Int) (D : Nat → Nat) (k t : Int) (on : Bool) : Int := if plc s n P R D k t = 0 then (if hasPin D k.toNat t.toNat = on then 4 else 0) else plc s n P R D k t
/-- the drum behind a change -/
def wpD (D : Nat → Nat) (k t : Int) : Nat → Nat := upd D k.toNat (D k.toNat ^^^ 2 ^ t.toNat)
section
variable {s : Int} {n : Nat} {P R : Nat → Int} {D : Nat → Nat} {k t : Int} {on : Bool}
theorem wpC_no (h : ¬ plc s n P R D k t = 0) : wpC s n P R D k t on = plc s n P R D k t := if_neg h
theorem wpC_4 (h : plc s n P R D k t = 0) (h2 : hasPin D k.toNat t.toNat = on) : wpC s n P R D k t on = 4 := by unfold wpC; rw [if_pos h, if_pos h2]
theorem wpC_0 (h : plc s n P R D k t = 0) (h2 : ¬ hasPin D k.toNat t.toNat = on) : wpC s n P R D k t on = 0 := by unfold wpC; rw [if_pos h, if_neg h2]
theorem wpC_zero (h : wpC s n P R D k t on = 0) : plc s n P R D k t = 0 ∧ hasPin D k.toNat t.toNat = !on := by
  by_cases h1 : plc s n P R D k t = 0
  · by_cases h2 : hasPin D k.toNat t.toNat = on
    · rw [wpC_4 h1 h2] at h; simp at h
    · refine ⟨h1, ?_⟩
      cases on <;> simpa using h2
  · rw [wpC_no h1] at h; exact absurd h h1
theorem wpD_32 (hD : D32 D) (ht : t.toNat < 24) : D32 (wpD D k t) := upd_32 hD (xor_lt32 (hD _) (by have := pow24 ht; omega))
theorem okAll_frame (h : okAll s n P R 1 (fun _ => D) = true) : (2 ≤ s ∧ s ≤ 96) ∧ (1 ≤ n ∧ n ≤ 24) := ⟨(vFrame_iff.1 (okAll_iff.1 h).1).1, (vFrame_iff.1 (okAll_iff.1 h).1).2.1⟩
end
def wpR (s : Int) (n : Nat) (P R : Nat → Int) (D : Nat → Nat) (k t : Int) (on : Bool) : Nat → Nat := if wpC s n P R D k t on = 0 then wpD D k t else fun _ => 0
theorem wpR_yes {s : Int} {n : Nat} {P R : Nat → Int} {D : Nat → Nat} {k t : Int} {on : Bool} (h : wpC s n P R D k t on = 0) : wpR s n P R D k t on = wpD D k t := if_pos h
theorem wpR_no {s : Int} {n : Nat} {P R : Nat → Int} {D : Nat → Nat} {k t : Int} {on : Bool} {x : Int} (h : wpC s n P R D k t on = x) (hx : ¬ x = 0) : wpR s n P R D k t on = fun _ => 0 := by subst h; exact if_neg hx
attribute [irreducible] wpC wpD wpR
theorem wpD_def (D : Nat → Nat) (k t : Int) : wpD D k t = upd D k.toNat (D k.toNat ^^^ 2 ^ t.toNat) := by unfold wpD; rfl
/-- the drum behind the first i changes -/
def mkD (D : Nat → Nat) (S K : Nat → Int) : Nat → Nat → Nat
  | 0 => D
  | i + 1 => wpD (mkD D S K i) (S i) (K i)
theorem mkD_zero (D : Nat → Nat) (S K : Nat → Int) : mkD D S K 0 = D := rfl
theorem mkD_succ (D : Nat → Nat) (S K : Nat → Int) (i : Nat) : mkD D S K (i + 1) = wpD (mkD D S K i) (S i) (K i) := rfl
/-- the first one of i changes that has an error, and its code -/
def mkGo (s : Int) (n : Nat) (P R : Nat → Int) (D : Nat → Nat) (S K : Nat → Int) (U : Nat → Bool) : Nat → Option (Nat × Int)
  | 0 => none
  | i + 1 => match mkGo s n P R D S K U i with
    | some r => some r
    | none => if wpC s n P R (mkD D S K i) (S i) (K i) (U i) = 0 then none else some (i, wpC s n P R (mkD D S K i) (S i) (K i) (U i))
section
variable {s : Int} {n : Nat} {P R : Nat → Int} {D : Nat → Nat} {S K : Nat → Int} {U : Nat → Bool} {i m : Nat}
theorem mkGo_zero : mkGo s n P R D S K U 0 = none := rfl
theorem mkGo_no (h : mkGo s n P R D S K U i = none) (h2 : wpC s n P R (mkD D S K i) (S i) (K i) (U i) = 0) : mkGo s n P R D S K U (i + 1) = none := by simp only [mkGo, h, if_pos h2]
theorem mkGo_mono {r : Nat × Int} (h : mkGo s n P R D S K U i = some r) (j : Nat) : mkGo s n P R D S K U (i + j) = some r := by
  induction j with
  | zero => exact h
  | succ j ih => rw [Nat.add_succ]; simp only [mkGo, ih]
theorem mkGo_found (hi : i < m) (h : mkGo s n P R D S K U i = none) {x : Int} (hx : wpC s n P R (mkD D S K i) (S i) (K i) (U i) = x) (h2 : ¬ x = 0) : mkGo s n P R D S K U m = some (i, x) := by
  subst hx
  have h3 : mkGo s n P R D S K U (i + 1) = some (i, wpC s n P R (mkD D S K i) (S i) (K i) (U i)) := by simp only [mkGo, h, if_neg h2]
  have := mkGo_mono h3 (m - (i + 1))
  rwa [show i + 1 + (m - (i + 1)) = m by omega] at this
theorem wpC_track {k t : Int} {on : Bool} (h : wpC s n P R D k t on = 0) : t.toNat < 24 := by
  obtain ⟨h1, _⟩ := wpC_zero h
  obtain ⟨h2, _, h3⟩ := plc_zero h1
  have := (okAll_frame h2).2
  omega
end
attribute [irreducible] mkD mkGo
def mtD (D : Nat → Nat) (S K : Nat → Int) (m : Nat) : Option (Nat × Int) → Nat → Nat
  | some _ => fun _ => 0
  | none => mkD D S K m
def mtI (z : Int) : Option (Nat × Int) → Int
  | some r => r.1
  | none => z
def mtC (z : Int) : Option (Nat × Int) → Int
  | some r => r.2
  | none => z
theorem mtD_some (D : Nat → Nat) (S K : Nat → Int) (m : Nat) (r : Nat × Int) : mtD D S K m (some r) = fun _ => 0 := rfl
theorem mtD_none (D : Nat → Nat) (S K : Nat → Int) (m : Nat) : mtD D S K m none = mkD D S K m := rfl
attribute [irreducible] mtD
section
variable {ops : Array Oper} {rest : List Oper} {o : Oper} {a : Act} {w : World} {Q : Exit → Act → World → Prop}
/-- three results: a drum in its own cell, and two more -/
theorem results_drum3 {fn : Func} {p q r : Tmp} (h : fn.results = #[.cell p 33, .tmp q, .tmp r]) (tmps : Array Value) (w : World) (g T : Nat) (D : Nat → Nat) (v u : Value)
    (hp : tmps.getD p undef = .pointer (some ⟨g, 0, none⟩)) (hg : DrumAt w T g D) (hv : tmps.getD q undef = v) (hu : tmps.getD r undef = u) : (results fn tmps).run Try.prog w = .ok (.tuple #[.agg (dc D), v, u]) w := by
  have hp' : tmps[p]?.getD undef = .pointer (some ⟨g, 0, none⟩) := by simpa using hp
  have hv' : tmps[q]?.getD undef = v := by simpa using hv
  have hu' : tmps[r]?.getD undef = u := by simpa using hu
  simp [results, h, hp', hv', hu', asAddr, run_loadVar_row w g T 33 (dc D) (0, 0) _ hg und_drum rfl (by rw [dc_size]; exact size_drum)]
end
set_option maxRecDepth 100000 in
theorem l02Asked_any (gf gd T : Nat) (s : Int) (a : Option Addr) (n c : Nat) (P R : Nat → Int) (D : Nat → Nat) (w : World) (hs : -32768 ≤ s ∧ s ≤ 32767) (hn : n ≤ 1048576) (hP : I8 P) (hR : I8 R) (hh : HamAt w a n P R) (hf : w.heap[gf]? = some (.cells #[.int .i16 s, .slice a n c] 27 (0, 0))) (hd : DrumAt w T gd D) :
    Calls Try.prog 47 #[.pointer (some ⟨gf, 0, none⟩), .pointer (some ⟨gd, 0, none⟩)] w fun e w' => e = .returned (.int .i64 (unl (okAll s n P R 1 (fun _ => D)) 1)) ∧ Below w.heap.size w w' := by
  have HP := Lib.hid hP; have HR := Lib.hid hR
  clear hP hR
  have KF := kp_row hf; have KD := kp_drum hd; have KH := kp_ham hh; clear hf hd hh
  cases hv : vFrame s n P R
  · go_enter Try.func47, Try.ntmps47
    go_wp2_with fail
    refine (l02Frame_any gf s a n c P R w (by omega) hs HP.out HR.out (row_lt KF.here) (row_cell 0 KF.here) (row_cell 1 KF.here) KH.here).mono ?_
    rw [hv]
    rintro e w1 ⟨rfl, hb1⟩
    have hno : okAll s n P R 1 (fun _ => D) = false := by
      rw [← Bool.not_eq_true, okAll_iff]
      rintro ⟨H, _⟩
      rw [hv] at H
      exact absurd H (by simp)
    have HNO := Lib.hid hno; clear hno hv
    go_wp2
    go_ret
    exact ⟨ret_int (by rw [HNO.out, unl_false]), hb1⟩
  · obtain ⟨hS, hN, _⟩ := vFrame_iff.1 hv
    have hokd : okAll s n P R 1 (fun _ => D) = vDrum s n D := by
      rw [Bool.eq_iff_iff, okAll_iff]
      exact ⟨fun H => H.2 0 (by omega), fun H => ⟨hv, fun i hi => H⟩⟩
    have HOK := Lib.hid hokd; clear hokd
    go_enter Try.func47, Try.ntmps47
    go_wp2_with fail
    refine (l02Frame_any gf s a n c P R w (by omega) hs HP.out HR.out (row_lt KF.here) (row_cell 0 KF.here) (row_cell 1 KF.here) KH.here).mono ?_
    rw [hv]
    clear hv
    rintro e w1 ⟨rfl, hb1⟩
    replace KF := KF.on hb1
    replace KD := KD.on hb1
    go_wp2_with fail
    refine (l02Drum_any gf gd s a n c D w1 hN.2 hS.1 hS.2 (row_cell 0 KF.here) (row_cell 1 KF.here) (DrumAt.cells KD.here)).mono ?_
    rintro e w2 ⟨rfl, q, rfl⟩
    cases hvd : vDrum s n D
    all_goals
      have HVD := Lib.hid hvd; clear hvd
      go_wp2
      go_ret
    · exact ⟨ret_int (by rw [HOK.out, HVD.out, unl_false]), below_drewN hb1 _⟩
    · exact ⟨ret_int (by rw [HOK.out, HVD.out, unl_true]), below_drewN hb1 _⟩
end Go.Proofs.Ytlcfjeofphncgaa
namespace Go.Proofs.Ytlcfjeofphncgaa
open Go.RowKit
set_option linter.unusedVariables false
set_option linter.unusedSimpArgs false

theorem okOne {s : Int} {n : Nat} {P R : Nat → Int} {D : Nat → Nat} (hv : vFrame s n P R = true) (hvd : vDrum s n D = true) : okAll s n P R 1 (fun _ => D) = true := okAll_iff.2 ⟨hv, fun _ _ => hvd⟩
set_option maxRecDepth 100000 in
theorem implCountPins_ok (s : Int) (a : Option Addr) (n c : Nat) (P R : Nat → Int) (D : Nat → Nat) (w : World) (hv : vFrame s n P R = true) (hvd : vDrum s n D = true) (hP : I8 P) (hR : I8 R) (hh : HamAt w a n P R) (hD : D32 D) :
    Calls Try.prog 16 #[.agg #[.int .i16 s, .slice a n c], .agg (dc D)] w fun e w' => e = .returned (.tuple #[.int .i64 (cnt D), .int .i64 0]) ∧ Below w.heap.size w w' := by
  have HP := Lib.hid hP; have HR := Lib.hid hR; have HD := Lib.hid hD; clear hP hR hD
  obtain ⟨hS, hN, _⟩ := vFrame_iff.1 hv
  have HV := Lib.hid (okOne hv hvd)
  have KB := Kp.base w; have KH := kp_ham hh; clear hh hv hvd
  replace KB := KB.alloc (.cells #[.int .i16 s, .slice a n c] 27)
  replace KH := KH.alloc (.cells #[.int .i16 s, .slice a n c] 27)
  have KF := kp_new1 w #[.int .i16 s, .slice a n c] 27 (g := w.heap.size) (by simp)
  replace KB := KB.alloc (.cells (dc D) 33)
  replace KH := KH.alloc (.cells (dc D) 33)
  replace KF := KF.alloc (.cells (dc D) 33)
  have KD := kp_newd (w.alloc (.cells #[.int .i16 s, .slice a n c] 27)) (D) 33 (g := w.heap.size + 1) (by simp)
  have HZ := Lib.hid (show ((w.alloc (.cells #[.int .i16 s, .slice a n c] 27)).alloc (.cells (dc D) 33)).heap.size = w.heap.size + 1 + 1 by simp)
  go_enter Try.func16, Try.ntmps16
  go_wp2_with (first | (with_reducible refine load_iframe rfl _ rfl w.heap.size rfl _ s a n c KF.here ?_) | (with_reducible refine load_drum rfl _ rfl (w.heap.size + 1) rfl _ D KD.here ?_) | (with_reducible refine build1 rfl _ rfl D rfl ?_) | fail)
  generalize ((w.alloc (.cells #[.int .i16 s, .slice a n c] 27)).alloc (.cells (dc D) 33)) = W at KB KH KF KD HZ ⊢
  have hz := HZ.out
  have hl := DrumsAt.one W D (fun _ => D) rfl
  rw [hz] at hl
  clear HZ
  refine (drumCode_any s a n c P R _ 1 1 (fun _ => D) _ (by omega) (by omega) (by omega) HP.out HR.out (KH.alloc _).here hl).mono ?_
  rw [HV.out, unl_true]
  rintro e w1 ⟨rfl, hb1⟩
  replace KB := KB.alloc (.cells (dc D) 33)
  replace KH := KH.alloc (.cells (dc D) 33)
  replace KF := KF.alloc (.cells (dc D) 33)
  replace KD := KD.alloc (.cells (dc D) 33)
  replace KB := KB.on hb1
  replace KH := KH.on hb1
  replace KF := KF.on hb1
  replace KD := KD.on hb1
  clear hb1 hl hz
  go_wp2_with (first | (with_reducible refine load_drum rfl _ rfl (w.heap.size + 1) rfl _ D KD.here ?_) | (go_at_call 39; refine (count_any D HD.out _).mono ?_; rintro e w2 ⟨rfl, hb2⟩; replace KB := KB.on hb2; clear hb2) | fail)
  go_ret2
  exact ⟨rfl, KB.here⟩
set_option maxRecDepth 100000 in
theorem specIsPlayable_ok (s : Int) (a : Option Addr) (n c : Nat) (P R : Nat → Int) (D : Nat → Nat) (w : World) (hv : vFrame s n P R = true) (hvd : vDrum s n D = true) (hP : I8 P) (hR : I8 R) (hh : HamAt w a n P R) (hD : D32 D) :
    Calls Try.prog 17 #[.agg #[.int .i16 s, .slice a n c], .agg (dc D)] w fun e w' => e = .returned (.tuple #[.bool (freeB s.toNat R n D), .int .i64 0]) ∧ Below w.heap.size w w' := by
  have HP := Lib.hid hP; have HR := Lib.hid hR; have HD := Lib.hid hD; clear hP hR hD
  obtain ⟨hS, hN, _⟩ := vFrame_iff.1 hv
  have HV := Lib.hid (okOne hv hvd)
  obtain ⟨k, rfl⟩ : ∃ k : Nat, s = k := ⟨s.toNat, by omega⟩
  rw [Int.toNat_natCast]
  have KB := Kp.base w; have KH := kp_ham hh; clear hh hv hvd
  replace KB := KB.alloc (.cells #[.int .i16 (k : Int), .slice a n c] 27)
  replace KH := KH.alloc (.cells #[.int .i16 (k : Int), .slice a n c] 27)
  have KF := kp_new1 w #[.int .i16 (k : Int), .slice a n c] 27 (g := w.heap.size) (by simp)
  replace KB := KB.alloc (.cells (dc D) 33)
  replace KH := KH.alloc (.cells (dc D) 33)
  replace KF := KF.alloc (.cells (dc D) 33)
  have KD := kp_newd (w.alloc (.cells #[.int .i16 (k : Int), .slice a n c] 27)) (D) 33 (g := w.heap.size + 1) (by simp)
  have HZ := Lib.hid (show ((w.alloc (.cells #[.int .i16 (k : Int), .slice a n c] 27)).alloc (.cells (dc D) 33)).heap.size = w.heap.size + 1 + 1 by simp)
  go_enter Try.func17, Try.ntmps17
  go_wp2_with fail
  generalize ((w.alloc (.cells #[.int .i16 (k : Int), .slice a n c] 27)).alloc (.cells (dc D) 33)) = W at KB KH KF KD HZ ⊢
  clear HZ
  refine (l02Asked_any w.heap.size (w.heap.size + 1) 33 (k : Int) a n c P R D W (by omega) (by omega) HP.out HR.out KH.here KF.here KD.here).mono ?_
  rw [HV.out, unl_true]
  rintro e w1 ⟨rfl, hb1⟩
  replace KB := KB.on hb1
  replace KH := KH.on hb1
  replace KF := KF.on hb1
  replace KD := KD.on hb1
  clear hb1
  go_wp2_with fail
  refine (l02Clashes_any w.heap.size (w.heap.size + 1) 27 33 k a n c P R D w1 (by omega) hN HD.out HR.out KF.here KD.here KH.here).mono ?_
  rintro e w2 ⟨v, rfl, hb2, hown⟩
  obtain ⟨b1, c1, rfl⟩ := OwnL.form hown
  obtain ⟨x, hx⟩ : ∃ x, (plL (clB k R D) n (k * n)).length = x := ⟨_, rfl⟩
  have HX := Lib.hid (freeB_len hx)
  rw [hx]
  replace KB := KB.on hb2
  clear hown hx hb2
  go_wp2
  go_ret2
  exact ⟨by rw [HX.out, ← eq0_dec]; rfl, KB.here⟩
set_option maxRecDepth 100000 in
theorem implClashesOf_ok (s : Int) (a : Option Addr) (n c : Nat) (P R : Nat → Int) (D : Nat → Nat) (w : World) (hv : vFrame s n P R = true) (hvd : vDrum s n D = true) (hP : I8 P) (hR : I8 R) (hh : HamAt w a n P R) (hD : D32 D) :
    Calls Try.prog 50 #[.agg #[.int .i16 s, .slice a n c], .agg (dc D)] w fun e w' => ∃ v, e = .returned (.tuple #[v, .int .i64 0]) ∧ Below w.heap.size w w' ∧ OwnP w' w.heap.size v (plL (clB s.toNat R D) n (s.toNat * n)) := by
  have HP := Lib.hid hP; have HR := Lib.hid hR; have HD := Lib.hid hD; clear hP hR hD
  obtain ⟨hS, hN, _⟩ := vFrame_iff.1 hv
  have HV := Lib.hid (okOne hv hvd)
  obtain ⟨k, rfl⟩ : ∃ k : Nat, s = k := ⟨s.toNat, by omega⟩
  rw [Int.toNat_natCast]
  have KB := Kp.base w; have KH := kp_ham hh; clear hh hv hvd
  replace KB := KB.alloc (.cells #[.int .i16 (k : Int), .slice a n c] 27)
  replace KH := KH.alloc (.cells #[.int .i16 (k : Int), .slice a n c] 27)
  have KF := kp_new1 w #[.int .i16 (k : Int), .slice a n c] 27 (g := w.heap.size) (by simp)
  replace KB := KB.alloc (.cells (dc D) 33)
  replace KH := KH.alloc (.cells (dc D) 33)
  replace KF := KF.alloc (.cells (dc D) 33)
  have KD := kp_newd (w.alloc (.cells #[.int .i16 (k : Int), .slice a n c] 27)) (D) 33 (g := w.heap.size + 1) (by simp)
  have HZ := Lib.hid (show ((w.alloc (.cells #[.int .i16 (k : Int), .slice a n c] 27)).alloc (.cells (dc D) 33)).heap.size = w.heap.size + 1 + 1 by simp)
  go_enter Try.func50, Try.ntmps50
  go_wp2_with (first | (with_reducible refine load_iframe rfl _ rfl w.heap.size rfl _ (k : Int) a n c KF.here ?_) | (with_reducible refine load_drum rfl _ rfl (w.heap.size + 1) rfl _ D KD.here ?_) | (with_reducible refine build1 rfl _ rfl D rfl ?_) | fail)
  generalize ((w.alloc (.cells #[.int .i16 (k : Int), .slice a n c] 27)).alloc (.cells (dc D) 33)) = W at KB KH KF KD HZ ⊢
  have hz := HZ.out
  have hl := DrumsAt.one W D (fun _ => D) rfl
  rw [hz] at hl
  clear HZ
  refine (drumCode_any (k : Int) a n c P R _ 1 1 (fun _ => D) _ (by omega) (by omega) (by omega) HP.out HR.out (KH.alloc _).here hl).mono ?_
  rw [HV.out, unl_true]
  rintro e w1 ⟨rfl, hb1⟩
  replace KB := KB.alloc (.cells (dc D) 33)
  replace KH := KH.alloc (.cells (dc D) 33)
  replace KF := KF.alloc (.cells (dc D) 33)
  replace KD := KD.alloc (.cells (dc D) 33)
  replace KB := KB.on hb1
  replace KH := KH.on hb1
  replace KF := KF.on hb1
  replace KD := KD.on hb1
  clear hb1 hl hz
  go_wp2_with (first | (with_reducible refine load_iframe rfl _ rfl w.heap.size rfl _ (k : Int) a n c KF.here ?_) | (with_reducible refine load_drum rfl _ rfl (w.heap.size + 1) rfl _ D KD.here ?_) | fail)
  refine (allClashes_any k a n c P R D w1 (by omega) hN HD.out HR.out KH.here).mono ?_
  rintro e w2 ⟨v, rfl, hb2, hown⟩
  have hbs := KB.here.size
  replace KB := KB.on hb2
  have HO := Lib.hid (OwnL.mono hown hbs)
  clear hown hb2
  go_wp2
  go_ret2
  exact ⟨_, rfl, KB.here, HO.out⟩
set_option maxRecDepth 100000 in
theorem implIsPlayable_ok (s : Int) (a : Option Addr) (n c : Nat) (P R : Nat → Int) (D : Nat → Nat) (w : World) (hv : vFrame s n P R = true) (hvd : vDrum s n D = true) (hP : I8 P) (hR : I8 R) (hh : HamAt w a n P R) (hD : D32 D) :
    Calls Try.prog 20 #[.agg #[.int .i16 s, .slice a n c], .agg (dc D)] w fun e w' => e = .returned (.tuple #[.bool (freeB s.toNat R n D), .int .i64 0]) ∧ Below w.heap.size w w' := by
  have HP := Lib.hid hP; have HR := Lib.hid hR; have HD := Lib.hid hD; have HV := Lib.hid hv; have HVD := Lib.hid hvd
  clear hP hR hD hv hvd
  have KB := Kp.base w; have KH := kp_ham hh; clear hh
  replace KB := KB.alloc (.cells #[.int .i16 s, .slice a n c] 27)
  replace KH := KH.alloc (.cells #[.int .i16 s, .slice a n c] 27)
  have KF := kp_new1 w #[.int .i16 s, .slice a n c] 27 (g := w.heap.size) (by simp)
  replace KB := KB.alloc (.cells (dc D) 33)
  replace KH := KH.alloc (.cells (dc D) 33)
  replace KF := KF.alloc (.cells (dc D) 33)
  have KD := kp_newd (w.alloc (.cells #[.int .i16 s, .slice a n c] 27)) (D) 33 (g := w.heap.size + 1) (by simp)
  have HZ := Lib.hid (show ((w.alloc (.cells #[.int .i16 s, .slice a n c] 27)).alloc (.cells (dc D) 33)).heap.size = w.heap.size + 1 + 1 by simp)
  go_enter Try.func20, Try.ntmps20
  go_wp2_with (first | (with_reducible refine load_iframe rfl _ rfl w.heap.size rfl _ s a n c KF.here ?_) | (with_reducible refine load_drum rfl _ rfl (w.heap.size + 1) rfl _ D KD.here ?_) | fail)
  generalize ((w.alloc (.cells #[.int .i16 s, .slice a n c] 27)).alloc (.cells (dc D) 33)) = W at KB KH KF KD HZ ⊢
  clear HZ
  refine (implClashesOf_ok s a n c P R D W HV.out HVD.out HP.out HR.out KH.here HD.out).mono ?_
  rintro e w2 ⟨v, rfl, hb2, hown⟩
  obtain ⟨b1, c1, rfl⟩ := OwnL.form hown
  obtain ⟨x, hx⟩ : ∃ x, (plL (clB s.toNat R D) n (s.toNat * n)).length = x := ⟨_, rfl⟩
  have HX := Lib.hid (freeB_len hx)
  rw [hx]
  replace KB := KB.on hb2
  clear hown hx hb2
  go_wp2
  go_ret2
  exact ⟨by rw [HX.out, ← eq0_dec]; rfl, KB.here⟩
end Go.Proofs.Ytlcfjeofphncgaa
namespace Go.Proofs.Ytlcfjeofphncgaa
open Go.RowKit
set_option linter.unusedVariables false
set_option linter.unusedSimpArgs false

/-- v owns the groups of drums, each in a block of its own -/
def DX (w : World) (base top : Nat) (v : Value) (L : Nat → Nat → Nat) (gs : List (List Nat)) : Prop :=
  ∃ us : List Value, us.length = gs.length ∧ w.ownsRow base 29 1 v gs.length us ∧ (∀ (i : Nat) u, us[i]? = some u → OwnD w base u ((gs.getD i []).map L)) ∧
    (∀ (i : Nat) u, us[i]? = some u → ∀ b, u.ownBlock = some b → b < top) ∧ (∀ (i j : Nat) u u' b, us[i]? = some u → us[j]? = some u' → u.ownBlock = some b → u'.ownBlock = some b → i = j) ∧ ∀ (i : Nat) u, us[i]? = some u → u.ownBlock ≠ none
section
variable {w w' : World} {base top : Nat} {v : Value} {L : Nat → Nat → Nat} {gs : List (List Nat)}
theorem DX.below (h : DX w base top v L gs) (hb : Below w.heap.size w w') : DX w' base top v L gs := by
  obtain ⟨us, h1, h2, h3, h4, h5, h6⟩ := h
  exact ⟨us, h1, own_below h2 hb, fun i u hu => (h3 i u hu).below hb, h4, h5, h6⟩
theorem DX.retop (h : DX w base top v L gs) : DX w base w.heap.size v L gs := by
  obtain ⟨us, h1, h2, h3, h4, h5, h6⟩ := h
  exact ⟨us, h1, h2, h3, fun i u hu b hb => ((h3 i u hu).lt b hb).2, h5, h6⟩
theorem DX.alloc (h : DX w base top v L gs) (o : Obj) : DX (w.alloc o) base top v L gs := h.below ((Below.refl _ _).alloc (Nat.le_refl _) _)
theorem DX.nil (w : World) (base top : Nat) (L : Nat → Nat → Nat) (hb : base ≤ w.heap.size) : DX (w.alloc (.cells #[] 29)) base top (.slice (some ⟨w.heap.size, 0, none⟩) 0 0) L [] :=
  ⟨[], rfl, ⟨rfl, .inr ⟨w.heap.size, 0, #[], rfl, hb, heap_alloc_new w _, Nat.le_refl _, by unfold maxLen; omega, rfl, rfl⟩⟩, fun i u h => by simp at h, fun i u h => by simp at h, fun i j u u' b h => by simp at h, fun i u h => by simp at h⟩
theorem DX.form (h : DX w base top v L gs) : ∃ b c, v = .slice b gs.length c := by
  obtain ⟨us, h1, h2, _⟩ := h
  rcases h2.2 with ⟨rfl, h0⟩ | ⟨g, cap, cur, rfl, _⟩
  · exact ⟨none, 0, by rw [h0]⟩
  · exact ⟨_, _, rfl⟩
/-- the header's block and the rows' blocks are of different types -/
theorem hdrD_apart {m : Nat} {us : List Value} {u : Value} {l : List (Nat → Nat)} (h2 : w.ownsRow base 29 1 v m us) (hu : OwnD w base u l) : ∀ b, v.ownBlock = some b → u.ownBlock ≠ some b := by
  intro b hb e
  unfold OwnD OwnL at hu
  obtain ⟨cur, h⟩ := own_type h2 hb
  obtain ⟨cur', h'⟩ := own_type hu e
  rw [h] at h'
  simp at h'
theorem OwnD.kept {u : Value} {l : List (Nat → Nat)} {row : Option Nat} (h : OwnD w base u l) (hg : w.grownBy w' row) (hne : u.ownBlock = none ∨ u.ownBlock ≠ row) : OwnD w' base u l := by
  unfold OwnD OwnL at *
  exact World.ownsRow.kept h hg (hne.imp id fun h => by simpa using h)
/-- the j-th group's slice -/
theorem DX.get {b : Option Addr} {n c : Nat} (h : DX w base top (.slice b n c) L gs) {j : Nat} (hj : j < gs.length) : ∃ g u, b = some ⟨g, 0, none⟩ ∧ base ≤ g ∧ g < w.heap.size ∧ w.cell? ⟨g, j, none⟩ = some u ∧ OwnD w base u ((gs.getD j []).map L) ∧ u.ownBlock ≠ none := by
  obtain ⟨us, h1, h2, h3, _, _, h6⟩ := h
  rcases own_at h2 with ⟨e, h0⟩ | ⟨g, cap, e, hg, hlt, hc⟩
  · omega
  · injection e with e1 e2 e3
    have hx := hc j (by omega)
    have hj' : j < us.length := by omega
    exact ⟨g, us[j], e1, hg, hlt, by rw [hx, List.getElem?_eq_getElem hj'], h3 j _ (List.getElem?_eq_getElem hj'), h6 j _ (List.getElem?_eq_getElem hj')⟩
end
section
variable {ops : Array Oper} {rest : List Oper} {o : Oper} {a : Act} {w : World} {Q : Exit → Act → World → Prop}
theorem infoDs : (Try.prog.info? 29).map (fun i => (i.zero, i.size, i.bytes)) = some (some (.slice none 0 0), 1, 24) := by kernel_rfl
/-- an empty group is appended that lies apart from the others -/
theorem append_rowD (hgd : o.guard = none) (s x : Operand) (ho : o.op = .call { callee := .builtin .append, args := #[s, x], argTypes := #[76, 76] }) (base top : Nat) (v : Value) (L : Nat → Nat → Nat) (gs : List (List Nat)) (hs : a.eval s = v) (hown : DX w base top v L gs)
    (g : Nat) (u : Value) (hx : a.eval x = .slice (some ⟨g, 0, none⟩) 1 1) (hc : w.cell? ⟨g, 0, none⟩ = some u) (hu : OwnD w top u []) (hun : u.ownBlock ≠ none) (hbt : base ≤ top) (hl : gs.length ≤ 1000000) (hbase : base ≤ w.heap.size)
    (h : ∀ v' w', DX w' base w'.heap.size v' L (gs ++ [[]]) → Below base w w' → w.grownBy w' v.ownBlock → wpList Try.prog ops Q rest (a.put o.dst v') w') : wpList Try.prog ops Q (o :: rest) a w := by
  obtain ⟨i0, hi, hz0, hz1, hz2⟩ := info_parts infoDs
  obtain ⟨us, hl1, hvs, hrs, htop, hdis, hnn⟩ := hown
  have huo : u.oneCell' = true := by obtain ⟨b, c, rfl⟩ := OwnD.form hu; rfl
  refine wpList_append_own w hgd s x 76 ho base 29 i0 (.slice none 0 0) 1 24 Try.underlying76 hi hz0 hz1 hz2 rfl (by decide) v gs.length _ hs hvs ⟨g, 0, none⟩ 1 1 [u] hx rfl ?_ ?_ ?_ ?_ hbase ?_
  · intro j u' hj
    match j, hj with
    | 0, hj => simp at hj; subst hj; simpa [Addr.add] using hc
  · intro u' hu'; simp at hu'; subst hu'; exact huo
  · unfold maxLen; omega
  · omega
  · intro v' w' hown' hgrow _
    have hu' := OwnD.mono hu hbt
    refine h v' w' ?_ (Below.grown (Below.refl _ _) hgrow hbase fun b hb => (World.ownsRow.lt hvs b hb).1) hgrow
    have keep : ∀ u l, OwnD w base u l → OwnD w' base u l := fun u l hur => by
      refine hur.kept hgrow ?_
      cases hv : u.ownBlock with
      | none => exact .inl rfl
      | some b => exact .inr fun e2 => hdrD_apart hvs hur b e2.symm hv
    have hsz := hgrow.size
    have get : ∀ (i : Nat) x, (us ++ [u])[i]? = some x → (i < gs.length ∧ us[i]? = some x) ∨ (i = gs.length ∧ x = u) := by
      intro i x hi
      by_cases hlt : i < us.length
      · rw [List.getElem?_append_left hlt] at hi
        exact .inl ⟨by omega, hi⟩
      · rw [List.getElem?_append_right (by omega)] at hi
        have hi0 : i = us.length := by
          have := (List.getElem?_eq_some_iff.1 hi).1
          simp at this; omega
        subst hi0
        simp at hi
        exact .inr ⟨hl1, hi.symm⟩
    refine ⟨us ++ [u], by simp [hl1], by rw [List.length_append]; exact hown', fun i x hi => ?_, fun i x hi b hb => ?_, fun i j x y b hi hj hb hb' => ?_, fun i x hi => by rcases get i x hi with ⟨_, h1⟩ | ⟨rfl, rfl⟩; exact hnn i x h1; exact hun⟩
    · rcases get i x hi with ⟨h0, h1⟩ | ⟨rfl, rfl⟩
      · have := keep _ _ (hrs i x h1)
        have e1 : (gs ++ [([] : List Nat)]).getD i [] = gs.getD i [] := by simp [List.getD, List.getElem?_append_left h0]
        rw [e1]
        exact this
      · have := keep _ _ hu'
        have e1 : (gs ++ [([] : List Nat)]).getD gs.length [] = [] := by simp [List.getD]
        rw [e1]
        exact this
    · rcases get i x hi with ⟨_, h1⟩ | ⟨rfl, rfl⟩
      · have := ((hrs i x h1).lt b hb).2; omega
      · have := (hu.lt b hb).2; omega
    · rcases get i x hi with ⟨_, h1⟩ | ⟨rfl, rfl⟩ <;> rcases get j y hj with ⟨_, h2⟩ | ⟨rfl, rfl⟩
      · exact hdis i j x y b h1 h2 hb hb'
      · have h3 := htop i x h1 b hb
        have h4 := (hu.lt b hb').1
        omega
      · have h3 := htop j y h2 b hb'
        have h4 := (hu.lt b hb).1
        omega
      · rfl
end
/-- a group has grown, and its slice is stored in its place -/
theorem DX.grow {w w' : World} {base top : Nat} {L : Nat → Nat → Nat} {gs : List (List Nat)} {g n c : Nat} (h : DX w base top (.slice (some ⟨g, 0, none⟩) n c) L gs) {j : Nat} (hj : j < gs.length) {u u' : Value} (hu : w.cell? ⟨g, j, none⟩ = some u)
    (hg : w.grownBy w' u.ownBlock) (t : Nat) (hu' : OwnD w' base u' ((gs.getD j []).map L ++ [L t])) (hat : u'.ownBlock = u.ownBlock ∨ u'.ownBlock = some w.heap.size) :
    DX (w'.setCell ⟨g, j, none⟩ u') base (w'.setCell ⟨g, j, none⟩ u').heap.size (.slice (some ⟨g, 0, none⟩) n c) L (gs.set j (gs.getD j [] ++ [t])) ∧ (∃ N f, BlkAt w' 29 g N f ∧ j < N) := by
  obtain ⟨us, h1, h2, h3, h4, h5, h6⟩ := h
  have hj' : j < us.length := by omega
  have huj : us[j]? = some u := by
    rcases own_at h2 with ⟨e, h0⟩ | ⟨g', cap, e, _, hlt, hc⟩
    · omega
    · injection e with e1 e2 e3
      injection e1 with e1
      injection e1 with e1
      subst e1
      have := hc j (by omega)
      rw [hu] at this
      exact this.symm
  have hur := h3 j u huj
  have hsz := hg.size
  -- the header keeps
  have h2' : w'.ownsRow base 29 1 (.slice (some ⟨g, 0, none⟩) n c) gs.length us := by
    have hu2 := hur
    unfold OwnD OwnL at hu2
    exact own_keep h2 (keep_grown (T2 := 33) hu2 hg) (by decide) (by decide)
  -- the other groups keep
  have h3' : ∀ (i : Nat) x, i ≠ j → us[i]? = some x → OwnD w' base x ((gs.getD i []).map L) := fun i x hne hx => by
    refine (h3 i x hx).kept hg ?_
    cases hv : x.ownBlock with
    | none => exact .inl rfl
    | some b => exact .inr fun e => hne (h5 i j x u b hx huj hv e.symm)
  obtain ⟨hl, h0 | ⟨g', cap, cur, he, hgb, hb, hc, hm, hs, ht⟩⟩ := h2'
  · have := h0.2; omega
  · injection he with e1 e2 e3
    injection e1 with e1
    injection e1 with e1
    subst e1; subst e2; subst e3
    obtain ⟨f, hf⟩ := cf_of cur
    have hblk : BlkAt w' 29 g (c * 1) f := by unfold BlkAt; rw [hb, ← hs, ← hf]
    have hb2 := hblk.setCell j u' (by omega)
    have hus : ∀ x, x < gs.length → some (f x) = us[x]? := fun x hx => by
      have h9 : (cur.toList.take (gs.length * 1))[x]? = us[x]? := by rw [ht]
      rw [List.getElem?_take, if_pos (by omega), Array.getElem?_toList, hf, cf_get _ _ _ (by omega)] at h9
      exact h9
    have hd := own_done (w := w'.setCell ⟨g, j, none⟩ u') (base := base) (e := 29) (n := gs.length) (size := 1) (cap := c) (f := updV f j u') hgb hb2 hc hm (cf_size _ _) (fun x hx => cf_get _ _ _ (by omega))
    have hmk : mks (updV f j u') (gs.length * 1) = us.set j u' := by
      apply List.ext_getElem?
      intro x
      by_cases hx : x < gs.length
      · rw [mks_get _ _ _ (by omega)]
        by_cases e : x = j
        · subst e; rw [updV_same, List.getElem?_set_self hj']
        · rw [updV_other _ _ _ e, List.getElem?_set_ne (by omega), hus x hx]
      · rw [List.getElem?_eq_none (by rw [mks_len]; omega), List.getElem?_eq_none (by rw [List.length_set]; omega)]
    rw [hmk] at hd
    have get : ∀ (i : Nat) x, (us.set j u')[i]? = some x → (i ≠ j ∧ us[i]? = some x) ∨ (i = j ∧ x = u') := by
      intro i x hi
      by_cases e : i = j
      · subst e; rw [List.getElem?_set_self hj'] at hi; exact .inr ⟨rfl, (Option.some.inj hi).symm⟩
      · rw [List.getElem?_set_ne (by omega)] at hi; exact .inl ⟨e, hi⟩
    have hset : ∀ x l, OwnD w' base x l → OwnD (w'.setCell ⟨g, j, none⟩ u') base x l := fun x l hx => by
      unfold OwnD OwnL at *
      exact own_set hx hb (by decide) u'
    refine ⟨⟨us.set j u', by simp [h1], by rw [List.length_set]; exact hd, fun i x hi => ?_, fun i x hi b hbb => ?_, fun i i2 x y b hi hi2 hb1 hb3 => ?_, fun i x hi => by rcases get i x hi with ⟨_, h9⟩ | ⟨rfl, rfl⟩; exact h6 i x h9; exact fun e => by rcases hat with h9 | h9 <;> rw [h9] at e; exact h6 i u huj e; exact absurd e (by simp)⟩, c * 1, f, hblk, by omega⟩
    · rcases get i x hi with ⟨hne, hx⟩ | ⟨rfl, rfl⟩
      · rw [show (gs.set j (gs.getD j [] ++ [t])).getD i [] = gs.getD i [] by simp only [List.getD]; rw [List.getElem?_set_ne (by omega)]]
        exact hset _ _ (h3' i x hne hx)
      · rw [show (gs.set i (gs.getD i [] ++ [t])).getD i [] = gs.getD i [] ++ [t] by simp only [List.getD]; rw [List.getElem?_set_self hj]; rfl, List.map_append, List.map_cons, List.map_nil]
        exact hset _ _ hu'
    · have hs2 : (w'.setCell ⟨g, j, none⟩ u').heap.size = w'.heap.size := by simp
      rw [hs2]
      rcases get i x hi with ⟨hne, hx⟩ | ⟨rfl, rfl⟩
      · exact ((h3' i x hne hx).lt b hbb).2
      · exact (hu'.lt b hbb).2
    · have old : ∀ i x b, i ≠ j → us[i]? = some x → x.ownBlock = some b → u'.ownBlock ≠ some b := by
        intro i x b hne hx hxb e
        rcases hat with h9 | h9
        · exact hne (h5 i j x u b hx huj hxb (h9 ▸ e))
        · rw [h9] at e
          injection e with e
          have := ((h3 i x hx).lt b hxb).2
          omega
      rcases get i x hi with ⟨hne, hx⟩ | ⟨rfl, rfl⟩ <;> rcases get i2 y hi2 with ⟨hne2, hy⟩ | ⟨rfl, rfl⟩
      · exact h5 i i2 x y b hx hy hb1 hb3
      · exact absurd hb3 (old i x b hne hx hb1)
      · exact absurd hb1 (old i2 y b hne2 hy hb3)
      · rfl
/-- numbers grow beside the groups -/
theorem DX.keepI {w w' : World} {base base2 top : Nat} {v u : Value} {L : Nat → Nat → Nat} {gs : List (List Nat)} {r : List Int} (h : DX w base top v L gs) (hi : OwnI w base2 u r) (hg : w.grownBy w' u.ownBlock) : DX w' base top v L gs := by
  obtain ⟨us, h1, h2, h3, h4, h5, h6⟩ := h
  refine ⟨us, h1, ?_, fun i x hx => (h3 i x hx).keep hi hg, h4, h5, h6⟩
  unfold OwnI at hi
  exact own_keep h2 (keep_grown (T2 := 2) hi hg) (by decide) (by decide)
theorem OwnI.keepDs {w w' : World} {base base2 top : Nat} {v u : Value} {L : Nat → Nat → Nat} {gs : List (List Nat)} {r : List Int} (h : OwnI w base2 u r) (hi : DX w base top v L gs) (hg : w.grownBy w' v.ownBlock) : OwnI w' base2 u r := by
  obtain ⟨us, h1, h2, _⟩ := hi
  unfold OwnI at *
  exact own_keep h (keep_grown (T2 := 29) h2 hg) (by decide) (by decide)
theorem OwnI.setDs {w : World} {base g k N : Nat} {u x : Value} {r : List Int} {f : Nat → Value} (h : OwnI w base u r) (hb : BlkAt w 29 g N f) : OwnI (w.setCell ⟨g, k, none⟩ x) base u r := by
  unfold OwnI at *
  exact own_set h hb (by decide) x
theorem grp_more (gs : List (List Nat)) (j i : Nat) {ll : List (List Nat)} (h : more gs j = ll) : ll.set j (ll.getD j [] ++ [i]) = grp gs j i := by rw [grp_def, h]
/-- a slice of one's own with a block -/
theorem OwnD.open {w : World} {base : Nat} {u : Value} {l : List (Nat → Nat)} (h : OwnD w base u l) (hn : u.ownBlock ≠ none) : ∃ g c, u = .slice (some ⟨g, 0, none⟩) l.length c ∧ base ≤ g ∧ g < w.heap.size ∧ ∀ x u, (l.flatMap encD)[x]? = some u → w.cell? ((⟨g, 0, none⟩ : Addr).add x) = some u := by
  unfold OwnD OwnL at h
  rcases own_at h with ⟨rfl, _⟩ | ⟨g, c, rfl, hg, hlt, hc⟩
  · exact absurd rfl hn
  · refine ⟨g, c, rfl, hg, hlt, fun x u hx => ?_⟩
    have hxl := (List.getElem?_eq_some_iff.1 hx).1
    rw [h.1] at hxl
    have e : (⟨g, 0, none⟩ : Addr).add x = ⟨g, x, none⟩ := by unfold Addr.add; split <;> simp_all
    rw [e, hc x hxl, hx]
section
variable {md : Region.Mode} {ops : Array Oper} {Q : Exit → Act → World → Prop} {S : World → Prop} {fuel : Nat} {listed : Array Bool} {a : Act} {w : World}
/-- two operations may come up, each leaves a value and a world -/
theorem step_two {P : Program} (i j : Nat) {oi oj : Oper} (vi vj : Value) (wi wj : World) (hr : Region.ready md ops listed = [i, j]) (hoi : ops[i]? = some oi) (hoj : ops[j]? = some oj) (hwi : Region.wanted oi (yielded ops a.tmps) = true) (hwj : Region.wanted oj (yielded ops a.tmps) = true)
    (ei : (execOp a.eval oi).run P w = .ok (.value vi) wi) (ej : (execOp a.eval oj).run P w = .ok (.value vj) wj) (hSi : S wi) (hSj : S wj)
    (hi : wpAnyH P md ops Q S fuel (listed.setIfInBounds i true) (a.put oi.dst vi) wi) (hj : wpAnyH P md ops Q S fuel (listed.setIfInBounds j true) (a.put oj.dst vj) wj) : wpAnyH P md ops Q S (fuel + 1) listed a w := by
  refine wpAnyH_ready hr (by simp) (AllReadyH.cons hoi (fun K hK => ?_) (AllReadyH.cons hoj (fun K hK => ?_) AllReadyH.nil))
  · rw [if_pos hwi]
    unfold Oper.wp
    rw [ei]
    exact hK.out _ _ hSi fun _ => hi
  · rw [if_pos hwj]
    unfold Oper.wp
    rw [ej]
    exact hK.out _ _ hSj fun _ => hj
theorem ex_append_D {o : Oper} (s x : Operand) (ho : o.op = .call { callee := .builtin .append, args := #[s, x], argTypes := #[29, 29] }) (base : Nat) (v : Value) (l : List (Nat → Nat)) (hs : a.eval s = v) (hown : OwnD w base v l)
    (ad : Addr) (c : Nat) (ys : List (Nat → Nat)) (m : Nat) (hm : ys.length = m) (hx : a.eval x = .slice (some ad) m c) (hc : ∀ j u, (ys.flatMap encD)[j]? = some u → w.cell? (ad.add j) = some u) (hl : l.length + m ≤ 1000) (hbase : base ≤ w.heap.size) :
    ∃ v' w', (execOp a.eval o).run Try.prog w = .ok (.value v') w' ∧ OwnD w' base v' (l ++ ys) ∧ w.grownBy w' v.ownBlock ∧ Below base w w' ∧ (v'.ownBlock = v.ownBlock ∨ v'.ownBlock = some w.heap.size) := by
  subst hm
  obtain ⟨i0, hi, hz0, hz1, hz2⟩ := info_parts infoDrum
  unfold OwnD at hown ⊢
  have hlen : (ys.flatMap encD).length = ys.length * 96 := flat_len encD 96 encD_len ys
  obtain ⟨v', w', hrun, h2, h3, _, h5⟩ := run_append_own_at (P := Try.prog) w base 29 o.type 33 i0 (.agg (Array.replicate 96 (.int .u32 0))) 96 384 Try.underlying29 hi hz0 hz1 hz2 (by simp [Value.cells]) (by decide) v l.length _ hown ad ys.length c (ys.flatMap encD) hlen hc (fun u hu => by
    obtain ⟨y, _, hy⟩ := List.mem_flatMap.1 hu
    exact encD_one y u hy) (by unfold maxLen; omega) (by omega) hbase
  refine ⟨v', w', ?_, by unfold OwnL; rw [List.length_append, List.flatMap_append]; exact h2, h3, Below.grown (Below.refl _ _) h3 hbase fun k hk => (World.ownsRow.lt hown k hk).1, h5⟩
  unfold execOp
  simp only [ho, resolve, invoke, builtin, Sem.run_bind, Sem.run_pure, Result.andThen_ok, List.map_toArray, List.map_cons, List.map_nil, hs, hx, hrun]
theorem step_append_D (i : Nat) {o : Oper} (hr : Region.ready md ops listed = [i]) (hoi : ops[i]? = some o) (hw : Region.wanted o (yielded ops a.tmps) = true) (s x : Operand) (ho : o.op = .call { callee := .builtin .append, args := #[s, x], argTypes := #[29, 29] }) (base : Nat) (v : Value) (l : List (Nat → Nat)) (hs : a.eval s = v) (hown : OwnD w base v l)
    (ad : Addr) (c : Nat) (ys : List (Nat → Nat)) (m : Nat) (hm : ys.length = m) (hx : a.eval x = .slice (some ad) m c) (hc : ∀ j u, (ys.flatMap encD)[j]? = some u → w.cell? (ad.add j) = some u) (hl : l.length + m ≤ 1000) (hbase : base ≤ w.heap.size)
    (h : ∀ v' w', OwnD w' base v' (l ++ ys) → w.grownBy w' v.ownBlock → Below base w w' → (v'.ownBlock = v.ownBlock ∨ v'.ownBlock = some w.heap.size) → S w' ∧ wpAnyH Try.prog md ops Q S fuel (listed.setIfInBounds i true) (a.put o.dst v') w') : wpAnyH Try.prog md ops Q S (fuel + 1) listed a w := by
  obtain ⟨v', w', he, h1, h2, h3, h4⟩ := ex_append_D s x ho base v l hs hown ad c ys m hm hx hc hl hbase
  obtain ⟨h5, h6⟩ := h v' w' h1 h2 h3 h4
  exact step_val i v' w' hr hoi hw he h5 h6
theorem step_append_D_or (i j : Nat) {o oj : Oper} (hr : Region.ready md ops listed = [i, j]) (hoi : ops[i]? = some o) (hoj : ops[j]? = some oj) (hw : Region.wanted o (yielded ops a.tmps) = true) (hwj : Region.wanted oj (yielded ops a.tmps) = true) (vj : Value) (wj : World) (ej : (execOp a.eval oj).run Try.prog w = .ok (.value vj) wj) (hSj : S wj) (s x : Operand) (ho : o.op = .call { callee := .builtin .append, args := #[s, x], argTypes := #[29, 29] }) (base : Nat) (v : Value) (l : List (Nat → Nat)) (hs : a.eval s = v) (hown : OwnD w base v l)
    (ad : Addr) (c : Nat) (ys : List (Nat → Nat)) (m : Nat) (hm : ys.length = m) (hx : a.eval x = .slice (some ad) m c) (hc : ∀ j u, (ys.flatMap encD)[j]? = some u → w.cell? (ad.add j) = some u) (hl : l.length + m ≤ 1000) (hbase : base ≤ w.heap.size)
    (h : ∀ v' w', OwnD w' base v' (l ++ ys) → w.grownBy w' v.ownBlock → Below base w w' → (v'.ownBlock = v.ownBlock ∨ v'.ownBlock = some w.heap.size) → S w' ∧ wpAnyH Try.prog md ops Q S fuel (listed.setIfInBounds i true) (a.put o.dst v') w')
    (hj : wpAnyH Try.prog md ops Q S fuel (listed.setIfInBounds j true) (a.put oj.dst vj) wj) : wpAnyH Try.prog md ops Q S (fuel + 1) listed a w := by
  obtain ⟨v', w', he, h1, h2, h3, h4⟩ := ex_append_D s x ho base v l hs hown ad c ys m hm hx hc hl hbase
  obtain ⟨h5, h6⟩ := h v' w' h1 h2 h3 h4
  exact step_two i j v' vj w' wj hr hoi hoj hw hwj he ej h5 hSj h6 hj
theorem ex_build0 {o : Oper} (ho : o.op = .buildSlice 29 0 #[]) :
    (execOp a.eval o).run Try.prog w = .ok (.value (.slice (some ⟨w.heap.size, 0, none⟩) 0 0)) (w.alloc (.cells #[] 33)) := by
  have hr : (Instr.buildSlice 29 0 #[]).run Try.prog w = .ok (.slice (some ⟨w.heap.size, 0, none⟩) 0 0) (w.alloc (.cells #[] 33)) := by kernel_rfl
  simp only [execOp, ho, Array.map_empty, Sem.run_bind, hr, Result.andThen_ok]
  rfl
theorem ex_load_ds {o : Oper} (x : Operand) (ho : o.op = .load 29 x) (g p : Nat) (u : Value) (hx : a.eval x = .pointer (some ⟨g, p, none⟩)) (hc : w.cell? ⟨g, p, none⟩ = some u) :
    (execOp a.eval o).run Try.prog w = .ok (.value u) w := by
  unfold execOp
  simp only [ho, hx]
  simp [go_sem, hc]
theorem ex_store_ds {o : Oper} (x y : Operand) (ho : o.op = .store 29 x y) (g p : Nat) (ub : Option Addr) (un uc : Nat) (old : Value) (hx : a.eval x = .pointer (some ⟨g, p, none⟩)) (hy : a.eval y = .slice ub un uc) (hc : w.cell? ⟨g, p, none⟩ = some old) (hf : w.frozen? ⟨g, p, none⟩ = false) :
    (execOp a.eval o).run Try.prog w = .ok .skip (w.setCell ⟨g, p, none⟩ (.slice ub un uc)) := by
  unfold execOp
  simp only [ho, hx, hy]
  simp [go_sem, hc, hf]
end
/-- the union of a group, read as a list -/
theorem uni_list (L : Nat → Nat → Nat) (g : List Nat) : unionTo (fun i => (g.map L).getD i D0) g.length = uniL L g := by
  rw [uniL_def]
  exact unionTo_congr _ fun t ht => by simp [List.getD, List.getElem?_map, List.getElem?_eq_getElem ht]
end Go.Proofs.Ytlcfjeofphncgaa
namespace Go.Proofs.Ytlcfjeofphncgaa
open Go.RowKit
set_option linter.unusedVariables false
set_option linter.unusedSimpArgs false
set_option maxRecDepth 100000 in
set_option maxHeartbeats 8000000 in
theorem specShareGroups_any (s : Int) (a : Option Addr) (n c : Nat) (P R : Nat → Int) (b : Option Addr) (m d : Nat) (L : Nat → Nat → Nat) (w : World) (hs : -32768 ≤ s ∧ s ≤ 32767) (hn : n ≤ 1048576) (hP : I8 P) (hR : I8 R) (hh : HamAt w a n P R) (hm : m ≤ 1048576) (hL : L32 L) (hl : DrumsAt w b m L) :
    Calls Try.prog 14 #[.agg #[.int .i16 s, .slice a n c], .slice b m d] w fun e w' => ∃ v, e = .returned (.tuple #[v, .int .i64 (sgN s n P R m L), .int .i64 (sgC s n P R m L)]) ∧ Below w.heap.size w w' ∧ OwnI w' w.heap.size v (sgV s n P R m L) := by
  have HP := Lib.hid hP; have HR := Lib.hid hR; have HL := Lib.hid hL; clear hP hR hL
  have KB := Kp.base w
  have KH := kp_ham hh; have KL := kp_drums hl; clear hh hl
  replace KB := KB.alloc (.cells #[.int .i16 s, .slice a n c] 27)
  replace KH := KH.alloc (.cells #[.int .i16 s, .slice a n c] 27)
  replace KL := KL.alloc (.cells #[.int .i16 s, .slice a n c] 27)
  have KF := kp_new1 w #[.int .i16 s, .slice a n c] 27 (g := w.heap.size) (by simp)
  have HZ := Lib.hid (show (w.alloc (.cells #[.int .i16 s, .slice a n c] 27)).heap.size = w.heap.size + 1 by simp)
  go_enter Try.func14, Try.ntmps14
  go_wp2_with fail
  generalize (w.alloc (.cells #[.int .i16 s, .slice a n c] 27)) = W at KB KH KL KF HZ ⊢
  refine (l05Asked_any w.heap.size s a n c P R b m d L W hs hn HP.out HR.out KF.here KH.here hm KL.here).mono ?_
  rintro e w1 ⟨rfl, hb1⟩
  replace KB := KB.on hb1
  replace KH := KH.on hb1
  replace KL := KL.on hb1
  replace KF := KF.on hb1
  clear hb1
  have hsz1 := KB.here.size
  have HB00 := Lib.hid KB.here
  by_cases hv : lcode (okAll s n P R m L) m = 0
  · obtain ⟨h1, h2, h3⟩ := sg_yes hv
    obtain ⟨hok, hm8⟩ := lcode_zero hv
    obtain ⟨hS, hN, _⟩ := vFrame_iff.1 (okAll_iff.1 hok).1
    have H1 := Lib.hid h1; have H2 := Lib.hid h2; have H3 := Lib.hid h3
    rw [hv]
    clear h1 h2 h3 hv hok
    obtain ⟨k, rfl⟩ : ∃ k : Nat, s = k := ⟨s.toNat, by omega⟩
    rw [Int.toNat_natCast] at H1 H2
    have hE1 := OwnI.nil w1 w1.heap.size (Nat.le_refl _)
    have hE2 := DX.nil (w1.alloc (.cells #[] 2)) w1.heap.size 0 L (by simp)
    rw [size_alloc1] at hE2
    have HE1 := Lib.hid hE1; have HE2 := Lib.hid hE2.retop; clear hE1 hE2
    clear KB
    go_wp2
    go_loopw [8, 9, 10] (fun v u i w' => Below w1.heap.size w1 w' ∧ ∃ t : Nat, t ≤ m ∧ i = .int .i64 t ∧ OwnI w' w1.heap.size v (sg k R n L t).2 ∧ DX w' w1.heap.size w'.heap.size u L (sg k R n L t).1) (fun _ _ i _ => m - (intOf i).toNat)
    case atStart => exact ⟨((Below.refl _ _).alloc (Nat.le_refl _) _).alloc (by simp) _, 0, by omega, rfl, by rw [sg_zero]; exact (HE1.out.alloc _), by rw [sg_zero]; exact HE2.out⟩
    case round =>
      clear HE1 HE2
      obtain ⟨hb, t, ht, rfl, ho1, ho2⟩ := hrel
      have hsu := sg_succ k R n L t
      have hl1 := sg_len1 k R n L t
      have hl2 := sg_len2 k R n L t
      obtain ⟨gs, hgs⟩ : ∃ gs, (sg k R n L t).1 = gs := ⟨_, rfl⟩
      obtain ⟨rs, hrs⟩ : ∃ rs, (sg k R n L t).2 = rs := ⟨_, rfl⟩
      rw [hgs] at hsu hl1 ho2
      rw [hrs] at hsu hl2 ho1
      have HSU1 := Lib.hid (congrArg Prod.fst hsu); have HSU2 := Lib.hid (congrArg Prod.snd hsu)
      dsimp only at HSU1 HSU2
      have HRL := Lib.hid (show rs.length ≤ 100 by omega)
      have HGS0 := Lib.hid hgs; have HRS0 := Lib.hid hrs
      have hgl := sg_glen k R n L t
      rw [hgs] at hgl
      have HGL0 := Lib.hid hgl
      clear hsu hl2 hgs hrs hgl
      obtain ⟨vb, vc, rfl⟩ := DX.form ho2
      obtain ⟨q, hq⟩ : ∃ q, gs.length = q := ⟨_, rfl⟩
      rw [hq] at ho2 hl1 ⊢
      have HQ := Lib.hid hq; clear hq
      have HO1 := Lib.hid ho1; have HO2 := Lib.hid ho2
      clear ho1 ho2
      have KL1 := KL; have KH1 := KH; have KF1 := KF
      replace KH := KH.on hb
      replace KL := KL.on hb
      replace KF := KF.on hb
      have hszw := hb.size
      have HB := Lib.hid hb; clear hb
      obtain ⟨v8, hv8⟩ : ∃ v, v = u8 := ⟨_, rfl⟩
      subst hv8
      by_cases hlt : t < m
      · have hlt' : (t : Int) < m := by omega
        have hx := DrumsAt.get KL1.here (show 0 < m by omega)
        obtain ⟨g, off, rfl, hg, hc⟩ := hx
        have HC := Lib.hid (hc t hlt); clear hc
        go_wp2
        obtain ⟨U, rfl⟩ : ∃ U, U = wr := ⟨wr, rfl⟩
        go_loopw [11] (fun i w' => Below U.heap.size U w' ∧ ∃ j : Nat, j ≤ q ∧ i = .int .i64 j ∧ ∀ x, x < j → fit k R n L (gs.getD x []) t = false) (fun i _ => q - (intOf i).toNat)
        case atStart => exact ⟨Below.refl _ _, 0, by omega, rfl, fun x hx => by omega⟩
        case round =>
          obtain ⟨hb, JJ, hj, rfl, hK⟩ := hrel
          have HK := Lib.hid hK; clear hK
          have HT := Lib.hid (HO2.out.below hb)
          have HI := Lib.hid (HO1.out.below hb)
          replace KH := KH.on hb
          replace KF := KF.on hb
          have HBW := Lib.hid (HB.out.trans (hb.mono hszw))
          have HBU := Lib.hid hb
          clear hb
          by_cases hlt2 : JJ < q
          · have hJI : (JJ : Int) < q := by omega
            obtain ⟨gh0, u00, hqb0, hgb0, hgl0, hgc0, hou0, hun0⟩ := DX.get HT.out (by rw [HQ.out]; exact hlt2)
            subst hqb0
            obtain ⟨gu, cu, rfl, hgub, hgul, hcu⟩ := OwnD.open hou0 hun0
            rw [List.length_map] at hgc0
            obtain ⟨lu, hlu⟩ : ∃ lu, (gs.getD JJ []).length = lu := ⟨_, rfl⟩
            have hlu8 : lu ≤ t := by rw [← hlu]; exact HGL0.out JJ
            rw [hlu] at hgc0
            have hszW := HBW.out.size
            have HFIT := Lib.hid (fit_def k R n L (gs.getD JJ []) t)
            have HUL := Lib.hid (uni_list L (gs.getD JJ [] ++ [t]))
            have HGG := Lib.hid (show (gs.getD JJ []).map L ++ [L t] = (gs.getD JJ [] ++ [t]).map L by rw [List.map_append, List.map_cons, List.map_nil])
            have HGN := Lib.hid (show ((gs.getD JJ []).map L ++ [L t]).length = lu + 1 by rw [List.length_append, List.length_map, hlu]; rfl)
            have HGN2 := Lib.hid (show (gs.getD JJ [] ++ [t]).length = lu + 1 by rw [List.length_append, hlu]; rfl)
            have HYL := Lib.hid (show ((gs.getD JJ []).map L).length = lu by rw [List.length_map, hlu])
            have HCU := Lib.hid hcu
            clear hlu hcu hou0 hun0
            have hS0 := below_drew wr
            go_wp2
            refine wp_region_S (fun V => Below wr.heap.size wr V) (by kernel_rfl) hS0 ?_
            generalize wr.drew = Y0 at hS0 ⊢
            refine take_val 0 (.int .i64 (JJ : Nat)) rfl (by kernel_rfl) (by kernel_rfl) (by kernel_rfl) (fun _ _ _ h => h) rfl (fun V hV => by simp [go_sem]) hS0 ?_
            simp only [List.getElem_toArray, List.getElem_cons_zero, List.getElem_cons_succ, Act.put, List.setIfInBounds_toArray, List.set_cons_zero, List.set_cons_succ]
            refine take_val 1 (.slice (some ⟨gh0, 0, none⟩) q vc) rfl (by kernel_rfl) (by kernel_rfl) (by kernel_rfl) (fun _ _ _ h => h) rfl (fun V hV => by simp [go_sem]) hS0 ?_
            simp only [List.getElem_toArray, List.getElem_cons_zero, List.getElem_cons_succ, Act.put, List.setIfInBounds_toArray, List.set_cons_zero, List.set_cons_succ]
            refine take_val 2 (.int .i64 (q : Nat)) rfl (by kernel_rfl) (by kernel_rfl) (by kernel_rfl) (fun _ _ _ h => h) rfl (fun V hV => by simp [go_sem]) hS0 ?_
            simp only [List.getElem_toArray, List.getElem_cons_zero, List.getElem_cons_succ, Act.put, List.setIfInBounds_toArray, List.set_cons_zero, List.set_cons_succ]
            refine take_val 3 (.bool true) rfl (by kernel_rfl) (by kernel_rfl) (by kernel_rfl) (fun _ _ _ h => h) rfl (fun V hV => by simp [go_sem, hJI]) hS0 ?_
            simp only [List.getElem_toArray, List.getElem_cons_zero, List.getElem_cons_succ, Act.put, List.setIfInBounds_toArray, List.set_cons_zero, List.set_cons_succ]
            refine take_val 4 (.bool true) rfl (by kernel_rfl) (by kernel_rfl) (by kernel_rfl) (fun _ _ _ h => h) rfl (fun V hV => by simp [go_sem]) hS0 ?_
            simp only [List.getElem_toArray, List.getElem_cons_zero, List.getElem_cons_succ, Act.put, List.setIfInBounds_toArray, List.set_cons_zero, List.set_cons_succ]
            refine take_val 6 (.slice (some ⟨gh0, 0, none⟩) q vc) rfl (by kernel_rfl) (by kernel_rfl) (by kernel_rfl) (fun _ _ _ h => h) rfl (fun V hV => by simp [go_sem]) hS0 ?_
            simp only [List.getElem_toArray, List.getElem_cons_zero, List.getElem_cons_succ, Act.put, List.setIfInBounds_toArray, List.set_cons_zero, List.set_cons_succ]
            refine take_val 7 (.int .i64 (JJ : Nat)) rfl (by kernel_rfl) (by kernel_rfl) (by kernel_rfl) (fun _ _ _ h => h) rfl (fun V hV => by simp [go_sem]) hS0 ?_
            simp only [List.getElem_toArray, List.getElem_cons_zero, List.getElem_cons_succ, Act.put, List.setIfInBounds_toArray, List.set_cons_zero, List.set_cons_succ]
            refine take_val 8 (.pointer (some ⟨gh0, JJ, none⟩)) rfl (by kernel_rfl) (by kernel_rfl) (by kernel_rfl) (fun _ _ _ h => h) rfl (fun V hV => by simp [go_sem, hJI]) hS0 ?_
            simp only [List.getElem_toArray, List.getElem_cons_zero, List.getElem_cons_succ, Act.put, List.setIfInBounds_toArray, List.set_cons_zero, List.set_cons_succ]
            refine take_val 9 (.slice (some ⟨gu, 0, none⟩) lu cu) rfl (by kernel_rfl) (by kernel_rfl) (by kernel_rfl) (fun _ _ _ h => h) rfl (fun V hV => ex_load_ds _ rfl gh0 JJ _ rfl ((hV.cell (p := ⟨gh0, JJ, none⟩) hgl0).trans hgc0)) hS0 ?_
            simp only [List.getElem_toArray, List.getElem_cons_zero, List.getElem_cons_succ, Act.put, List.setIfInBounds_toArray, List.set_cons_zero, List.set_cons_succ]
            refine take_val 11 (.slice (some ⟨g, off, none⟩) m d) rfl (by kernel_rfl) (by kernel_rfl) (by kernel_rfl) (fun _ _ _ h => h) rfl (fun V hV => by simp [go_sem]) hS0 ?_
            simp only [List.getElem_toArray, List.getElem_cons_zero, List.getElem_cons_succ, Act.put, List.setIfInBounds_toArray, List.set_cons_zero, List.set_cons_succ]
            refine take_val 12 (.int .i64 (t : Nat)) rfl (by kernel_rfl) (by kernel_rfl) (by kernel_rfl) (fun _ _ _ h => h) rfl (fun V hV => by simp [go_sem]) hS0 ?_
            simp only [List.getElem_toArray, List.getElem_cons_zero, List.getElem_cons_succ, Act.put, List.setIfInBounds_toArray, List.set_cons_zero, List.set_cons_succ]
            refine take_val 13 (.pointer (some ⟨g, off + t * 96, none⟩)) rfl (by kernel_rfl) (by kernel_rfl) (by kernel_rfl) (fun _ _ _ h => h) rfl (fun V hV => by simp [go_sem, hlt']) hS0 ?_
            simp only [List.getElem_toArray, List.getElem_cons_zero, List.getElem_cons_succ, Act.put, List.setIfInBounds_toArray, List.set_cons_zero, List.set_cons_succ]
            refine take_val 14 (.agg (dc (L t))) rfl (by kernel_rfl) (by kernel_rfl) (by kernel_rfl) (fun _ _ _ h => h) rfl (fun V hV => ex_load_drum_mid _ rfl g (off + t * 96) rfl (L t) (HC.out.below (HBW.out.trans (hV.mono hszW)) hg)) hS0 ?_
            simp only [List.getElem_toArray, List.getElem_cons_zero, List.getElem_cons_succ, Act.put, List.setIfInBounds_toArray, List.set_cons_zero, List.set_cons_succ]
            have hcu' : ∀ X : World, Below wr.heap.size wr X → ∀ j u, (((gs.getD JJ []).map L).flatMap encD)[j]? = some u → X.cell? ((⟨gu, 0, none⟩ : Addr).add j) = some u := fun X hX j u hu => by
              rw [hX.cell (p := (⟨gu, 0, none⟩ : Addr).add j) (by rw [add_block]; exact hgul)]; exact HCU.out j u hu
            have hSa := hS0.alloc hS0.size (.cells #[] 33)
            have hSb := hS0.alloc hS0.size (.cells (dc (L t)) 33)
            have hSab := hSa.alloc hSa.size (.cells (dc (L t)) 33)
            have hSba := hSb.alloc hSb.size (.cells #[] 33)
            have hna := OwnD.nil Y0 wr.heap.size hS0.size
            have hnab := hna.alloc (.cells (dc (L t)) 33)
            have hnba := OwnD.nil (Y0.alloc (.cells (dc (L t)) 33)) wr.heap.size hSb.size
            refine' cut_with (A := ∀ (V : World) (v10 : Value) (g5 g15 : Nat), Below wr.heap.size wr V → OwnD V wr.heap.size v10 ((gs.getD JJ []).map L) → V.heap[g15]? = some (.cells (dc (L t)) 33 (0, 0)) → (_ : World → Value → Nat → Nat → Prop) V v10 g5 g15) (fun hcont => ?_) ?_
            rotate_left
            · refine step_two 5 15 _ _ _ _ (by kernel_rfl) rfl rfl rfl rfl (ex_build0 rfl) (ex_build1 _ rfl (L t) rfl) hSa hSb ?_ ?_
              · --
                simp only [List.getElem_toArray, List.getElem_cons_zero, List.getElem_cons_succ, Act.put, List.setIfInBounds_toArray, List.set_cons_zero, List.set_cons_succ]
                refine step_append_D_or 10 15 (by kernel_rfl) rfl rfl rfl rfl _ _ (ex_build1 _ rfl (L t) rfl) hSab _ _ rfl wr.heap.size _ [] rfl hna ⟨gu, 0, none⟩ cu _ lu HYL.out rfl (hcu' _ hSa) (by simp; omega) hSa.size ?_ ?_
                · intro v10 w10 ho10 hg10 hb10 _
                  rw [List.nil_append] at ho10
                  have hS10 := hSa.trans hb10
                  refine ⟨hS10, ?_⟩
                  simp only [List.getElem_toArray, List.getElem_cons_zero, List.getElem_cons_succ, Act.put, List.setIfInBounds_toArray, List.set_cons_zero, List.set_cons_succ]
                  have hSE := hS10.alloc hS10.size (.cells (dc (L t)) 33)
                  refine step_val 15 _ _ (by kernel_rfl) rfl rfl (ex_build1 _ rfl (L t) rfl) hSE ?_
                  simp only [List.getElem_toArray, List.getElem_cons_zero, List.getElem_cons_succ, Act.put, List.setIfInBounds_toArray, List.set_cons_zero, List.set_cons_succ]
                  have hoE := ho10.alloc (.cells (dc (L t)) 33)
                  have hrE := heap_alloc_new w10 (.cells (dc (L t)) 33)
                  generalize w10.alloc (.cells (dc (L t)) 33) = V at hSE hoE hrE ⊢
                  generalize w10.heap.size = g15 at hrE ⊢
                  generalize Y0.heap.size = g5
                  exact hcont V v10 g5 g15 hSE hoE hrE
                · --
                  simp only [List.getElem_toArray, List.getElem_cons_zero, List.getElem_cons_succ, Act.put, List.setIfInBounds_toArray, List.set_cons_zero, List.set_cons_succ]
                  refine step_append_D 10 (by kernel_rfl) rfl rfl _ _ rfl wr.heap.size (.slice (some ⟨Y0.heap.size, 0, none⟩) 0 0) [] rfl hnab ⟨gu, 0, none⟩ cu _ lu HYL.out rfl (hcu' _ hSab) (by simp; omega) hSab.size ?_
                  intro v10 w10 ho10 hg10 hb10 _
                  rw [List.nil_append] at ho10
                  have hSE := hSab.trans hb10
                  refine ⟨hSE, ?_⟩
                  simp only [List.getElem_toArray, List.getElem_cons_zero, List.getElem_cons_succ, Act.put, List.setIfInBounds_toArray, List.set_cons_zero, List.set_cons_succ]
                  have hr0 := heap_alloc_new (Y0.alloc (.cells #[] 33)) (.cells (dc (L t)) 33)
                  have hrE := (hg10.block (Y0.alloc (.cells #[] 33)).heap.size (by simp) (by simp [Value.ownBlock])).trans hr0
                  clear hg10 hr0
                  generalize (Y0.alloc (.cells #[] 33)).heap.size = g15 at hrE ⊢
                  generalize Y0.heap.size = g5
                  exact hcont w10 v10 g5 g15 hSE ho10 hrE
              · --
                simp only [List.getElem_toArray, List.getElem_cons_zero, List.getElem_cons_succ, Act.put, List.setIfInBounds_toArray, List.set_cons_zero, List.set_cons_succ]
                refine step_val 5 _ _ (by kernel_rfl) rfl rfl (ex_build0 rfl) hSba ?_
                simp only [List.getElem_toArray, List.getElem_cons_zero, List.getElem_cons_succ, Act.put, List.setIfInBounds_toArray, List.set_cons_zero, List.set_cons_succ]
                refine step_append_D 10 (by kernel_rfl) rfl rfl _ _ rfl wr.heap.size (.slice (some ⟨(Y0.alloc (.cells (dc (L t)) 33)).heap.size, 0, none⟩) 0 0) [] rfl hnba ⟨gu, 0, none⟩ cu _ lu HYL.out rfl (hcu' _ hSba) (by simp; omega) hSba.size ?_
                intro v10 w10 ho10 hg10 hb10 _
                rw [List.nil_append] at ho10
                have hSE := hSba.trans hb10
                refine ⟨hSE, ?_⟩
                simp only [List.getElem_toArray, List.getElem_cons_zero, List.getElem_cons_succ, Act.put, List.setIfInBounds_toArray, List.set_cons_zero, List.set_cons_succ]
                have hrE := (hg10.block Y0.heap.size (by simp; omega) (by simp [Value.ownBlock])).trans ((Below.heap_alloc (Y0.alloc (.cells (dc (L t)) 33)) (.cells #[] 33) Y0.heap.size (by simp)).trans (heap_alloc_new Y0 (.cells (dc (L t)) 33)))
                clear hg10
                generalize (Y0.alloc (.cells (dc (L t)) 33)).heap.size = g5
                generalize Y0.heap.size = g15 at hrE ⊢
                exact hcont w10 v10 g5 g15 hSE ho10 hrE
            intro V v10 g5 g15 hSE hoE hrE
            clear hS0 hSa hSb hSab hSba hna hnab hnba hcu'
            refine step_append_D 16 (by kernel_rfl) rfl rfl _ _ rfl wr.heap.size v10 _ rfl hoE ⟨g15, 0, none⟩ 1 [L t] 1 rfl rfl (one_cells (enc := encD) (T' := 33) (f := (0, 0)) (by rw [encD_arr]; exact hrE)) (by rw [HYL.out]; omega) hSE.size ?_
            intro v16 w16 ho16 _ hb16 _
            rw [HGG.out] at ho16
            obtain ⟨b16, c16, rfl⟩ := OwnD.form ho16
            rw [List.length_map, HGN2.out] at ho16 ⊢
            have hS16 := hSE.trans hb16
            refine ⟨hS16, ?_⟩
            simp only [List.getElem_toArray, List.getElem_cons_zero, List.getElem_cons_succ, Act.put, List.setIfInBounds_toArray, List.set_cons_zero, List.set_cons_succ]
            have hda := OwnD.readAt ho16
            rw [List.length_map, HGN2.out] at hda
            have h9 := l05Share_any w.heap.size _ k a n c P R b16 (lu + 1) c16 (fun i => ((gs.getD JJ [] ++ [t]).map L).getD i D0) w16 (by omega) hN (by omega) (fun i => getL_32 HL.out _ i) HR.out (KF.at hS16) hda (KH.at hS16)
            have hul := HUL.out
            rw [HGN2.out] at hul
            rw [hul, ← HFIT.out] at h9
            refine step_call 17 44 #[.pointer (some ⟨w.heap.size, 0, none⟩), .slice b16 (lu + 1) c16] (by kernel_rfl) rfl rfl (by simp [go_sem]) ?_
            refine h9.mono ?_
            obtain ⟨B, hB⟩ : ∃ B, fit k R n L (gs.getD JJ []) t = B := ⟨_, rfl⟩
            rw [hB]
            rintro e w17 ⟨rfl, hb17⟩
            have hS17 := hS16.trans (hb17.mono hS16.size)
            refine ⟨_, rfl, hS17, ?_⟩
            simp only [List.getElem_toArray, List.getElem_cons_zero, List.getElem_cons_succ, Act.put, List.setIfInBounds_toArray, List.set_cons_zero, List.set_cons_succ]
            refine take_val 18 (.bool (!B)) rfl (by kernel_rfl) (by kernel_rfl) (by kernel_rfl) (fun _ _ _ h => h) rfl (fun V hV => by simp [go_sem]) hS17 ?_
            simp only [List.getElem_toArray, List.getElem_cons_zero, List.getElem_cons_succ, Act.put, List.setIfInBounds_toArray, List.set_cons_zero, List.set_cons_succ]
            refine take_val 19 (.bool (!B)) rfl (by kernel_rfl) (by kernel_rfl) (by kernel_rfl) (fun _ _ _ h => h) rfl (fun V hV => by simp [go_sem]) hS17 ?_
            simp only [List.getElem_toArray, List.getElem_cons_zero, List.getElem_cons_succ, Act.put, List.setIfInBounds_toArray, List.set_cons_zero, List.set_cons_succ]
            refine wpAnyH_done (by kernel_rfl) ?_ _
            have HB17 := Lib.hid hS17
            have HF := Lib.hid hB
            clear hSE hoE hrE ho16 hb16 hS16 hda h9 hul hb17 hS17 hB
            cases B
            · go_wp2
              go_roundw
              case rel => exact ⟨HBU.out.trans (HB17.out.mono HBU.out.size), JJ + 1, by omega, by go_num, fun x hx => if e : x = JJ then e ▸ HF.out else HK.out x (by omega)⟩
              case measure => simp [intOf]; omega
            · have hjj := jOf_at (k := k) (R := R) (n := n) (L := L) (gs := gs) (i := t) (by rw [HQ.out]; exact hlt2) HF.out HK.out
              rw [hjj] at HSU1 HSU2
              clear hjj
              have hne9 : ¬ (JJ : Int) = q := by omega
              have hne8 : ((JJ : Int) == q) = false := by simpa using hne9
              obtain ⟨ll, hll⟩ : ∃ ll, gs = ll := ⟨gs, rfl⟩
              have HLM := Lib.hid (show more gs JJ = ll by rw [more_in (by rw [HQ.out]; exact hlt2), hll])
              have HTT := Lib.hid ((HT.out.below HB17.out).retop)
              rw [hll] at HTT
              have HJL := Lib.hid (show JJ < ll.length by rw [← hll, HQ.out]; exact hlt2)
              have HIT := Lib.hid (HI.out.below HB17.out)
              have HBT := Lib.hid (HBW.out.trans (HB17.out.mono hszW))
              have HGL := Lib.hid (show (ll.getD JJ []).length ≤ 100 by rw [← hll]; have := HGL0.out JJ; omega)
              clear HT HI KH KF HBW HBU HF HCU HYL HGN HGN2 HGG HUL HFIT HB17 hll
              go_wp2
              -- the drum goes to its group
              have hS0 : Below w1.heap.size w1 w17.drew := HBT.out.drew
              have htd := HTT.out.below (below_drew w17)
              have hoi := HIT.out.below (below_drew w17)
              obtain ⟨gh1, u0, hqb, hgb, hgl, hgc, hou, hun⟩ := DX.get htd HJL.out
              injection hqb with hqb
              injection hqb with hqb
              subst hqb
              refine wp_region_S (fun V => Below w1.heap.size w1 V) (by kernel_rfl) hS0 ?_
              refine take_val 0 (.slice (some ⟨gh0, 0, none⟩) q vc) rfl (by kernel_rfl) (by kernel_rfl) (by kernel_rfl) (fun _ _ _ h => h) rfl (fun V hV => by simp [go_sem]) hS0 ?_
              simp only [List.getElem_toArray, List.getElem_cons_zero, List.getElem_cons_succ, Act.put, List.setIfInBounds_toArray, List.set_cons_zero, List.set_cons_succ]
              refine take_val 1 (.int .i64 (JJ : Nat)) rfl (by kernel_rfl) (by kernel_rfl) (by kernel_rfl) (fun _ _ _ h => h) rfl (fun V hV => by simp [go_sem]) hS0 ?_
              simp only [List.getElem_toArray, List.getElem_cons_zero, List.getElem_cons_succ, Act.put, List.setIfInBounds_toArray, List.set_cons_zero, List.set_cons_succ]
              refine take_val 2 (.slice (some ⟨gh0, 0, none⟩) q vc) rfl (by kernel_rfl) (by kernel_rfl) (by kernel_rfl) (fun _ _ _ h => h) rfl (fun V hV => by simp [go_sem]) hS0 ?_
              simp only [List.getElem_toArray, List.getElem_cons_zero, List.getElem_cons_succ, Act.put, List.setIfInBounds_toArray, List.set_cons_zero, List.set_cons_succ]
              refine take_val 3 (.int .i64 (JJ : Nat)) rfl (by kernel_rfl) (by kernel_rfl) (by kernel_rfl) (fun _ _ _ h => h) rfl (fun V hV => by simp [go_sem]) hS0 ?_
              simp only [List.getElem_toArray, List.getElem_cons_zero, List.getElem_cons_succ, Act.put, List.setIfInBounds_toArray, List.set_cons_zero, List.set_cons_succ]
              refine take_val 4 (.pointer (some ⟨gh0, JJ, none⟩)) rfl (by kernel_rfl) (by kernel_rfl) (by kernel_rfl) (fun _ _ _ h => h) rfl (fun V hV => by simp [go_sem, hJI]) hS0 ?_
              simp only [List.getElem_toArray, List.getElem_cons_zero, List.getElem_cons_succ, Act.put, List.setIfInBounds_toArray, List.set_cons_zero, List.set_cons_succ]
              refine take_val 6 (.slice (some ⟨g, off, none⟩) m d) rfl (by kernel_rfl) (by kernel_rfl) (by kernel_rfl) (fun _ _ _ h => h) rfl (fun V hV => by simp [go_sem]) hS0 ?_
              simp only [List.getElem_toArray, List.getElem_cons_zero, List.getElem_cons_succ, Act.put, List.setIfInBounds_toArray, List.set_cons_zero, List.set_cons_succ]
              refine take_val 7 (.int .i64 (t : Nat)) rfl (by kernel_rfl) (by kernel_rfl) (by kernel_rfl) (fun _ _ _ h => h) rfl (fun V hV => by simp [go_sem]) hS0 ?_
              simp only [List.getElem_toArray, List.getElem_cons_zero, List.getElem_cons_succ, Act.put, List.setIfInBounds_toArray, List.set_cons_zero, List.set_cons_succ]
              refine take_val 8 (.pointer (some ⟨g, off + t * 96, none⟩)) rfl (by kernel_rfl) (by kernel_rfl) (by kernel_rfl) (fun _ _ _ h => h) rfl (fun V hV => by simp [go_sem, hlt']) hS0 ?_
              simp only [List.getElem_toArray, List.getElem_cons_zero, List.getElem_cons_succ, Act.put, List.setIfInBounds_toArray, List.set_cons_zero, List.set_cons_succ]
              refine take_val 9 (.agg (dc (L t))) rfl (by kernel_rfl) (by kernel_rfl) (by kernel_rfl) (fun _ _ _ h => h) rfl (fun V hV => ex_load_drum_mid _ rfl g (off + t * 96) rfl (L t) (HC.out.below hV hg)) hS0 ?_
              simp only [List.getElem_toArray, List.getElem_cons_zero, List.getElem_cons_succ, Act.put, List.setIfInBounds_toArray, List.set_cons_zero, List.set_cons_succ]
              have hS1 := hS0.alloc hS0.size (.cells (dc (L t)) 33)
              have hgc1 : (w17.drew.alloc (.cells (dc (L t)) 33)).cell? ⟨gh0, JJ, none⟩ = some u0 := (((Below.refl _ _).alloc (Nat.le_refl _) (.cells (dc (L t)) 33)).cell (p := ⟨gh0, JJ, none⟩) hgl).trans hgc
              have hrow := heap_alloc_new w17.drew (.cells (dc (L t)) 33)
              refine' cut_with (A := (_ : Prop)) (fun hcont => ?_) ?_
              rotate_left
              · refine step_two 5 10 _ _ _ _ (by kernel_rfl) rfl rfl rfl rfl (ex_load_ds _ rfl gh0 JJ u0 rfl hgc) (ex_build1 _ rfl (L t) rfl) hS0 hS1 ?_ ?_
                · --
                  simp only [List.getElem_toArray, List.getElem_cons_zero, List.getElem_cons_succ, Act.put, List.setIfInBounds_toArray, List.set_cons_zero, List.set_cons_succ]
                  refine step_val 10 _ _ (by kernel_rfl) rfl rfl (ex_build1 _ rfl (L t) rfl) hS1 ?_
                  simp only [List.getElem_toArray, List.getElem_cons_zero, List.getElem_cons_succ, Act.put, List.setIfInBounds_toArray, List.set_cons_zero, List.set_cons_succ]
                  exact hcont
                · --
                  simp only [List.getElem_toArray, List.getElem_cons_zero, List.getElem_cons_succ, Act.put, List.setIfInBounds_toArray, List.set_cons_zero, List.set_cons_succ]
                  refine step_val 5 _ _ (by kernel_rfl) rfl rfl (ex_load_ds _ rfl gh0 JJ u0 rfl hgc1) hS1 ?_
                  simp only [List.getElem_toArray, List.getElem_cons_zero, List.getElem_cons_succ, Act.put, List.setIfInBounds_toArray, List.set_cons_zero, List.set_cons_succ]
                  exact hcont
              have htd1 := (htd.alloc (.cells (dc (L t)) 33)).retop
              have hoi1 := hoi.alloc (.cells (dc (L t)) 33)
              have hou1 := hou.alloc (.cells (dc (L t)) 33)
              generalize w17.drew.alloc (.cells (dc (L t)) 33) = V at hS1 hgc1 hrow htd1 hoi1 hou1 ⊢
              generalize w17.drew.heap.size = gd at hrow ⊢
              clear hS0 htd hoi hgl hgc hou
              refine step_append_D 11 (by kernel_rfl) rfl rfl _ _ rfl w1.heap.size u0 _ rfl hou1 ⟨gd, 0, none⟩ 1 [L t] 1 rfl rfl (one_cells (enc := encD) (T' := 33) (f := (0, 0)) (by rw [encD_arr]; exact hrow)) (by rw [List.length_map]; have := HGL.out; omega) hS1.size ?_
              intro v6 w6 ho6 hg6 hb6 hat6
              obtain ⟨vb6, vc6, rfl⟩ := OwnD.form ho6
              have hS6 := hS1.trans hb6
              refine ⟨hS6, ?_⟩
              simp only [List.getElem_toArray, List.getElem_cons_zero, List.getElem_cons_succ, Act.put, List.setIfInBounds_toArray, List.set_cons_zero, List.set_cons_succ]
              obtain ⟨hdx, N6, f6, hbk, hjN⟩ := DX.grow htd1 HJL.out hgc1 hg6 t ho6 hat6
              have hoi6 := (hoi1.keepD hou1 hg6).setDs (k := JJ) (x := .slice vb6 ((ll.getD JJ []).map L ++ [L t]).length vc6) hbk
              have hS9 := hS6.setCell (p := ⟨gh0, JJ, none⟩) hgb (.slice vb6 ((ll.getD JJ []).map L ++ [L t]).length vc6)
              rw [grp_more gs JJ t HLM.out] at hdx
              refine take_val 12 (.pointer (some ⟨gh0, JJ, none⟩)) rfl (by kernel_rfl) (by kernel_rfl) (by kernel_rfl) (fun _ _ _ h => h) rfl (fun V hV => by simp [go_sem, hJI]) hS6 ?_
              simp only [List.getElem_toArray, List.getElem_cons_zero, List.getElem_cons_succ, Act.put, List.setIfInBounds_toArray, List.set_cons_zero, List.set_cons_succ]
              refine step_skip 13 _ (by kernel_rfl) rfl rfl (ex_store_ds _ _ rfl gh0 JJ vb6 _ vc6 _ rfl rfl (hbk.cell JJ hjN) (hbk.frozen JJ)) hS9 ?_
              simp only [List.getElem_toArray, List.getElem_cons_zero, List.getElem_cons_succ, Act.put, List.setIfInBounds_toArray, List.set_cons_zero, List.set_cons_succ]
              refine wpAnyH_done (by kernel_rfl) ?_ _
              generalize w6.setCell ⟨gh0, JJ, none⟩ (.slice vb6 ((ll.getD JJ []).map L ++ [L t]).length vc6) = w9 at hdx hoi6 hS9 ⊢
              have HSET := Lib.hid hdx; have HOI9 := Lib.hid hoi6; have HB9 := Lib.hid hS9; have hsz9 := hS9.size
              clear hS1 hgc1 hrow htd1 hoi1 hou1 ho6 hg6 hb6 hat6 hS6 hdx hbk hoi6 hS9
              go_wp2_with (at_builtin; refine append_intg rfl _ _ rfl w1.heap.size _ rs rfl (HOI9.out.alloc _) w9.heap.size (JJ : Int) rfl (by simp) (by have := HRL.out; omega) (by simp; omega) ?_; intro v10 w10 ho10 hg10 hb10; have HO10 := Lib.hid ho10; have HD10 := Lib.hid (((HSET.out.alloc _).keepI (HOI9.out.alloc _) hg10).retop); have HB10 := Lib.hid (((HB9.out.alloc hsz9 _).trans hb10)); clear ho10 hg10 hb10)
              go_roundw
              case rel => exact ⟨HB10.out, t + 1, by omega, by go_num, by rw [HSU2.out]; exact HO10.out, by rw [HSU1.out]; exact HD10.out⟩
              case measure => simp [intOf]; omega
          · have hJI : ¬ (JJ : Int) < q := by omega
            have hjq : JJ = q := by omega
            subst hjq
            have hjj := jOf_none (k := k) (R := R) (n := n) (L := L) (gs := gs) (i := t) (by rw [HQ.out]; exact HK.out)
            rw [hjj, HQ.out] at HSU1 HSU2
            clear hjj
            have HMORE := Lib.hid (more_new (gs := gs) (j := JJ) (by rw [HQ.out]; omega))
            have hS0 := below_drew wr
            go_wp2
            refine wp_region_S (fun V => Below wr.heap.size wr V) (by kernel_rfl) hS0 ?_
            refine take_val 0 (.int .i64 (JJ : Nat)) rfl (by kernel_rfl) (by kernel_rfl) (by kernel_rfl) (fun _ _ _ h => h) rfl (fun V hV => by simp [go_sem]) hS0 ?_
            simp only [List.getElem_toArray, List.getElem_cons_zero, List.getElem_cons_succ, Act.put, List.setIfInBounds_toArray, List.set_cons_zero, List.set_cons_succ]
            refine take_val 1 (.slice vb JJ vc) rfl (by kernel_rfl) (by kernel_rfl) (by kernel_rfl) (fun _ _ _ h => h) rfl (fun V hV => by simp [go_sem]) hS0 ?_
            simp only [List.getElem_toArray, List.getElem_cons_zero, List.getElem_cons_succ, Act.put, List.setIfInBounds_toArray, List.set_cons_zero, List.set_cons_succ]
            refine take_val 2 (.int .i64 (JJ : Nat)) rfl (by kernel_rfl) (by kernel_rfl) (by kernel_rfl) (fun _ _ _ h => h) rfl (fun V hV => by simp [go_sem]) hS0 ?_
            simp only [List.getElem_toArray, List.getElem_cons_zero, List.getElem_cons_succ, Act.put, List.setIfInBounds_toArray, List.set_cons_zero, List.set_cons_succ]
            refine take_val 3 (.bool false) rfl (by kernel_rfl) (by kernel_rfl) (by kernel_rfl) (fun _ _ _ h => h) rfl (fun V hV => by simp [go_sem]) hS0 ?_
            simp only [List.getElem_toArray, List.getElem_cons_zero, List.getElem_cons_succ, Act.put, List.setIfInBounds_toArray, List.set_cons_zero, List.set_cons_succ]
            refine take_val 4 (.bool false) rfl (by kernel_rfl) (by kernel_rfl) (by kernel_rfl) (fun _ _ _ h => h) rfl (fun V hV => by simp [go_sem]) hS0 ?_
            simp only [List.getElem_toArray, List.getElem_cons_zero, List.getElem_cons_succ, Act.put, List.setIfInBounds_toArray, List.set_cons_zero, List.set_cons_succ]
            refine skip_val 5 rfl (by kernel_rfl) (by kernel_rfl) (by kernel_rfl) (fun _ _ _ h => h) rfl hS0 ?_
            simp only [List.getElem_toArray, List.getElem_cons_zero, List.getElem_cons_succ, Act.put, List.setIfInBounds_toArray, List.set_cons_zero, List.set_cons_succ]
            refine skip_val 6 rfl (by kernel_rfl) (by kernel_rfl) (by kernel_rfl) (fun _ _ _ h => h) rfl hS0 ?_
            simp only [List.getElem_toArray, List.getElem_cons_zero, List.getElem_cons_succ, Act.put, List.setIfInBounds_toArray, List.set_cons_zero, List.set_cons_succ]
            refine skip_val 7 rfl (by kernel_rfl) (by kernel_rfl) (by kernel_rfl) (fun _ _ _ h => h) rfl hS0 ?_
            simp only [List.getElem_toArray, List.getElem_cons_zero, List.getElem_cons_succ, Act.put, List.setIfInBounds_toArray, List.set_cons_zero, List.set_cons_succ]
            refine skip_val 8 rfl (by kernel_rfl) (by kernel_rfl) (by kernel_rfl) (fun _ _ _ h => h) rfl hS0 ?_
            simp only [List.getElem_toArray, List.getElem_cons_zero, List.getElem_cons_succ, Act.put, List.setIfInBounds_toArray, List.set_cons_zero, List.set_cons_succ]
            refine skip_val 9 rfl (by kernel_rfl) (by kernel_rfl) (by kernel_rfl) (fun _ _ _ h => h) rfl hS0 ?_
            simp only [List.getElem_toArray, List.getElem_cons_zero, List.getElem_cons_succ, Act.put, List.setIfInBounds_toArray, List.set_cons_zero, List.set_cons_succ]
            refine skip_val 10 rfl (by kernel_rfl) (by kernel_rfl) (by kernel_rfl) (fun _ _ _ h => h) rfl hS0 ?_
            simp only [List.getElem_toArray, List.getElem_cons_zero, List.getElem_cons_succ, Act.put, List.setIfInBounds_toArray, List.set_cons_zero, List.set_cons_succ]
            refine skip_val 11 rfl (by kernel_rfl) (by kernel_rfl) (by kernel_rfl) (fun _ _ _ h => h) rfl hS0 ?_
            simp only [List.getElem_toArray, List.getElem_cons_zero, List.getElem_cons_succ, Act.put, List.setIfInBounds_toArray, List.set_cons_zero, List.set_cons_succ]
            refine skip_val 12 rfl (by kernel_rfl) (by kernel_rfl) (by kernel_rfl) (fun _ _ _ h => h) rfl hS0 ?_
            simp only [List.getElem_toArray, List.getElem_cons_zero, List.getElem_cons_succ, Act.put, List.setIfInBounds_toArray, List.set_cons_zero, List.set_cons_succ]
            refine skip_val 13 rfl (by kernel_rfl) (by kernel_rfl) (by kernel_rfl) (fun _ _ _ h => h) rfl hS0 ?_
            simp only [List.getElem_toArray, List.getElem_cons_zero, List.getElem_cons_succ, Act.put, List.setIfInBounds_toArray, List.set_cons_zero, List.set_cons_succ]
            refine skip_val 14 rfl (by kernel_rfl) (by kernel_rfl) (by kernel_rfl) (fun _ _ _ h => h) rfl hS0 ?_
            simp only [List.getElem_toArray, List.getElem_cons_zero, List.getElem_cons_succ, Act.put, List.setIfInBounds_toArray, List.set_cons_zero, List.set_cons_succ]
            refine skip_val 15 rfl (by kernel_rfl) (by kernel_rfl) (by kernel_rfl) (fun _ _ _ h => h) rfl hS0 ?_
            simp only [List.getElem_toArray, List.getElem_cons_zero, List.getElem_cons_succ, Act.put, List.setIfInBounds_toArray, List.set_cons_zero, List.set_cons_succ]
            refine skip_val 16 rfl (by kernel_rfl) (by kernel_rfl) (by kernel_rfl) (fun _ _ _ h => h) rfl hS0 ?_
            simp only [List.getElem_toArray, List.getElem_cons_zero, List.getElem_cons_succ, Act.put, List.setIfInBounds_toArray, List.set_cons_zero, List.set_cons_succ]
            refine skip_val 17 rfl (by kernel_rfl) (by kernel_rfl) (by kernel_rfl) (fun _ _ _ h => h) rfl hS0 ?_
            simp only [List.getElem_toArray, List.getElem_cons_zero, List.getElem_cons_succ, Act.put, List.setIfInBounds_toArray, List.set_cons_zero, List.set_cons_succ]
            refine skip_val 18 rfl (by kernel_rfl) (by kernel_rfl) (by kernel_rfl) (fun _ _ _ h => h) rfl hS0 ?_
            simp only [List.getElem_toArray, List.getElem_cons_zero, List.getElem_cons_succ, Act.put, List.setIfInBounds_toArray, List.set_cons_zero, List.set_cons_succ]
            refine take_val 19 (.bool false) rfl (by kernel_rfl) (by kernel_rfl) (by kernel_rfl) (fun _ _ _ h => h) rfl (fun V hV => by simp [go_sem]) hS0 ?_
            simp only [List.getElem_toArray, List.getElem_cons_zero, List.getElem_cons_succ, Act.put, List.setIfInBounds_toArray, List.set_cons_zero, List.set_cons_succ]
            refine wpAnyH_done (by kernel_rfl) ?_ _
            have HZT := Lib.hid ((HT.out.below hS0).retop)
            have HZI := Lib.hid (HI.out.below hS0)
            have HZB := Lib.hid (HBW.out.drew)
            have hszz := HZB.out.size
            generalize wr.drew = Z at HZT HZI HZB hszz ⊢
            clear hS0 HT HI HBW HBU KH KF
            have HNU := Lib.hid ((OwnD.nil Z Z.heap.size (Nat.le_refl _)).alloc (.cells #[.slice (some ⟨Z.heap.size, 0, none⟩) 0 0] 29))
            go_wp2_with (at_builtin; refine append_rowD rfl _ _ rfl w1.heap.size Z.heap.size _ L gs rfl ((HZT.out.alloc _).alloc _) (Z.heap.size + 1) (.slice (some ⟨Z.heap.size, 0, none⟩) 0 0) rfl (by simp) HNU.out (by simp [Value.ownBlock]) hszz (by rw [HQ.out]; omega) (by simp; omega) ?_; intro v5 w5 ho5 hb5 hg5; have HO5 := Lib.hid ho5; have HI5 := Lib.hid (((HZI.out.alloc _).alloc _).keepDs ((HZT.out.alloc _).alloc _) hg5); have HB5 := Lib.hid (((HZB.out.alloc hszz _).alloc (by simp; omega) _).trans hb5); clear ho5 hb5 hg5)
            obtain ⟨qb, qc, rfl⟩ := DX.form HO5.out
            have hl9 : (gs ++ [([] : List Nat)]).length = JJ + 1 := by rw [List.length_append, HQ.out]; rfl
            have hg9 : ((gs ++ [([] : List Nat)]).getD JJ []).length ≤ 100 := by simp [List.getD, ← HQ.out]
            obtain ⟨ll, hll⟩ : ∃ ll, gs ++ [([] : List Nat)] = ll := ⟨_, rfl⟩
            rw [hll] at HO5 HMORE hl9 hg9 ⊢
            have HLM := HMORE; have HTT := HO5; have HIT := HI5; have HBT := HB5
            have HGL := Lib.hid hg9
            have HJL := Lib.hid (show JJ < ll.length by omega)
            obtain ⟨QN, hQN⟩ : ∃ QN, ll.length = QN := ⟨_, rfl⟩
            rw [hQN] at HTT ⊢
            have hJI2 : (JJ : Int) < QN := by omega
            clear hJI hl9 hg9 hll hQN HZT HZI HZB HNU HMORE HO5 HI5 HB5
            -- the drum goes to its group
            have hS0 : Below w1.heap.size w1 w5.drew := HBT.out.drew
            have htd := HTT.out.below (below_drew w5)
            have hoi := HIT.out.below (below_drew w5)
            obtain ⟨gh, u0, hqb, hgb, hgl, hgc, hou, hun⟩ := DX.get htd HJL.out
            subst hqb
            refine wp_region_S (fun V => Below w1.heap.size w1 V) (by kernel_rfl) hS0 ?_
            refine take_val 0 (.slice (some ⟨gh, 0, none⟩) QN qc) rfl (by kernel_rfl) (by kernel_rfl) (by kernel_rfl) (fun _ _ _ h => h) rfl (fun V hV => by simp [go_sem]) hS0 ?_
            simp only [List.getElem_toArray, List.getElem_cons_zero, List.getElem_cons_succ, Act.put, List.setIfInBounds_toArray, List.set_cons_zero, List.set_cons_succ]
            refine take_val 1 (.int .i64 (JJ : Nat)) rfl (by kernel_rfl) (by kernel_rfl) (by kernel_rfl) (fun _ _ _ h => h) rfl (fun V hV => by simp [go_sem]) hS0 ?_
            simp only [List.getElem_toArray, List.getElem_cons_zero, List.getElem_cons_succ, Act.put, List.setIfInBounds_toArray, List.set_cons_zero, List.set_cons_succ]
            refine take_val 2 (.slice (some ⟨gh, 0, none⟩) QN qc) rfl (by kernel_rfl) (by kernel_rfl) (by kernel_rfl) (fun _ _ _ h => h) rfl (fun V hV => by simp [go_sem]) hS0 ?_
            simp only [List.getElem_toArray, List.getElem_cons_zero, List.getElem_cons_succ, Act.put, List.setIfInBounds_toArray, List.set_cons_zero, List.set_cons_succ]
            refine take_val 3 (.int .i64 (JJ : Nat)) rfl (by kernel_rfl) (by kernel_rfl) (by kernel_rfl) (fun _ _ _ h => h) rfl (fun V hV => by simp [go_sem]) hS0 ?_
            simp only [List.getElem_toArray, List.getElem_cons_zero, List.getElem_cons_succ, Act.put, List.setIfInBounds_toArray, List.set_cons_zero, List.set_cons_succ]
            refine take_val 4 (.pointer (some ⟨gh, JJ, none⟩)) rfl (by kernel_rfl) (by kernel_rfl) (by kernel_rfl) (fun _ _ _ h => h) rfl (fun V hV => by simp [go_sem, hJI2]) hS0 ?_
            simp only [List.getElem_toArray, List.getElem_cons_zero, List.getElem_cons_succ, Act.put, List.setIfInBounds_toArray, List.set_cons_zero, List.set_cons_succ]
            refine take_val 6 (.slice (some ⟨g, off, none⟩) m d) rfl (by kernel_rfl) (by kernel_rfl) (by kernel_rfl) (fun _ _ _ h => h) rfl (fun V hV => by simp [go_sem]) hS0 ?_
            simp only [List.getElem_toArray, List.getElem_cons_zero, List.getElem_cons_succ, Act.put, List.setIfInBounds_toArray, List.set_cons_zero, List.set_cons_succ]
            refine take_val 7 (.int .i64 (t : Nat)) rfl (by kernel_rfl) (by kernel_rfl) (by kernel_rfl) (fun _ _ _ h => h) rfl (fun V hV => by simp [go_sem]) hS0 ?_
            simp only [List.getElem_toArray, List.getElem_cons_zero, List.getElem_cons_succ, Act.put, List.setIfInBounds_toArray, List.set_cons_zero, List.set_cons_succ]
            refine take_val 8 (.pointer (some ⟨g, off + t * 96, none⟩)) rfl (by kernel_rfl) (by kernel_rfl) (by kernel_rfl) (fun _ _ _ h => h) rfl (fun V hV => by simp [go_sem, hlt']) hS0 ?_
            simp only [List.getElem_toArray, List.getElem_cons_zero, List.getElem_cons_succ, Act.put, List.setIfInBounds_toArray, List.set_cons_zero, List.set_cons_succ]
            refine take_val 9 (.agg (dc (L t))) rfl (by kernel_rfl) (by kernel_rfl) (by kernel_rfl) (fun _ _ _ h => h) rfl (fun V hV => ex_load_drum_mid _ rfl g (off + t * 96) rfl (L t) (HC.out.below hV hg)) hS0 ?_
            simp only [List.getElem_toArray, List.getElem_cons_zero, List.getElem_cons_succ, Act.put, List.setIfInBounds_toArray, List.set_cons_zero, List.set_cons_succ]
            have hS1 := hS0.alloc hS0.size (.cells (dc (L t)) 33)
            have hgc1 : (w5.drew.alloc (.cells (dc (L t)) 33)).cell? ⟨gh, JJ, none⟩ = some u0 := (((Below.refl _ _).alloc (Nat.le_refl _) (.cells (dc (L t)) 33)).cell (p := ⟨gh, JJ, none⟩) hgl).trans hgc
            have hrow := heap_alloc_new w5.drew (.cells (dc (L t)) 33)
            refine' cut_with (A := (_ : Prop)) (fun hcont => ?_) ?_
            rotate_left
            · refine step_two 5 10 _ _ _ _ (by kernel_rfl) rfl rfl rfl rfl (ex_load_ds _ rfl gh JJ u0 rfl hgc) (ex_build1 _ rfl (L t) rfl) hS0 hS1 ?_ ?_
              · --
                simp only [List.getElem_toArray, List.getElem_cons_zero, List.getElem_cons_succ, Act.put, List.setIfInBounds_toArray, List.set_cons_zero, List.set_cons_succ]
                refine step_val 10 _ _ (by kernel_rfl) rfl rfl (ex_build1 _ rfl (L t) rfl) hS1 ?_
                simp only [List.getElem_toArray, List.getElem_cons_zero, List.getElem_cons_succ, Act.put, List.setIfInBounds_toArray, List.set_cons_zero, List.set_cons_succ]
                exact hcont
              · --
                simp only [List.getElem_toArray, List.getElem_cons_zero, List.getElem_cons_succ, Act.put, List.setIfInBounds_toArray, List.set_cons_zero, List.set_cons_succ]
                refine step_val 5 _ _ (by kernel_rfl) rfl rfl (ex_load_ds _ rfl gh JJ u0 rfl hgc1) hS1 ?_
                simp only [List.getElem_toArray, List.getElem_cons_zero, List.getElem_cons_succ, Act.put, List.setIfInBounds_toArray, List.set_cons_zero, List.set_cons_succ]
                exact hcont
            have htd1 := (htd.alloc (.cells (dc (L t)) 33)).retop
            have hoi1 := hoi.alloc (.cells (dc (L t)) 33)
            have hou1 := hou.alloc (.cells (dc (L t)) 33)
            generalize w5.drew.alloc (.cells (dc (L t)) 33) = V at hS1 hgc1 hrow htd1 hoi1 hou1 ⊢
            generalize w5.drew.heap.size = gd at hrow ⊢
            clear hS0 htd hoi hgl hgc hou
            refine step_append_D 11 (by kernel_rfl) rfl rfl _ _ rfl w1.heap.size u0 _ rfl hou1 ⟨gd, 0, none⟩ 1 [L t] 1 rfl rfl (one_cells (enc := encD) (T' := 33) (f := (0, 0)) (by rw [encD_arr]; exact hrow)) (by rw [List.length_map]; have := HGL.out; omega) hS1.size ?_
            intro v6 w6 ho6 hg6 hb6 hat6
            obtain ⟨vb6, vc6, rfl⟩ := OwnD.form ho6
            have hS6 := hS1.trans hb6
            refine ⟨hS6, ?_⟩
            simp only [List.getElem_toArray, List.getElem_cons_zero, List.getElem_cons_succ, Act.put, List.setIfInBounds_toArray, List.set_cons_zero, List.set_cons_succ]
            obtain ⟨hdx, N6, f6, hbk, hjN⟩ := DX.grow htd1 HJL.out hgc1 hg6 t ho6 hat6
            have hoi6 := (hoi1.keepD hou1 hg6).setDs (k := JJ) (x := .slice vb6 ((ll.getD JJ []).map L ++ [L t]).length vc6) hbk
            have hS9 := hS6.setCell (p := ⟨gh, JJ, none⟩) hgb (.slice vb6 ((ll.getD JJ []).map L ++ [L t]).length vc6)
            rw [grp_more gs JJ t HLM.out] at hdx
            refine take_val 12 (.pointer (some ⟨gh, JJ, none⟩)) rfl (by kernel_rfl) (by kernel_rfl) (by kernel_rfl) (fun _ _ _ h => h) rfl (fun V hV => by simp [go_sem, hJI2]) hS6 ?_
            simp only [List.getElem_toArray, List.getElem_cons_zero, List.getElem_cons_succ, Act.put, List.setIfInBounds_toArray, List.set_cons_zero, List.set_cons_succ]
            refine step_skip 13 _ (by kernel_rfl) rfl rfl (ex_store_ds _ _ rfl gh JJ vb6 _ vc6 _ rfl rfl (hbk.cell JJ hjN) (hbk.frozen JJ)) hS9 ?_
            simp only [List.getElem_toArray, List.getElem_cons_zero, List.getElem_cons_succ, Act.put, List.setIfInBounds_toArray, List.set_cons_zero, List.set_cons_succ]
            refine wpAnyH_done (by kernel_rfl) ?_ _
            generalize w6.setCell ⟨gh, JJ, none⟩ (.slice vb6 ((ll.getD JJ []).map L ++ [L t]).length vc6) = w9 at hdx hoi6 hS9 ⊢
            have HSET := Lib.hid hdx; have HOI9 := Lib.hid hoi6; have HB9 := Lib.hid hS9; have hsz9 := hS9.size
            clear hS1 hgc1 hrow htd1 hoi1 hou1 ho6 hg6 hb6 hat6 hS6 hdx hbk hoi6 hS9
            go_wp2_with (at_builtin; refine append_intg rfl _ _ rfl w1.heap.size _ rs rfl (HOI9.out.alloc _) w9.heap.size (JJ : Int) rfl (by simp) (by have := HRL.out; omega) (by simp; omega) ?_; intro v10 w10 ho10 hg10 hb10; have HO10 := Lib.hid ho10; have HD10 := Lib.hid (((HSET.out.alloc _).keepI (HOI9.out.alloc _) hg10).retop); have HB10 := Lib.hid (((HB9.out.alloc hsz9 _).trans hb10)); clear ho10 hg10 hb10)
            go_roundw
            case rel => exact ⟨HB10.out, t + 1, by omega, by go_num, by rw [HSU2.out]; exact HO10.out, by rw [HSU1.out]; exact HD10.out⟩
            case measure => simp [intOf]; omega
      · have htm : t = m := by omega
        subst htm
        have HN1 := Lib.hid (show ((sg k R n L t).1.length : Int) = q by rw [HGS0.out, HQ.out])
        go_wp2
        go_ret3
        exact ⟨_, by rw [H2.out, H3.out, HN1.out]; rfl, HB00.out.trans (HB.out.mono hsz1), by rw [H1.out, HRS0.out]; exact OwnI.mono HO1.out hsz1⟩
  · obtain ⟨h1, h2, h3⟩ := sg_no hv
    have hv2 : (lcode (okAll s n P R m L) m == 0) = false := by simpa using hv
    have hv3 : (lcode (okAll s n P R m L) m != 0) = true := by simp [hv]
    have H1 := Lib.hid h1; have H2 := Lib.hid h2; have H3 := Lib.hid h3
    obtain ⟨x, hx⟩ : ∃ x, lcode (okAll s n P R m L) m = x := ⟨_, rfl⟩
    rw [hx] at hv hv2 hv3 H3 ⊢
    have HE := Lib.hid (OwnI.nil w1 w.heap.size hsz1)
    have HB1 := Lib.hid (HB00.out.alloc hsz1 (.cells #[] 2))
    clear hx h1 h2 h3
    go_wp2
    go_ret3
    exact ⟨_, by rw [H2.out, H3.out]; rfl, HB1.out, by rw [H1.out]; exact HE.out⟩
end Go.Proofs.Ytlcfjeofphncgaa
