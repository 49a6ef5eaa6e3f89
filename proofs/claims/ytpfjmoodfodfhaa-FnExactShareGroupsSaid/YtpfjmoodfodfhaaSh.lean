/- ShareGroups, by the program. No conditions. -/
import Derived.Test.YtpfjmoodfodfhaaSg
import Derived.Test.YtpfjmoodfodfhaaAp
import Derived.Maps.AppendAt
import Derived.Outline
namespace Go.Proofs.Ytpfjmoodfodfhaa
open Go.RowKit
set_option linter.unusedVariables false
set_option linter.unusedSimpArgs false

set_option maxRecDepth 100000 in
theorem shareGroups1_any (gf gd Tf Td : Nat) (k : Nat) (a : Option Addr) (n c : Nat) (P R : Nat → Int) (D E : Nat → Nat) (w : World) (hk : 2 ≤ k ∧ k ≤ 96) (hn : 1 ≤ n ∧ n ≤ 24) (hR : I8 R) (hD : D32 D) (hE : D32 E)
    (hf : w.heap[gf]? = some (.cells #[.int .i16 (k : Int), .slice a n c] Tf (0, 0))) (hg : DrumAt w Td gd E) (hh : HamAt w a n P R) :
    Calls Try.prog 72 #[.agg (dc D), .pointer (some ⟨gf, 0, none⟩), .pointer (some ⟨gd, 0, none⟩)] w fun e w' => e = .returned (.bool (freeB k R n (fun x => D x ||| E x))) ∧ Below w.heap.size w w' := by
  have HR := Lib.hid hR; have HD := Lib.hid hD; have HE := Lib.hid hE; clear hR hD hE
  have KB := Kp.base w; have KH := kp_ham hh; have KF := kp_row hf; have KE := kp_drum hg; clear hh hf hg
  replace KB := KB.alloc (.cells (dc D) 71)
  replace KH := KH.alloc (.cells (dc D) 71)
  replace KF := KF.alloc (.cells (dc D) 71)
  replace KE := KE.alloc (.cells (dc D) 71)
  have KD := kp_newd w (D) 71 (g := w.heap.size) (by simp)
  have HZ := Lib.hid (show (w.alloc (.cells (dc D) 71)).heap.size = w.heap.size + 1 by simp)
  go_enter Try.func72, Try.ntmps72
  go_wp2_with fail
  generalize (w.alloc (.cells (dc D) 71)) = W at KB KH KF KE KD HZ ⊢
  have hS0 := below_drew W
  refine wp_region_S (fun V => Below W.heap.size W V) (by kernel_rfl) hS0 ?_
  refine take_val 0 (.agg #[.int .i16 (k : Int), .slice a n c]) rfl (by kernel_rfl) (by kernel_rfl) (by kernel_rfl) (fun _ _ _ h => h) rfl (fun V hV => ex_load_iframe _ rfl gf rfl _ (k : Int) a n c (KF.at hV)) hS0 ?_
  simp only [List.getElem_toArray, List.getElem_cons_zero, List.getElem_cons_succ, Act.put, List.setIfInBounds_toArray, List.set_cons_zero, List.set_cons_succ]
  refine take_val 1 (.agg (dc D)) rfl (by kernel_rfl) (by kernel_rfl) (by kernel_rfl) (fun _ _ _ h => h) rfl (fun V hV => ex_load_drum _ rfl w.heap.size rfl _ D (KD.at hV)) hS0 ?_
  simp only [List.getElem_toArray, List.getElem_cons_zero, List.getElem_cons_succ, Act.put, List.setIfInBounds_toArray, List.set_cons_zero, List.set_cons_succ]
  refine take_val 2 (.agg (dc E)) rfl (by kernel_rfl) (by kernel_rfl) (by kernel_rfl) (fun _ _ _ h => h) rfl (fun V hV => ex_load_drum _ rfl gd rfl _ E (KE.at hV)) hS0 ?_
  simp only [List.getElem_toArray, List.getElem_cons_zero, List.getElem_cons_succ, Act.put, List.setIfInBounds_toArray, List.set_cons_zero, List.set_cons_succ]
  have hl := DrumsAt.two W.drew D E (twoL D E) rfl rfl
  have hS1 := hS0.alloc (o := .cells (dc D ++ dc E) 71) hS0.size
  refine step_val 3 _ _ (by kernel_rfl) rfl rfl (ex_build2 _ _ rfl D E rfl rfl) hS1 ?_
  simp only [List.getElem_toArray, List.getElem_cons_zero, List.getElem_cons_succ, Act.put, List.setIfInBounds_toArray, List.set_cons_zero, List.set_cons_succ]
  refine step_call 4 74 #[.slice (some ⟨W.drew.heap.size, 0, none⟩) 2 2] (by kernel_rfl) rfl rfl (by simp [go_sem]) ?_
  refine (union_any _ 2 2 (twoL D E) _ (by omega) (twoL_32 HD.out HE.out) hl).mono ?_
  have hu := unionTo_32 (twoL_32 HD.out HE.out) 2
  rw [union_two] at hu ⊢
  obtain ⟨U, hU⟩ : ∃ U, (fun x => D x ||| E x) = U := ⟨_, rfl⟩
  rw [hU] at hu ⊢
  rintro e w2 ⟨rfl, hb2⟩
  have hS2 := hS1.trans (hb2.mono hS1.size)
  refine ⟨_, rfl, hS2, ?_⟩
  simp only [List.getElem_toArray, List.getElem_cons_zero, List.getElem_cons_succ, Act.put, List.setIfInBounds_toArray, List.set_cons_zero, List.set_cons_succ]
  refine step_call 5 73 #[.agg #[.int .i16 (k : Int), .slice a n c], .agg (dc U)] (by kernel_rfl) rfl rfl (by simp [go_sem]) ?_
  refine (allClashes_any k a n c P R U w2 (by omega) hn hu HR.out (KH.at hS2)).mono ?_
  rintro e w3 ⟨v, rfl, hb3, hown⟩
  have hS3 := hS2.trans (hb3.mono hS2.size)
  obtain ⟨b1, c1, rfl⟩ := OwnL.form hown
  obtain ⟨x, hx⟩ : ∃ x, (plL (clB k R U) n (k * n)).length = x := ⟨_, rfl⟩
  have HX := Lib.hid (freeB_len hx)
  rw [hx]
  clear hown
  refine ⟨_, rfl, hS3, ?_⟩
  simp only [List.getElem_toArray, List.getElem_cons_zero, List.getElem_cons_succ, Act.put, List.setIfInBounds_toArray, List.set_cons_zero, List.set_cons_succ]
  refine take_val 6 (.int .i64 (x : Int)) rfl (by kernel_rfl) (by kernel_rfl) (by kernel_rfl) (fun _ _ _ h => h) rfl (fun V hV => by simp [go_sem]) hS3 ?_
  simp only [List.getElem_toArray, List.getElem_cons_zero, List.getElem_cons_succ, Act.put, List.setIfInBounds_toArray, List.set_cons_zero, List.set_cons_succ]
  refine take_val 7 (.bool (decide (x = 0))) rfl (by kernel_rfl) (by kernel_rfl) (by kernel_rfl) (fun _ _ _ h => h) rfl (fun V hV => by simp [go_sem, eq0_dec]) hS3 ?_
  simp only [List.getElem_toArray, List.getElem_cons_zero, List.getElem_cons_succ, Act.put, List.setIfInBounds_toArray, List.set_cons_zero, List.set_cons_succ]
  refine take_val 8 (.bool (decide (x = 0))) rfl (by kernel_rfl) (by kernel_rfl) (by kernel_rfl) (fun _ _ _ h => h) rfl (fun V hV => by simp [go_sem]) hS3 ?_
  simp only [List.getElem_toArray, List.getElem_cons_zero, List.getElem_cons_succ, Act.put, List.setIfInBounds_toArray, List.set_cons_zero, List.set_cons_succ]
  refine wpAnyH_done (by kernel_rfl) ?_ _
  have hb3 := KB.at hS3
  go_wp2
  go_ret
  exact ⟨by rw [hU, HX.out]; rfl, hb3⟩
theorem indexFuncShare_any (a : Option Addr) (n c : Nat) (L : Nat → Nat → Nat) (cp cq : Value) (p : Nat → Bool) (w : World) (hn : n ≤ 1000000000) (hh : DrumsAt w a n L)
    (hcall : ∀ W k, k < n → Below w.heap.size w W → Calls Try.prog 72 #[.agg (dc (L k)), cp, cq] W fun e W' => e = .returned (.bool (p k)) ∧ Below W.heap.size W W') :
    Calls Try.prog 71 #[.slice a n c, .func (.func 72) #[] #[cp, cq]] w fun e w' => ∃ r, e = .returned (.int .i64 r) ∧ IdxOf p n r ∧ Below w.heap.size w w' := by
  have HH := Lib.hid hh; clear hh
  have HC := Lib.hid hcall; clear hcall
  go_enter Try.func71, Try.ntmps71
  go_wp2
  go_loopw [8] (fun i w' => Below w.heap.size w w' ∧ ∃ k : Nat, k ≤ n ∧ i = .int .i64 k ∧ ∀ j, j < k → p j = false) (fun i _ => n - (intOf i).toNat)
  case atStart => exact ⟨Below.refl _ _, 0, by omega, rfl, fun j hj => by omega⟩
  case round =>
    obtain ⟨hb, k, hk, rfl, hK⟩ := hrel
    have HK := Lib.hid hK; clear hK
    by_cases hlt : k < n
    · have hx := DrumsAt.get HH.out (show 0 < n by omega)
      obtain ⟨g, off, rfl, hg, hc⟩ := hx
      have hck := Lib.hid ((hc k hlt).below hb hg)
      clear hc
      cases hp : p k
      · go_wp2_with (first | (with_reducible refine load_drum_mid rfl _ rfl g (off + k * 96) rfl (L k) hck.out ?_) | (go_at_call 72; refine (HC.out _ k hlt hb).mono ?_; rintro e w1 ⟨rfl, hb1⟩))
        go_roundw
        case rel => exact ⟨hb.trans (hb1.mono hb.size), k + 1, by omega, by go_num, fun j hj => if e : j = k then e ▸ hp else HK.out j (by omega)⟩
        case measure => simp [intOf]; omega
      · go_wp2_with (first | (with_reducible refine load_drum_mid rfl _ rfl g (off + k * 96) rfl (L k) hck.out ?_) | (go_at_call 72; refine (HC.out _ k hlt hb).mono ?_; rintro e w1 ⟨rfl, hb1⟩))
        go_ret
        exact ⟨_, rfl, .inr ⟨k, rfl, hlt, hp, HK.out⟩, hb.trans (hb1.mono hb.size)⟩
    · go_wp2
      go_ret
      exact ⟨_, rfl, .inl ⟨rfl, fun j hj => HK.out j (by omega)⟩, hb⟩
section
variable {ops : Array Oper} {rest : List Oper} {o : Oper} {a : Act} {w : World} {Q : Exit → Act → World → Prop}
/-- a number is appended; what the world is then, block by block -/
theorem append_intg (hgd : o.guard = none) (s x : Operand) (ho : o.op = .call { callee := .builtin .append, args := #[s, x], argTypes := #[44, 44] }) (base : Nat) (v : Value) (l : List Int) (hs : a.eval s = v) (hown : OwnI w base v l)
    (g : Nat) (y : Int) (hx : a.eval x = .slice (some ⟨g, 0, none⟩) 1 1) (hc : w.cell? ⟨g, 0, none⟩ = some (.int .i64 y)) (hl : l.length ≤ 1000000) (hbase : base ≤ w.heap.size)
    (h : ∀ v' w', OwnI w' base v' (l ++ [y]) → w.grownBy w' v.ownBlock → Below base w w' → wpList Try.prog ops Q rest (a.put o.dst v') w') : wpList Try.prog ops Q (o :: rest) a w := by
  obtain ⟨i0, hi, hz0, hz1, hz2⟩ := info_parts infoI64
  refine wpList_append_own w hgd s x 44 ho base 2 i0 (.int .i64 0) 1 8 Try.underlying44 hi hz0 hz1 hz2 rfl (by decide) v l.length _ hs hown ⟨g, 0, none⟩ 1 1 [.int .i64 y] hx rfl ?_ ?_ ?_ ?_ hbase ?_
  · intro j u hj
    match j, hj with
    | 0, hj => simp at hj; subst hj; simpa [Addr.add] using hc
  · intro u hu; simp at hu; subst hu; rfl
  · unfold maxLen; omega
  · omega
  · intro v' w' hown' hgrow _
    refine h v' w' ?_ hgrow (Below.grown (Below.refl _ _) hgrow hbase fun k hk => (World.ownsRow.lt hown k hk).1)
    unfold OwnI
    rw [List.length_append, List.map_append]
    exact hown'
/-- a drum is appended; which block it is then -/
theorem append_drum_at (hgd : o.guard = none) (s x : Operand) (ho : o.op = .call { callee := .builtin .append, args := #[s, x], argTypes := #[48, 48] }) (base : Nat) (v : Value) (l : List (Nat → Nat)) (hs : a.eval s = v) (hown : OwnD w base v l)
    (g : Nat) (E : Nat → Nat) (hx : a.eval x = .slice (some ⟨g, 0, none⟩) 1 1) (hg : w.heap[g]? = some (.cells (dc E) 71 (0, 0))) (hl : l.length ≤ 1000000) (hbase : base ≤ w.heap.size)
    (h : ∀ v' w', OwnD w' base v' (l ++ [E]) → w.grownBy w' v.ownBlock → Below base w w' → (v'.ownBlock = v.ownBlock ∨ v'.ownBlock = some w.heap.size) → wpList Try.prog ops Q rest (a.put o.dst v') w') : wpList Try.prog ops Q (o :: rest) a w := by
  obtain ⟨i0, hi, hz0, hz1, hz2⟩ := info_parts infoDrum
  unfold OwnD at hown h
  refine wpList_append_own_at w hgd s x 48 ho base 71 i0 (.agg (Array.replicate 96 (.int .u32 0))) 96 384 Try.underlying48 hi hz0 hz1 hz2 (by simp [Value.cells]) (by decide) v l.length _ hs hown ⟨g, 0, none⟩ 1 1 ([E].flatMap encD) hx (by simp [encD_len]) (one_cells (enc := encD) (T' := 71) (f := (0, 0)) (by rw [encD_arr]; exact hg)) ?_ ?_ ?_ hbase ?_
  · intro u hu
    simp at hu
    exact encD_one E u hu
  · unfold maxLen; omega
  · omega
  · intro v' w' hown' hgrow _ hat
    refine h v' w' ?_ hgrow (Below.grown (Below.refl _ _) hgrow hbase fun k hk => (World.ownsRow.lt hown k hk).1) hat
    unfold OwnL
    rw [List.length_append, List.flatMap_append]
    exact hown'
end
theorem heap_setCells_other (vs : List Value) : ∀ {o : Nat} {w : World} {g x : Nat}, x ≠ g → (w.setCells g o vs).heap[x]? = w.heap[x]? := by
  induction vs with
  | nil => intro o w g x _; rfl
  | cons v r ih =>
    intro o w g x h
    rw [World.setCells, ih h]
    exact heap_setCell_other w ⟨g, o, none⟩ x v h
theorem OwnD.keep {w w' : World} {base base2 : Nat} {v u : Value} {l : List (Nat → Nat)} {r : List Int} (h : OwnD w base v l) (hi : OwnI w base2 u r) (hg : w.grownBy w' u.ownBlock) : OwnD w' base v l := by
  unfold OwnD OwnL at *
  unfold OwnI at hi
  exact own_keep h (keep_grown (T2 := 2) hi hg) (by decide) (by decide)
theorem OwnI.keepD {w w' : World} {base base2 : Nat} {v u : Value} {l : List (Nat → Nat)} {r : List Int} (h : OwnI w base2 u r) (hi : OwnD w base v l) (hg : w.grownBy w' v.ownBlock) : OwnI w' base2 u r := by
  unfold OwnD OwnL at *
  unfold OwnI at *
  exact own_keep h (keep_grown (T2 := 71) hi hg) (by decide) (by decide)
theorem OwnI.setD {w : World} {base g o N : Nat} {u : Value} {r : List Int} {f : Nat → Value} (h : OwnI w base u r) (hb : BlkAt w 71 g N f) (vs : List Value) (hl : o + vs.length ≤ N) : OwnI (w.setCells g o vs) base u r := by
  unfold OwnI at *
  exact own_setCells (by decide) vs h hb hl
/-- what the closure asks -/
theorem fit_eq {k : Nat} {R : Nat → Int} {n : Nat} {L : Nat → Nat → Nat} {gs : List (List Nat)} {x t : Nat} (hx : x < gs.length) : fit k R n L (gs.getD x []) t = freeB k R n (fun y => ((gs.map (uniL L)).getD x D0) y ||| L t y) := by
  rw [fit_def, uniL_snoc]
  congr 1
  funext y
  simp [List.getD, List.getElem?_map, List.getElem?_eq_getElem hx]
theorem getD_32 {L : Nat → Nat → Nat} (hL : L32 L) (gs : List (List Nat)) (x : Nat) : D32 ((gs.map (uniL L)).getD x D0) := by
  by_cases hx : x < gs.length
  · have : (gs.map (uniL L)).getD x D0 = uniL L gs[x] := by simp [List.getD, List.getElem?_map, List.getElem?_eq_getElem hx]
    rw [this]; exact uniL_32 hL _
  · have : (gs.map (uniL L)).getD x D0 = D0 := by simp [List.getD, List.getElem?_map, List.getElem?_eq_none (Nat.le_of_not_lt hx)]
    rw [this]; intro j; simp [D0]
theorem getL_32 {L : Nat → Nat → Nat} (hL : L32 L) (g : List Nat) (i : Nat) : D32 ((g.map L).getD i D0) := by
  by_cases hx : i < g.length
  · have : (g.map L).getD i D0 = L g[i] := by simp [List.getD, List.getElem?_map, List.getElem?_eq_getElem hx]
    rw [this]; exact hL _
  · have : (g.map L).getD i D0 = D0 := by simp [List.getD, List.getElem?_map, List.getElem?_eq_none (Nat.le_of_not_lt hx)]
    rw [this]; intro j; simp [D0]
theorem grp_set {L : Nat → Nat → Nat} {gs : List (List Nat)} {j i : Nat} {l : List (Nat → Nat)} (hl : l = (more gs j).map (uniL L)) (hj : j < l.length) : l.set j (fun y => (l.getD j D0) y ||| L i y) = (grp gs j i).map (uniL L) := by
  rw [grp_uni, ← hl]
  congr 1
  funext y
  subst hl
  rw [List.length_map] at hj
  simp [List.getD, List.getElem?_map, List.getElem?_eq_getElem hj]
end Go.Proofs.Ytpfjmoodfodfhaa
