/- LeastStepsOrder: all orders of the sections are tried. No conditions. -/
import Derived.Test.YtlcfjeofphncgaaSd
import Derived.Test.YtlcfjeofphncgaaNr
import Derived.Test.YtlcfjeofphncgaaPins
import Derived.Test.YtlcfjeofphncgaaOwnI
import Derived.Laws.AppendOwnNone
import Derived.Outline
namespace Go.Proofs.Ytlcfjeofphncgaa
open Go.RowKit
set_option linter.unusedVariables false
set_option linter.unusedSimpArgs false

/-! ### what is laid down -/
/-- what an order costs -/
def loC (s : Int) (F S : Nat → Int) (l : List Int) : Int := plTo s F S (fun i => l.getD i 0) l.length
theorem loC_def (s : Int) (F S : Nat → Int) (l : List Int) : loC s F S l = plTo s F S (fun i => l.getD i 0) l.length := rfl
attribute [irreducible] loC
/-- the better one is kept -/
def loU (C : List Int → Int) (l : List Int) (st : List Int × Int) : List Int × Int := if st.2 < 0 ∨ C l < st.2 then (l, C l) else st
theorem loU_yes {C : List Int → Int} {l : List Int} {st : List Int × Int} (h : st.2 < 0 ∨ C l < st.2) : loU C l st = (l, C l) := if_pos h
theorem loU_no {C : List Int → Int} {l : List Int} {st : List Int × Int} (h : ¬ (st.2 < 0 ∨ C l < st.2)) : loU C l st = st := if_neg h
/-- the best order among those that begin with l, r more being to come -/
noncomputable def loB (C : List Int → Int) (n : Nat) : Nat → List Int → List Int × Int → List Int × Int
  | 0, l, st => loU C l st
  | r + 1, l, st => (List.range n).foldl (fun st i => if inL l i = true then st else loB C n r (l ++ [(i : Int)]) st) st
/-- the best order when the first j indices have been tried -/
noncomputable def loF (C : List Int → Int) (n r : Nat) (l : List Int) (j : Nat) (st : List Int × Int) : List Int × Int := (List.range j).foldl (fun st i => if inL l i = true then st else loB C n r (l ++ [(i : Int)]) st) st
section
variable {C : List Int → Int} {n r j : Nat} {l : List Int} {st : List Int × Int}
theorem loB_zero : loB C n 0 l st = loU C l st := rfl
theorem loB_succ : loB C n (r + 1) l st = loF C n r l n st := rfl
theorem loF_zero : loF C n r l 0 st = st := rfl
theorem loF_in (h : inL l j = true) : loF C n r l (j + 1) st = loF C n r l j st := by unfold loF; rw [List.range_succ, List.foldl_append]; simp [h]
theorem loF_out (h : inL l j = false) : loF C n r l (j + 1) st = loB C n r (l ++ [(j : Int)]) (loF C n r l j st) := by unfold loF; rw [List.range_succ, List.foldl_append]; simp [h]
end
attribute [irreducible] loU loB loF
/-- a list of indices below n -/
def okL (n : Nat) (l : List Int) : Prop := ∀ i, i < l.length → 0 ≤ l.getD i 0 ∧ l.getD i 0 ≤ (n : Int) - 1
theorem okL_nil (n : Nat) : okL n [] := fun i hi => absurd hi (by simp)
theorem okL_app {n j : Nat} {l : List Int} (h : okL n l) (hj : j < n) : okL n (l ++ [(j : Int)]) := by
  intro i hi
  rw [List.length_append] at hi
  by_cases h1 : i < l.length
  · have := h i h1
    simpa [List.getD, List.getElem?_append_left h1] using this
  · have hi0 : i = l.length := by simp at hi; omega
    subst hi0
    simp [List.getD]; omega
/-- a state that may come up -/
def goodS (st : List Int × Int) : Prop := -1 ≤ st.2 ∧ st.2 ≤ 100000 ∧ st.1.length ≤ 48
section
variable {C : List Int → Int} {n : Nat}
theorem loF_good (hC : ∀ l, okL n l → l.length ≤ 48 → 0 ≤ C l ∧ C l ≤ 100000) (r : Nat) (ih : ∀ (l : List Int) (st : List Int × Int), okL n l → l.length + r ≤ 48 → goodS st → goodS (loB C n r l st)) (l : List Int) (hl : okL n l) (hlen : l.length + (r + 1) ≤ 48) (st : List Int × Int) (hst : goodS st) (j : Nat) (hj : j ≤ n) : goodS (loF C n r l j st) := by
  induction j with
  | zero => rw [loF_zero]; exact hst
  | succ j ihj =>
    cases h : inL l j
    · rw [loF_out h]
      exact ih _ _ (okL_app hl (by omega)) (by rw [List.length_append]; simp; omega) (ihj (by omega))
    · rw [loF_in h]; exact ihj (by omega)
theorem loB_good (hC : ∀ l, okL n l → l.length ≤ 48 → 0 ≤ C l ∧ C l ≤ 100000) (r : Nat) : ∀ (l : List Int) (st : List Int × Int), okL n l → l.length + r ≤ 48 → goodS st → goodS (loB C n r l st) := by
  induction r with
  | zero =>
    intro l st hl hlen hst
    rw [loB_zero]
    by_cases h : st.2 < 0 ∨ C l < st.2
    · rw [loU_yes h]; have := hC l hl (by omega); exact ⟨by show -1 ≤ C l; omega, this.2, by show l.length ≤ 48; omega⟩
    · rw [loU_no h]; exact hst
  | succ r ih =>
    intro l st hl hlen hst
    rw [loB_succ]
    exact loF_good hC r ih l hl hlen st hst n (Nat.le_refl _)
end
/-! ### memory -/
/-- all blocks but two are as they were -/
def Keep2 (g1 g2 : Nat) (w V : World) : Prop := w.heap.size ≤ V.heap.size ∧ (∀ j, j ≠ g1 → j ≠ g2 → j < w.heap.size → V.heap[j]? = w.heap[j]?) ∧ V.os = w.os ∧ V.tape = w.tape ∧ V.output = w.output
section
variable {g1 g2 : Nat} {w V U : World}
theorem Keep2.of (h : Below w.heap.size w V) : Keep2 g1 g2 w V := ⟨h.size, fun j _ _ hj => h.block j hj, h.os, h.tape, h.output⟩
theorem Keep2.trans (h : Keep2 g1 g2 w V) (h2 : Keep2 g1 g2 V U) : Keep2 g1 g2 w U := ⟨Nat.le_trans h.1 h2.1, fun j a b hl => (h2.2.1 j a b (Nat.lt_of_lt_of_le hl h.1)).trans (h.2.1 j a b hl), h2.2.2.1.trans h.2.2.1, h2.2.2.2.1.trans h.2.2.2.1, h2.2.2.2.2.trans h.2.2.2.2⟩
theorem Keep2.refl (w : World) : Keep2 g1 g2 w w := ⟨Nat.le_refl _, fun _ _ _ _ => rfl, rfl, rfl, rfl⟩
theorem Keep2.row (h : Keep2 g1 g2 w V) {x : Nat} {o : Obj} (hx : w.heap[x]? = some o) (a : x ≠ g1) (b : x ≠ g2) : V.heap[x]? = some o := (h.2.1 x a b (Array.getElem?_eq_some_iff.1 hx).1).trans hx
theorem Keep2.cell (h : Keep2 g1 g2 w V) {p : Addr} {v : Value} (hc : w.cell? p = some v) (hp : p.block < w.heap.size) (a : p.block ≠ g1) (b : p.block ≠ g2) : V.cell? p = some v := by
  have e := h.2.1 p.block a b hp
  unfold World.cell? at hc ⊢
  rw [e]; exact hc
theorem Keep2.own {base : Nat} {v : Value} {l : List Int} (h : Keep2 g1 g2 w V) (ho : OwnI w base v l) (a : g1 < base) (b : g2 < base) : OwnI V base v l := by
  obtain ⟨hl, ho⟩ := ho
  refine ⟨hl, ?_⟩
  rcases ho with h0 | ⟨g, cap, cur, rfl, hg, hb, h2⟩
  · exact .inl h0
  · exact .inr ⟨g, cap, cur, rfl, hg, h.row hb (by omega) (by omega), h2⟩
end
section
variable {ops : Array Oper} {rest : List Oper} {o : Oper} {a : Act} {w : World} {Q : Exit → Act → World → Prop}
set_option maxRecDepth 100000 in
/-- a list of numbers is appended -/
theorem append_ownI (hgd : o.guard = none) (s x : Operand) (ho : o.op = .call { callee := .builtin .append, args := #[s, x], argTypes := #[38, 38] }) (base base2 : Nat) (v u : Value) (l ys : List Int) (hs : a.eval s = v) (hown : OwnI w base v l)
    (hx : a.eval x = u) (hu : OwnI w base2 u ys) (hl : l.length + ys.length ≤ 1000000) (hbase : base ≤ w.heap.size)
    (h : ∀ v' w', OwnI w' base v' (l ++ ys) → Below base w w' → wpList Try.prog ops Q rest (a.put o.dst v') w') : wpList Try.prog ops Q (o :: rest) a w := by
  obtain ⟨i0, hi, hz0, hz1, hz2⟩ := info_parts infoI64
  rcases hu.2 with ⟨rfl, h0⟩ | ⟨g, cap, cur, rfl, hg, hb, hc, hm, hs2, ht⟩
  · have hy : ys = [] := List.eq_nil_of_length_eq_zero h0
    subst hy
    refine wpList_append_own_none hgd s x 38 ho base 2 i0 1 Try.underlying38 hi v l.length _ hs hown hx ?_
    exact h v w (by rw [List.append_nil]; exact hown) (Below.refl _ _)
  · refine wpList_append_own w hgd s x 38 ho base 2 i0 (.int .i64 0) 1 8 Try.underlying38 hi hz0 hz1 hz2 rfl (by decide) v l.length _ hs hown ⟨g, 0, none⟩ ys.length cap (ys.map (Value.int .i64)) hx (by simp) ?_ ?_ ?_ ?_ hbase ?_
    · intro j z hj
      have hjl : j < ys.length * 1 := by have := (List.getElem?_eq_some_iff.1 hj).1; simpa using this
      rw [show (⟨g, 0, none⟩ : Addr).add j = ⟨g, j, none⟩ by unfold Addr.add; split <;> simp_all]
      rcases own_at hu with ⟨e, _⟩ | ⟨g', c', e, _, _, hcc⟩
      · cases e
      · injection e with e1 e2 e3
        injection e1 with e1
        injection e1 with e1
        subst e1
        rw [hcc j hjl, hj]
    · intro z hz
      obtain ⟨y, _, rfl⟩ := List.mem_map.1 hz
      rfl
    · unfold maxLen; omega
    · omega
    · intro v' w' hown' hgrow _
      refine h v' w' ?_ (Below.grown (Below.refl _ _) hgrow hbase fun k hk => (World.ownsRow.lt hown k hk).1)
      unfold OwnI
      rw [List.length_append, List.map_append]
      exact hown'
end
set_option maxRecDepth 100000 in
theorem cloneI_any (v : Value) (l : List Int) (base : Nat) (w : World) (hl : l.length ≤ 500000) (hv : OwnI w base v l) :
    Calls Try.prog 84 #[v] w fun e w' => ∃ u, e = .returned u ∧ Below w.heap.size w w' ∧ OwnI w' w.heap.size u l := by
  rcases hv.2 with ⟨rfl, h0⟩ | ⟨g, cap, cur, rfl, hr⟩
  · have hy : l = [] := List.eq_nil_of_length_eq_zero h0
    subst hy
    have hq : ∀ w : World, (binOp .eql 38 (.slice none 0 0) (.slice none 0 0)).run Try.prog w = .ok (.bool true) w := fun _ => rfl
    go_enter Try.func84, Try.ntmps84
    go_wp2
    go_ret
    exact ⟨_, rfl, Below.refl _ _, OwnI.none0 _ _⟩
  · have hq : ∀ w : World, (binOp .eql 38 (.slice (some ⟨g, 0, none⟩) l.length cap) (.slice none 0 0)).run Try.prog w = .ok (.bool false) w := fun _ => rfl
    clear hr
    have HN := Lib.hid (OwnI.nil w w.heap.size (Nat.le_refl _))
    have HV := Lib.hid (hv.alloc (.cells #[] 2)); clear hv
    have hb0 := Lib.hid (show Below w.heap.size w (w.alloc (.cells #[] 2)) from (Below.refl _ _).alloc (Nat.le_refl _) _)
    go_enter Try.func84, Try.ntmps84
    go_wp2_with (at_builtin; refine append_ownI rfl _ _ rfl w.heap.size base _ _ [] l rfl HN.out rfl HV.out (by simp; omega) (by simp) ?_; intro v2 w2 hown2 hb2; have HO2 := Lib.hid hown2; have HB2 := Lib.hid hb2; clear hown2 hb2)
    go_ret
    exact ⟨_, rfl, hb0.out.trans HB2.out, by have := HO2.out; rwa [List.nil_append] at this⟩
/-- what holds while the orders are tried: the frame, the programme, the best so far -/
def LoInv (gf gp gl gb base : Nat) (s : Int) (a : Option Addr) (n c : Nat) (b : Option Addr) (m d : Nat) (F S O : Nat → Int) (st : List Int × Int) (W : World) : Prop :=
  W.heap[gf]? = some (.cells #[.int .i16 s, .slice a n c] 27 (0, 0)) ∧ W.heap[gp]? = some (.cells (pc b m d O) 51 (0, 0)) ∧ SecAt W b m F S ∧
    W.heap[gl]? = some (.cells #[.int .i64 st.2] 2 (0, 0)) ∧ ∃ v, W.heap[gb]? = some (.cells #[v] 38 (0, 0)) ∧ OwnI W base v st.1
/-- how the blocks lie -/
structure LoG (gf gp gl gb base : Nat) (m : Nat) (b : Option Addr) : Prop where
  fl : gf ≠ gl
  fb : gf ≠ gb
  pl : gp ≠ gl
  pb : gp ≠ gb
  lb : gl ≠ gb
  lB : gl < base
  bB : gb < base
  sec : 0 < m → ∀ g off, b = some ⟨g, off, none⟩ → g ≠ gl ∧ g ≠ gb
theorem SecAt.keep2 {w V : World} {b : Option Addr} {m g1 g2 : Nat} {F S : Nat → Int} (h : SecAt w b m F S) (hk : Keep2 g1 g2 w V) (hne : 0 < m → ∀ g off, b = some ⟨g, off, none⟩ → g ≠ g1 ∧ g ≠ g2) : SecAt V b m F S := by
  intro hm
  obtain ⟨g, off, rfl, hg, hc⟩ := h hm
  obtain ⟨n1, n2⟩ := hne hm g off rfl
  refine ⟨g, off, rfl, Nat.lt_of_lt_of_le hg hk.1, fun i hi => ?_⟩
  exact ⟨hk.cell (hc i hi).1 hg n1 n2, hk.cell (hc i hi).2 hg n1 n2⟩
theorem LoInv.stay {gf gp gl gb base n m c d : Nat} {s : Int} {a b : Option Addr} {F S O : Nat → Int} {st : List Int × Int} {W V : World} (h : LoInv gf gp gl gb base s a n c b m d F S O st W) (hb : Below W.heap.size W V) : LoInv gf gp gl gb base s a n c b m d F S O st V := by
  obtain ⟨h1, h2, h3, h4, v, h5, h6⟩ := h
  exact ⟨(hb.block _ (row_lt h1)).trans h1, (hb.block _ (row_lt h2)).trans h2, h3.below hb, (hb.block _ (row_lt h4)).trans h4, v, (hb.block _ (row_lt h5)).trans h5, h6.below hb⟩
set_option maxRecDepth 100000 in
set_option maxHeartbeats 1000000 in
theorem lo1_any (gf gp gl gb base : Nat) (s : Int) (a : Option Addr) (n c : Nat) (b : Option Addr) (m d : Nat) (F S O : Nat → Int) (st : List Int × Int) (v : Value) (l : List Int) (W : World) (hs : 2 ≤ s ∧ s ≤ 96) (hm : m ≤ 12) (hsec : ∀ k, k < m → 0 ≤ F k ∧ F k < s ∧ 1 ≤ S k ∧ F k + S k ≤ s) (hl48 : l.length ≤ 48) (hZ : ∀ i, i < l.length → 0 ≤ l.getD i 0 ∧ l.getD i 0 ≤ (m : Int) - 1)
    (hst : -1 ≤ st.2 ∧ st.2 ≤ 100000) (hG : LoG gf gp gl gb base m b) (hv : OwnI W base v l) (hI : LoInv gf gp gl gb base s a n c b m d F S O st W) :
    Calls Try.prog 56 #[v, .pointer (some ⟨gf, 0, none⟩), .pointer (some ⟨gp, 0, none⟩), .pointer (some ⟨gl, 0, none⟩), .pointer (some ⟨gb, 0, none⟩)] W fun e W' => e = .returned (.tuple #[]) ∧ LoInv gf gp gl gb base s a n c b m d F S O (loU (loC s F S) l st) W' ∧ Keep2 gl gb W W' := by
  obtain ⟨h1, h2, h3, h4, v0, h5, h6⟩ := hI
  have HSEC := Lib.hid hsec; have HZ := Lib.hid hZ; clear hsec hZ
  have KF := kp_row h1; have KP := kp_row h2; have KS := kp_sec h3; have KL := kp_row h4; have KBB := kp_row h5; have KO := kp_OwnI h6; have KV := kp_OwnI hv
  clear h1 h2 h3 h4 h5 h6
  obtain ⟨q, e0, rfl, hz⟩ := OwnI.at hv
  clear hv
  have KZ := kp_int hz; clear hz
  have p0 := row_cell 0 KP.here
  rw [pc_get0] at p0
  go_enter Try.func56, Try.ntmps56
  go_wp2_with (with_reducible refine load_iframe rfl _ rfl gf rfl _ s a n c KF.here ?_)
  clear p0
  have hpb := plTo_bound (F := F) (S := S) (Z := fun i => l.getD i 0) hs HSEC.out l.length HZ.out
  refine (playAll_any s a n c b m d F S q l.length e0 (fun i => l.getD i 0) W hs hm HSEC.out KS.here hl48 HZ.out KZ.here).mono ?_
  rw [← loC_def] at hpb ⊢
  have HUY := Lib.hid (loU_yes (C := loC s F S) (l := l) (st := st))
  have HUN := Lib.hid (loU_no (C := loC s F S) (l := l) (st := st))
  obtain ⟨x, hx⟩ : ∃ x, loC s F S l = x := ⟨_, rfl⟩
  rw [hx] at hpb HUY HUN ⊢
  clear hx
  rintro e w2 ⟨rfl, hb2⟩
  replace KF := KF.on hb2
  replace KP := KP.on hb2
  replace KS := KS.on hb2
  replace KL := KL.on hb2
  replace KBB := KBB.on hb2
  replace KO := KO.on hb2
  replace KV := KV.on hb2
  have hk2 := Lib.hid (Keep2.of (g1 := gl) (g2 := gb) hb2)
  clear hb2
  obtain ⟨bl, lv⟩ := st
  have c0 := row_cell 0 KL.here
  by_cases hlt : lv < 0 ∨ x < lv
  · have HU := Lib.hid (HUY.out hlt)
    have f1 := frozen_of_row w2 gb 0 _ _ KBB.here
    have hb1 := row_lt KBB.here
    have hl1 := row_lt KL.here
    have r1 : (w2.setCell ⟨gb, 0, none⟩ (.slice q l.length e0)).heap[gl]? = some (.cells #[.int .i64 lv] 2 (0, 0)) := (heap_setCell_other w2 _ gl _ hG.lb).trans KL.here
    have f2 := frozen_of_row _ gl 0 _ _ r1
    have c2 := row_cell 0 r1
    have r2 := heap_setCell_same w2 gb 0 _ _ (.slice q l.length e0) KBB.here
    have cb := row_cell 0 KBB.here
    have hkk : Keep2 gl gb w2 ((w2.setCell ⟨gb, 0, none⟩ (.slice q l.length e0)).setCell ⟨gl, 0, none⟩ (.int .i64 x)) := ⟨by simp, fun j n1 n2 _ => (heap_setCell_other _ _ j _ n1).trans (heap_setCell_other _ _ j _ n2), by first | rfl | simp, by first | rfl | simp, by first | rfl | simp⟩
    have HKK := Lib.hid hkk; have HR1 := Lib.hid r1; have HR2 := Lib.hid r2; clear hkk r1 r2
    have hnew : LoInv gf gp gl gb base s a n c b m d F S O (l, x) ((w2.setCell ⟨gb, 0, none⟩ (.slice q l.length e0)).setCell ⟨gl, 0, none⟩ (.int .i64 x)) :=
      ⟨HKK.out.row KF.here hG.fl hG.fb, HKK.out.row KP.here hG.pl hG.pb, KS.here.keep2 HKK.out hG.sec, heap_setCell_same _ gl 0 _ _ _ HR1.out, .slice q l.length e0, (heap_setCell_other _ _ gb _ hG.lb.symm).trans HR2.out, HKK.out.own KV.here hG.lB hG.bB⟩
    have HNEW := Lib.hid hnew; clear hnew
    by_cases h0 : lv < 0
    · go_wp2
      go_end0
      exact ⟨rfl, by rw [HU.out]; exact HNEW.out, hk2.out.trans HKK.out⟩
    · have h9 : x < lv := by omega
      go_wp2
      go_end0
      exact ⟨rfl, by rw [HU.out]; exact HNEW.out, hk2.out.trans HKK.out⟩
  · have HU := Lib.hid (HUN.out hlt)
    have h0 : ¬ lv < 0 := by omega
    have h9 : ¬ x < lv := by omega
    go_wp2
    go_end0
    exact ⟨rfl, by rw [HU.out]; exact ⟨KF.here, KP.here, KS.here, KL.here, _, KBB.here, KO.here⟩, hk2.out⟩
theorem loC_bound {s : Int} {F S : Nat → Int} {m : Nat} (hs : 2 ≤ s ∧ s ≤ 96) (hsec : ∀ k, k < m → 0 ≤ F k ∧ F k < s ∧ 1 ≤ S k ∧ F k + S k ≤ s) (l : List Int) (hl : okL m l) (h48 : l.length ≤ 48) : 0 ≤ loC s F S l ∧ loC s F S l ≤ 100000 := by
  have := plTo_bound (F := F) (S := S) (Z := fun i => l.getD i 0) hs hsec l.length hl
  rw [← loC_def] at this
  omega
set_option maxRecDepth 100000 in
set_option maxHeartbeats 1000000 in
theorem orders_any (gf gp gl gb base : Nat) (s : Int) (a : Option Addr) (n c : Nat) (b : Option Addr) (m d : Nat) (F S O : Nat → Int) (hs : 2 ≤ s ∧ s ≤ 96) (hm : m ≤ 12) (hsec : ∀ k, k < m → 0 ≤ F k ∧ F k < s ∧ 1 ≤ S k ∧ F k + S k ≤ s) (hG : LoG gf gp gl gb base m b) (r : Nat) :
    ∀ (l : List Int) (v : Value) (st : List Int × Int) (W : World), l.length + r = m → okL m l → goodS st → base ≤ W.heap.size → OwnI W base v l → LoInv gf gp gl gb base s a n c b m d F S O st W →
    Calls Try.prog 55 #[.int .i64 (m : Int), v, .func (.func 56) #[] #[.pointer (some ⟨gf, 0, none⟩), .pointer (some ⟨gp, 0, none⟩), .pointer (some ⟨gl, 0, none⟩), .pointer (some ⟨gb, 0, none⟩)]] W fun e W' => e = .returned (.tuple #[]) ∧ LoInv gf gp gl gb base s a n c b m d F S O (loB (loC s F S) m r l st) W' ∧ Keep2 gl gb W W' := by
  have HSEC := Lib.hid hsec
  have HCB := Lib.hid (fun (l : List Int) (hl : okL m l) (h : l.length ≤ 48) => loC_bound hs hsec l hl h)
  clear hsec
  induction r with
  | zero =>
    intro l v st W hlen hl hst hbW hv hI
    have hlm : l.length = m := by omega
    have HI := Lib.hid hI; have HV := Lib.hid hv; have HL := Lib.hid hl
    obtain ⟨q, e0, rfl, _⟩ := OwnI.at hv
    clear hv hI hl
    rw [loB_zero]
    have hc := lo1_any gf gp gl gb base s a n c b m d F S O st (.slice q l.length e0) l W hs hm HSEC.out (by omega) HL.out ⟨hst.1, hst.2.1⟩ ⟨hG.fl, hG.fb, hG.pl, hG.pb, hG.lb, hG.lB, hG.bB, hG.sec⟩ HV.out HI.out
    rw [hlm] at hc ⊢
    have HCC := Lib.hid hc; clear hc
    go_enter Try.func55, Try.ntmps55
    go_wp2_with fail
    refine HCC.out.mono ?_
    rintro e w2 ⟨rfl, hi2, hk2⟩
    have HI2 := Lib.hid hi2; have HK2 := Lib.hid hk2; clear hi2 hk2
    go_wp2
    refine bodyPost_ret (v := .tuple #[]) (by simp [results, Try.results55, go_sem]) rfl ⟨rfl, HI2.out, HK2.out⟩
  | succ r ih =>
    have HIH := Lib.hid ih; clear ih
    intro l v st W hlen hl hst hbW hv hI
    have HI := Lib.hid hI; have HV := Lib.hid hv; have HL := Lib.hid hl; have HST := Lib.hid hst
    obtain ⟨q, e0, rfl, _⟩ := OwnI.at hv
    clear hv hI hl hst
    rw [loB_succ]
    have hne : ((l.length : Int) == (m : Int)) = false := by simp; omega
    go_enter Try.func55, Try.ntmps55
    go_wp2
    go_loopw [15] (fun i w' => ∃ j : Nat, j ≤ m ∧ i = .int .i64 j ∧ LoInv gf gp gl gb base s a n c b m d F S O (loF (loC s F S) m r l j st) w' ∧ Keep2 gl gb W w') (fun i _ => m - (intOf i).toNat)
    case atStart => exact ⟨0, by omega, rfl, by rw [loF_zero]; exact HI.out, Keep2.refl _⟩
    case round =>
      clear HI
      obtain ⟨j, hj, rfl, hi, hk⟩ := hrel
      have HI := Lib.hid hi; have HK := Lib.hid hk
      have hbw : base ≤ wr.heap.size := Nat.le_trans hbW hk.1
      clear hi hk
      by_cases hlt : j < m
      · have hlt' : (j : Int) < m := by omega
        have HVr := Lib.hid (HK.out.own HV.out hG.lB hG.bB)
        have HZ := Lib.hid (OwnI.readAt HVr.out)
        have hh := inL_has l j
        have HIN := Lib.hid (loF_in (C := loC s F S) (n := m) (r := r) (l := l) (j := j) (st := st))
        have HOUT := Lib.hid (loF_out (C := loC s F S) (n := m) (r := r) (l := l) (j := j) (st := st))
        have HGOOD := Lib.hid (loF_good HCB.out r (loB_good HCB.out r) l HL.out (by omega) st HST.out j (by omega))
        cases hin : inL l j
        · rw [hin] at hh
          have HX := Lib.hid (HOUT.out hin)
          have HHH := Lib.hid hh; clear hh
          go_wp2_with (go_at_call 83; refine (sliceContains_any q _ e0 (fun i => l.getD i 0) (j : Int) _ (by omega) HZ.out).mono ?_; rw [HHH.out]; rintro e w3 ⟨rfl, rfl⟩)
          refine (cloneI_any (.slice q l.length e0) l base wr (by omega) HVr.out).mono ?_
          rintro e w3 ⟨u, rfl, hb3, hu⟩
          have HU := Lib.hid (hu.alloc (.cells #[.int .i64 (j : Int)] 2))
          have hsz3 := hb3.size
          have HB3 := Lib.hid (hb3.alloc hsz3 (.cells #[.int .i64 (j : Int)] 2))
          clear hu hb3
          go_wp2_with (at_builtin; refine append_int rfl _ _ rfl wr.heap.size _ l rfl HU.out w3.heap.size (j : Int) rfl (by simp) (by omega) (by simp; omega) ?_; intro v4 w4 hown4 hb4; have HO4 := Lib.hid hown4; have HB4 := Lib.hid (HB3.out.trans hb4); clear hown4 hb4)
          have hb4 := HB4.out
          refine (HIH.out (l ++ [(j : Int)]) v4 (loF (loC s F S) m r l j st) w4 (by rw [List.length_append]; simp; omega) (okL_app HL.out hlt) HGOOD.out (Nat.le_trans hbw hb4.size) (HO4.out.mono hbw) (HI.out.stay hb4)).mono ?_
          rw [← HX.out]
          rintro e w5 ⟨rfl, hi5, hk5⟩
          have HI5 := Lib.hid hi5; have HK5 := Lib.hid (HK.out.trans ((Keep2.of hb4).trans hk5)); clear hi5 hk5 hb4
          go_wp2
          go_roundw
          case rel => exact ⟨j + 1, by omega, by go_num, HI5.out, HK5.out⟩
          case measure => simp [intOf]; omega
        · rw [hin] at hh
          have HX := Lib.hid (HIN.out hin)
          have HHH := Lib.hid hh; clear hh
          go_wp2_with (go_at_call 83; refine (sliceContains_any q _ e0 (fun i => l.getD i 0) (j : Int) _ (by omega) HZ.out).mono ?_; rw [HHH.out]; rintro e w3 ⟨rfl, rfl⟩)
          go_roundw
          case rel => exact ⟨j + 1, by omega, by go_num, by rw [HX.out]; exact HI.out, HK.out⟩
          case measure => simp [intOf]; omega
      · have hjm : m = j := by omega
        subst hjm
        go_wp2
        go_end0
        exact ⟨rfl, HI.out, HK.out⟩
end Go.Proofs.Ytlcfjeofphncgaa
