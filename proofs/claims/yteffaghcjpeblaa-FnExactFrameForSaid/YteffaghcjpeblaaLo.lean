/- LeastStepsOrder: all orders of the sections are tried. No conditions. -/
import Derived.Test.YteffaghcjpeblaaSd
import Derived.Test.YteffaghcjpeblaaNr
import Derived.Test.YteffaghcjpeblaaPins
import Derived.Test.YteffaghcjpeblaaOwnI
import Derived.Laws.AppendOwnNone
import Derived.Outline
namespace Go.Proofs.Yteffaghcjpeblaa
open Go.RowKit
set_option linter.unusedVariables false
set_option linter.unusedSimpArgs false

/-! ### what is laid down -/
/-- what an order costs -/
def loC (s : Int) (F S : Nat → Int) (l : List Int) : Int := plTo s F S (fun i => l.getD i 0) l.length
theorem loC_def (s : Int) (F S : Nat → Int) (l : List Int) : loC s F S l = plTo s F S (fun i => l.getD i 0) l.length := rfl
attribute [irreducible] loC
/-- the better one is kept -/
def loU (C : List Int → Int) (l : List Int) (st : List Int × Int) : List Int × Int := if st.2 < 0 ∨ C l < st.2 then (l, C l) else st
theorem loU_yes {C : List Int → Int} {l : List Int} {st : List Int × Int} (h : st.2 < 0 ∨ C l < st.2) : loU C l st = (l, C l) := if_pos h
theorem loU_no {C : List Int → Int} {l : List Int} {st : List Int × Int} (h : ¬ (st.2 < 0 ∨ C l < st.2)) : loU C l st = st := if_neg h
/-- the best order among those that begin with l, r more being to come -/
noncomputable def loB (C : List Int → Int) (n : Nat) : Nat → List Int → List Int × Int → List Int × Int
  | 0, l, st => loU C l st
  | r + 1, l, st => (List.range n).foldl (fun st i => if inL l i = true then st else loB C n r (l ++ [(i : Int)]) st) st
/-- the best order when the first j indices have been tried -/
noncomputable def loF (C : List Int → Int) (n r : Nat) (l : List Int) (j : Nat) (st : List Int × Int) : List Int × Int := (List.range j).foldl (fun st i => if inL l i = true then st else loB C n r (l ++ [(i : Int)]) st) st
section
variable {C : List Int → Int} {n r j : Nat} {l : List Int} {st : List Int × Int}
theorem loB_zero : loB C n 0 l st = loU C l st := rfl
theorem loB_succ : loB C n (r + 1) l st = loF C n r l n st := rfl
theorem loF_zero : loF C n r l 0 st = st := rfl
theorem loF_in (h : inL l j = true) : loF C n r l (j + 1) st = loF C n r l j st := by unfold loF; rw [List.range_succ, List.foldl_append]; simp [h]
theorem loF_out (h : inL l j = false) : loF C n r l (j + 1) st = loB C n r (l ++ [(j : Int)]) (loF C n r l j st) := by unfold loF; rw [List.range_succ, List.foldl_append]; simp [h]
end
attribute [irreducible] loU loB loF
/-- a list of indices below n -/
def okL (n : Nat) (l : List Int) : Prop := ∀ i, i < l.length → 0 ≤ l.getD i 0 ∧ l.getD i 0 ≤ (n : Int) - 1
theorem okL_nil (n : Nat) : okL n [] := fun i hi => absurd hi (by simp)
theorem okL_app {n j : Nat} {l : List Int} (h : okL n l) (hj : j < n) : okL n (l ++ [(j : Int)]) := by
  intro i hi
  rw [List.length_append] at hi
  by_cases h1 : i < l.length
  · have := h i h1
    simpa [List.getD, List.getElem?_append_left h1] using this
  · have hi0 : i = l.length := by simp at hi; omega
    subst hi0
    simp [List.getD]; omega
/-- a state that may come up -/
def goodS (st : List Int × Int) : Prop := -1 ≤ st.2 ∧ st.2 ≤ 100000 ∧ st.1.length ≤ 48
section
variable {C : List Int → Int} {n : Nat}
theorem loF_good (hC : ∀ l, okL n l → l.length ≤ 48 → 0 ≤ C l ∧ C l ≤ 100000) (r : Nat) (ih : ∀ (l : List Int) (st : List Int × Int), okL n l → l.length + r ≤ 48 → goodS st → goodS (loB C n r l st)) (l : List Int) (hl : okL n l) (hlen : l.length + (r + 1) ≤ 48) (st : List Int × Int) (hst : goodS st) (j : Nat) (hj : j ≤ n) : goodS (loF C n r l j st) := by
  induction j with
  | zero => rw [loF_zero]; exact hst
  | succ j ihj =>
    cases h : inL l j
    · rw [loF_out h]
      exact ih _ _ (okL_app hl (by omega)) (by rw [List.length_append]; simp; omega) (ihj (by omega))
    · rw [loF_in h]; exact ihj (by omega)
theorem loB_good (hC : ∀ l, okL n l → l.length ≤ 48 → 0 ≤ C l ∧ C l ≤ 100000) (r : Nat) : ∀ (l : List Int) (st : List Int × Int), okL n l → l.length + r ≤ 48 → goodS st → goodS (loB C n r l st) := by
  induction r with
  | zero =>
    intro l st hl hlen hst
    rw [loB_zero]
    by_cases h : st.2 < 0 ∨ C l < st.2
    · rw [loU_yes h]; have := hC l hl (by omega); exact ⟨by show -1 ≤ C l; omega, this.2, by show l.length ≤ 48; omega⟩
    · rw [loU_no h]; exact hst
  | succ r ih =>
    intro l st hl hlen hst
    rw [loB_succ]
    exact loF_good hC r ih l hl hlen st hst n (Nat.le_refl _)
end
/-! ### memory -/
/-- all blocks but two are as they were -/
def Keep2 (g1 g2 : Nat) (w V : World) : Prop := w.heap.size ≤ V.heap.size ∧ (∀ j, j ≠ g1 → j ≠ g2 → j < w.heap.size → V.heap[j]? = w.heap[j]?) ∧ V.os = w.os ∧ V.tape = w.tape ∧ V.output = w.output
section
variable {g1 g2 : Nat} {w V U : World}
theorem Keep2.of (h : Below w.heap.size w V) : Keep2 g1 g2 w V := ⟨h.size, fun j _ _ hj => h.block j hj, h.os, h.tape, h.output⟩
theorem Keep2.trans (h : Keep2 g1 g2 w V) (h2 : Keep2 g1 g2 V U) : Keep2 g1 g2 w U := ⟨Nat.le_trans h.1 h2.1, fun j a b hl => (h2.2.1 j a b (Nat.lt_of_lt_of_le hl h.1)).trans (h.2.1 j a b hl), h2.2.2.1.trans h.2.2.1, h2.2.2.2.1.trans h.2.2.2.1, h2.2.2.2.2.trans h.2.2.2.2⟩
theorem Keep2.refl (w : World) : Keep2 g1 g2 w w := ⟨Nat.le_refl _, fun _ _ _ _ => rfl, rfl, rfl, rfl⟩
theorem Keep2.row (h : Keep2 g1 g2 w V) {x : Nat} {o : Obj} (hx : w.heap[x]? = some o) (a : x ≠ g1) (b : x ≠ g2) : V.heap[x]? = some o := (h.2.1 x a b (Array.getElem?_eq_some_iff.1 hx).1).trans hx
theorem Keep2.cell (h : Keep2 g1 g2 w V) {p : Addr} {v : Value} (hc : w.cell? p = some v) (hp : p.block < w.heap.size) (a : p.block ≠ g1) (b : p.block ≠ g2) : V.cell? p = some v := by
  have e := h.2.1 p.block a b hp
  unfold World.cell? at hc ⊢
  rw [e]; exact hc
theorem Keep2.own {base : Nat} {v : Value} {l : List Int} (h : Keep2 g1 g2 w V) (ho : OwnI w base v l) (a : g1 < base) (b : g2 < base) : OwnI V base v l := by
  obtain ⟨hl, ho⟩ := ho
  refine ⟨hl, ?_⟩
  rcases ho with h0 | ⟨g, cap, cur, rfl, hg, hb, h2⟩
  · exact .inl h0
  · exact .inr ⟨g, cap, cur, rfl, hg, h.row hb (by omega) (by omega), h2⟩
end
section
variable {ops : Array Oper} {rest : List Oper} {o : Oper} {a : Act} {w : World} {Q : Exit → Act → World → Prop}
set_option maxRecDepth 100000 in
/-- a list of numbers is appended -/
theorem append_ownI (hgd : o.guard = none) (s x : Operand) (ho : o.op = .call { callee := .builtin .append, args := #[s, x], argTypes := #[54, 54] }) (base base2 : Nat) (v u : Value) (l ys : List Int) (hs : a.eval s = v) (hown : OwnI w base v l)
    (hx : a.eval x = u) (hu : OwnI w base2 u ys) (hl : l.length + ys.length ≤ 1000000) (hbase : base ≤ w.heap.size)
    (h : ∀ v' w', OwnI w' base v' (l ++ ys) → Below base w w' → wpList Try.prog ops Q rest (a.put o.dst v') w') : wpList Try.prog ops Q (o :: rest) a w := by
  obtain ⟨i0, hi, hz0, hz1, hz2⟩ := info_parts infoI64
  rcases hu.2 with ⟨rfl, h0⟩ | ⟨g, cap, cur, rfl, hg, hb, hc, hm, hs2, ht⟩
  · have hy : ys = [] := List.eq_nil_of_length_eq_zero h0
    subst hy
    refine wpList_append_own_none hgd s x 54 ho base 2 i0 1 Try.underlying54 hi v l.length _ hs hown hx ?_
    exact h v w (by rw [List.append_nil]; exact hown) (Below.refl _ _)
  · refine wpList_append_own w hgd s x 54 ho base 2 i0 (.int .i64 0) 1 8 Try.underlying54 hi hz0 hz1 hz2 rfl (by decide) v l.length _ hs hown ⟨g, 0, none⟩ ys.length cap (ys.map (Value.int .i64)) hx (by simp) ?_ ?_ ?_ ?_ hbase ?_
    · intro j z hj
      have hjl : j < ys.length * 1 := by have := (List.getElem?_eq_some_iff.1 hj).1; simpa using this
      rw [show (⟨g, 0, none⟩ : Addr).add j = ⟨g, j, none⟩ by unfold Addr.add; split <;> simp_all]
      rcases own_at hu with ⟨e, _⟩ | ⟨g', c', e, _, _, hcc⟩
      · cases e
      · injection e with e1 e2 e3
        injection e1 with e1
        injection e1 with e1
        subst e1
        rw [hcc j hjl, hj]
    · intro z hz
      obtain ⟨y, _, rfl⟩ := List.mem_map.1 hz
      rfl
    · unfold maxLen; omega
    · omega
    · intro v' w' hown' hgrow _
      refine h v' w' ?_ (Below.grown (Below.refl _ _) hgrow hbase fun k hk => (World.ownsRow.lt hown k hk).1)
      unfold OwnI
      rw [List.length_append, List.map_append]
      exact hown'
end
set_option maxRecDepth 100000 in
theorem cloneI_any (v : Value) (l : List Int) (base : Nat) (w : World) (hl : l.length ≤ 500000) (hv : OwnI w base v l) :
    Calls Try.prog 50 #[v] w fun e w' => ∃ u, e = .returned u ∧ Below w.heap.size w w' ∧ OwnI w' w.heap.size u l := by
  rcases hv.2 with ⟨rfl, h0⟩ | ⟨g, cap, cur, rfl, hr⟩
  · have hy : l = [] := List.eq_nil_of_length_eq_zero h0
    subst hy
    have hq : ∀ w : World, (binOp .eql 54 (.slice none 0 0) (.slice none 0 0)).run Try.prog w = .ok (.bool true) w := fun _ => rfl
    go_enter Try.func50, Try.ntmps50
    go_wp2
    go_ret
    exact ⟨_, rfl, Below.refl _ _, OwnI.none0 _ _⟩
  · have hq : ∀ w : World, (binOp .eql 54 (.slice (some ⟨g, 0, none⟩) l.length cap) (.slice none 0 0)).run Try.prog w = .ok (.bool false) w := fun _ => rfl
    clear hr
    have HN := Lib.hid (OwnI.nil w w.heap.size (Nat.le_refl _))
    have HV := Lib.hid (hv.alloc (.cells #[] 2)); clear hv
    have hb0 := Lib.hid (show Below w.heap.size w (w.alloc (.cells #[] 2)) from (Below.refl _ _).alloc (Nat.le_refl _) _)
    go_enter Try.func50, Try.ntmps50
    go_wp2_with (at_builtin; refine append_ownI rfl _ _ rfl w.heap.size base _ _ [] l rfl HN.out rfl HV.out (by simp; omega) (by simp) ?_; intro v2 w2 hown2 hb2; have HO2 := Lib.hid hown2; have HB2 := Lib.hid hb2; clear hown2 hb2)
    go_ret
    exact ⟨_, rfl, hb0.out.trans HB2.out, by have := HO2.out; rwa [List.nil_append] at this⟩
end Go.Proofs.Yteffaghcjpeblaa
