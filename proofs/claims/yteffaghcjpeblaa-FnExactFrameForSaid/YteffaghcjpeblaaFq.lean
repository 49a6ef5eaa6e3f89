/- How many hammers are needed, by the reference. No conditions. -/
import Derived.Test.YteffaghcjpeblaaFp
import Derived.Test.YteffaghcjpeblaaHeld
import Derived.Test.YteffaghcjpeblaaSmall
import Derived.Outline
namespace Go.Proofs.Yteffaghcjpeblaa
open Go.RowKit
set_option linter.unusedVariables false
set_option linter.unusedSimpArgs false

section
variable {o : Oper} {a : Act} {w : World}
/-- numbers are appended -/
theorem ex_append_I (s x : Operand) (ho : o.op = .call { callee := .builtin .append, args := #[s, x], argTypes := #[54, 54] }) (base : Nat) (v : Value) (l : List Int) (hs : a.eval s = v) (hown : OwnI w base v l)
    (g m c : Nat) (ys : List Int) (hm : ys.length = m) (hx : a.eval x = .slice (some ⟨g, 0, none⟩) m c) (hc : ∀ j, j < m → w.cell? ⟨g, j, none⟩ = some (.int .i64 (ys.getD j 0))) (hl : l.length + m ≤ 1000000) (hbase : base ≤ w.heap.size) :
    ∃ v' w', (execOp a.eval o).run Try.prog w = .ok (.value v') w' ∧ OwnI w' base v' (l ++ ys) ∧ w.grownBy w' v.ownBlock ∧ Below base w w' ∧ (v' = .slice none 0 0 ↔ v = .slice none 0 0 ∧ m = 0) := by
  obtain ⟨i0, hi, hz0, hz1, hz2⟩ := info_parts infoI64
  obtain ⟨v', w', hrun, h2, h3, h4⟩ := run_append_own (P := Try.prog) w base 54 o.type 2 i0 (.int .i64 0) 1 8 Try.underlying54 hi hz0 hz1 hz2 rfl (by decide) v l.length _ hown ⟨g, 0, none⟩ m c (ys.map (Value.int .i64)) (by simp [hm]) (fun j u hj => by
    have hjl : j < ys.length := by have := (List.getElem?_eq_some_iff.1 hj).1; simpa using this
    rw [show (⟨g, 0, none⟩ : Addr).add j = ⟨g, j, none⟩ by unfold Addr.add; split <;> simp_all, hc j (by omega)]
    rw [List.getElem?_map, List.getElem?_eq_getElem hjl] at hj
    simp only [Option.map_some, Option.some.injEq] at hj
    rw [← hj]; simp [List.getD, hjl]) (fun u hu => by obtain ⟨y, _, rfl⟩ := List.mem_map.1 hu; rfl) (by unfold maxLen; omega) (by omega) hbase
  refine ⟨v', w', ?_, by unfold OwnI; rw [List.length_append, List.map_append, hm]; exact h2, h3, Below.grown (Below.refl _ _) h3 hbase fun k hk => (World.ownsRow.lt hown k hk).1, h4⟩
  unfold execOp
  simp only [ho, resolve, invoke, builtin, Sem.run_bind, Sem.run_pure, Result.andThen_ok, List.map_toArray, List.map_cons, List.map_nil, hs, hx, hrun]
end
section
variable {ops : Array Oper} {rest : List Oper} {o : Oper} {a : Act} {w : World} {Q : Exit → Act → World → Prop}
theorem append_IG (s x : Operand) (ho : o.op = .call { callee := .builtin .append, args := #[s, x], argTypes := #[54, 54] }) (base : Nat) (v : Value) (l : List Int) (hs : a.eval s = v) (hown : OwnI w base v l)
    (g m c : Nat) (ys : List Int) (hm : ys.length = m) (hx : a.eval x = .slice (some ⟨g, 0, none⟩) m c) (hc : ∀ j, j < m → w.cell? ⟨g, j, none⟩ = some (.int .i64 (ys.getD j 0))) (hl : l.length + m ≤ 1000000) (hbase : base ≤ w.heap.size)
    (hw : Region.wanted o (yielded ops a.tmps) = true)
    (h : ∀ v' w', OwnI w' base v' (l ++ ys) → w.grownBy w' v.ownBlock → Below base w w' → (v' = .slice none 0 0 ↔ v = .slice none 0 0 ∧ m = 0) → wpList Try.prog ops Q rest (a.put o.dst v') w') : wpList Try.prog ops Q (o :: rest) a w := by
  obtain ⟨v', w', he, h1, h2, h3, h4⟩ := ex_append_I s x ho base v l hs hown g m c ys hm hx hc hl hbase
  refine wpList_step fun K hK => ?_
  rw [if_pos hw]
  unfold Oper.wp
  rw [he]
  exact hK _ _ (h v' w' h1 h2 h3 h4)
end
theorem OwnI.some_form {w : World} {base : Nat} {v : Value} {l : List Int} (h : OwnI w base v l) (hv : ¬ v = .slice none 0 0) : ∃ g c, v = .slice (some ⟨g, 0, none⟩) l.length c ∧ base ≤ g ∧ g < w.heap.size ∧ ∀ j, j < l.length → w.cell? ⟨g, j, none⟩ = some (.int .i64 (l.getD j 0)) := by
  rcases own_at h with ⟨e, _⟩ | ⟨g, c, e, hg, hlt, hc⟩
  · exact absurd e hv
  · refine ⟨g, c, e, hg, hlt, fun j hj => ?_⟩
    rw [hc j (by omega), List.getElem?_map, List.getElem?_eq_getElem hj]
    simp [List.getD, hj]
theorem tmod_x {a b s : Int} (ha : 0 ≤ a ∧ a < s) (hb : 0 ≤ b ∧ b < s) : (b - a + s).tmod s = (b - a + s) % s ∧ 0 ≤ (b - a + s) % s ∧ (b - a + s) % s < s := ⟨Int.tmod_eq_emod_of_nonneg (by omega), Int.emod_nonneg _ (by omega), Int.emod_lt_of_pos _ (by omega)⟩
set_option maxRecDepth 100000 in
theorem l03Near_any (a b s r : Int) (w : World) (hs : 2 ≤ s ∧ s ≤ 96) (ha : 0 ≤ a ∧ a < s) (hb : 0 ≤ b ∧ b < s) :
    Calls Try.prog 66 #[.int .i64 a, .int .i64 b, .int .i64 s, .int .i64 r] w fun e w' => e = .returned (.bool (nrB s r a b)) ∧ w = w' := by
  have h1 := tmod_x ha hb
  have h2 := tmod_x hb ha
  have hL := nrB_l (s := s) (r := r) (a := a) (b := b)
  have hR := nrB_r (s := s) (r := r) (a := a) (b := b)
  obtain ⟨x, hx⟩ : ∃ x, (b - a + s) % s = x := ⟨_, rfl⟩
  obtain ⟨y, hy⟩ : ∃ x, (a - b + s) % s = x := ⟨_, rfl⟩
  rw [hx] at h1 hL hR
  rw [hy] at h2 hR
  obtain ⟨e1, b1⟩ := h1
  obtain ⟨e2, b2⟩ := h2
  have q1 := i64_id (x := b - a) (by omega)
  have q2 := i64_id (x := b - a + s) (by omega)
  have q3 := i64_id (x := x) (by omega)
  have q4 := i64_id (x := a - b) (by omega)
  have q5 := i64_id (x := a - b + s) (by omega)
  have q6 := i64_id (x := y) (by omega)
  have hs0 : ¬ s = 0 := by omega
  by_cases h : x < r
  · have HH := Lib.hid (hL h)
    clear hL hR
    go_enter Try.func66, Try.ntmps66
    go_wp2
    go_ret
    exact ⟨ret_bool HH.out.symm, rfl⟩
  · have HH := Lib.hid (hR h)
    clear hL hR
    go_enter Try.func66, Try.ntmps66
    go_wp2
    go_ret
    exact ⟨ret_bool HH.out.symm, rfl⟩
theorem l00Max_us (u h : Nat) (w : World) : Calls Try.prog 67 #[.int .i64 (u : Int), .int .i64 ((h : Int) + 1)] w fun e w' => e = .returned (.int .i64 (usN u h : Nat)) ∧ w = w' := by
  by_cases h1 : u < h + 1
  · have hr := Lib.hid (usN_lt h1)
    have h2 : ¬ (h : Int) + 1 < u := by omega
    go_enter Try.func67, Try.ntmps67
    go_wp2
    go_ret
    exact ⟨ret_int (by rw [hr.out]; rfl), rfl⟩
  · have hr := Lib.hid (usN_ge h1)
    by_cases h2 : (h : Int) + 1 < u
    all_goals
      go_enter Try.func67, Try.ntmps67
      go_wp2
      go_ret
      exact ⟨ret_int (by rw [hr.out]; try omega), rfl⟩
end Go.Proofs.Yteffaghcjpeblaa
