/- Steps in a region that draws: a read and a laid block; an append, block by block; a note that is laid. No conditions. -/
import Derived.Test.YtfefclngfeihiaaOwnN
import Derived.Test.YtfefclngfeihiaaOwnG
import Derived.Test.YtfefclngfeihiaaHeld2
import Derived.Outline
namespace Go.Proofs.Ytfefclngfeihiaa
open Go.RowKit
set_option linter.unusedVariables false
set_option linter.unusedSimpArgs false

/-- two may come up: a read, and one that lays a block: they come to the same -/
theorem step_pair {P : Program} {md : Region.Mode} {ops : Array Oper} {Q : Exit → Act → World → Prop} {S : World → Prop} {fuel : Nat} {listed : Array Bool} {a : Act} {w : World} (i j : Nat) {oi oj : Oper} (vi vj : Value) (wj : World) (hr : Region.ready md ops listed = [i, j])
    (hri : Region.ready md ops (listed.setIfInBounds i true) = [j]) (hrj : Region.ready md ops (listed.setIfInBounds j true) = [i]) (hoi : ops[i]? = some oi) (hoj : ops[j]? = some oj)
    (hwi : Region.wanted oi (yielded ops a.tmps) = true) (hwj : Region.wanted oj (yielded ops a.tmps) = true) (hwi' : Region.wanted oi (yielded ops (a.put oj.dst vj).tmps) = true) (hwj' : Region.wanted oj (yielded ops (a.put oi.dst vi).tmps) = true)
    (ei : (execOp a.eval oi).run P w = .ok (.value vi) w) (ej : (execOp a.eval oj).run P w = .ok (.value vj) wj) (ei' : (execOp (a.put oj.dst vj).eval oi).run P wj = .ok (.value vi) wj) (ej' : (execOp (a.put oi.dst vi).eval oj).run P w = .ok (.value vj) wj)
    (hS : S w) (hSj : S wj) (hl : (listed.setIfInBounds j true).setIfInBounds i true = (listed.setIfInBounds i true).setIfInBounds j true) (ha : (a.put oj.dst vj).put oi.dst vi = (a.put oi.dst vi).put oj.dst vj)
    (h : wpAnyH P md ops Q S fuel ((listed.setIfInBounds i true).setIfInBounds j true) ((a.put oi.dst vi).put oj.dst vj) wj) : wpAnyH P md ops Q S (fuel + 1 + 1) listed a w := by
  refine wpAnyH_ready hr (by simp) (AllReadyH.cons hoi (fun K hK => ?_) (AllReadyH.cons hoj (fun K hK => ?_) AllReadyH.nil))
  · rw [if_pos hwi]
    unfold Oper.wp
    rw [ei]
    exact hK.out _ _ hS fun _ => step_val j vj wj hri hoj hwj' ej' hSj h
  · rw [if_pos hwj]
    unfold Oper.wp
    rw [ej]
    exact hK.out _ _ hSj fun _ => step_val i vi wj hrj hoi hwi' ei' hSj (by rw [hl, ha]; exact h)
/-- two lay a block each -/
theorem step_two2 {P : Program} {md : Region.Mode} {ops : Array Oper} {Q : Exit → Act → World → Prop} {S : World → Prop} {fuel : Nat} {listed : Array Bool} {a : Act} {w : World} (i j : Nat) {oi oj : Oper} (vi vj : Value) (wi wj : World) (hr : Region.ready md ops listed = [i, j]) (hoi : ops[i]? = some oi) (hoj : ops[j]? = some oj) (hwi : Region.wanted oi (yielded ops a.tmps) = true) (hwj : Region.wanted oj (yielded ops a.tmps) = true)
    (ei : (execOp a.eval oi).run P w = .ok (.value vi) wi) (ej : (execOp a.eval oj).run P w = .ok (.value vj) wj) (hSi : S wi) (hSj : S wj)
    (hi : wpAnyH P md ops Q S fuel (listed.setIfInBounds i true) (a.put oi.dst vi) wi) (hj : wpAnyH P md ops Q S fuel (listed.setIfInBounds j true) (a.put oj.dst vj) wj) : wpAnyH P md ops Q S (fuel + 1) listed a w := by
  refine wpAnyH_ready hr (by simp) (AllReadyH.cons hoi (fun K hK => ?_) (AllReadyH.cons hoj (fun K hK => ?_) AllReadyH.nil))
  · rw [if_pos hwi]
    unfold Oper.wp
    rw [ei]
    exact hK.out _ _ hSi fun _ => hi
  · rw [if_pos hwj]
    unfold Oper.wp
    rw [ej]
    exact hK.out _ _ hSj fun _ => hj
section
variable {α : Type} {T sz : Nat} {enc : α → List Value} {md : Region.Mode} {ops : Array Oper} {Q : Exit → Act → World → Prop} {S : World → Prop} {fuel : Nat} {listed : Array Bool} {a : Act} {w : World}
/-- some are appended, in a region that draws; what the world is then, block by block -/
theorem step_append_Lg {t : TypeId} {z : Value} {bytes : Nat} (ht : Try.prog.underlying t = some (.slice T)) (hinfo : (Try.prog.info? T).map (fun i => (i.zero, i.size, i.bytes)) = some (some z, sz, bytes)) (hzs : z.cells.size = sz) (hsz : 0 < sz) (hby : bytes ≤ 1000)
    (henc : ∀ x, (enc x).length = sz) (hone : ∀ x, ∀ u ∈ enc x, u.oneCell' = true)
    (i : Nat) {o : Oper} (hr : Region.ready md ops listed = [i]) (hoi : ops[i]? = some o) (hw : Region.wanted o (yielded ops a.tmps) = true)
    (s x : Operand) (ho : o.op = .call { callee := .builtin .append, args := #[s, x], argTypes := #[t, t] }) (base : Nat) (v : Value) (l : List α) (hs : a.eval s = v) (hown : OwnL T sz enc w base v l)
    (ad : Addr) (m c : Nat) (ys : List α) (hm : ys.length = m) (hx : a.eval x = .slice (some ad) m c) (hc : ∀ j u, (ys.flatMap enc)[j]? = some u → w.cell? (ad.add j) = some u) (hl : l.length + m ≤ 10000000) (hbase : base ≤ w.heap.size)
    (h : ∀ v' w', OwnL T sz enc w' base v' (l ++ ys) → w.grownBy w' v.ownBlock → Below base w w' → S w' ∧ wpAnyH Try.prog md ops Q S fuel (listed.setIfInBounds i true) (a.put o.dst v') w') : wpAnyH Try.prog md ops Q S (fuel + 1) listed a w := by
  subst hm
  refine wpAnyH_ready hr (by simp) (AllReadyH.cons hoi (fun K hK => ?_) AllReadyH.nil)
  rw [if_pos hw]
  obtain ⟨i0, hi, hz0, hz1, hz2⟩ := info_parts hinfo
  refine wp_append_own w s x t ho base T i0 z sz bytes ht hi hz0 hz1 hz2 hzs hsz v l.length _ hs hown ad ys.length c (ys.flatMap enc) hx (flat_len enc sz henc ys) hc ?_ ?_ ?_ hbase ?_
  · intro u hu
    obtain ⟨y, _, hy⟩ := List.mem_flatMap.1 hu
    exact hone y u hy
  · unfold maxLen; omega
  · exact Nat.le_trans (Nat.mul_le_mul hl hby) (by omega)
  · intro v' w' hown' hgrow _
    obtain ⟨h1, h2⟩ := h v' w' (by unfold OwnL; rw [List.length_append, List.flatMap_append]; exact hown') hgrow (Below.grown (Below.refl _ _) hgrow hbase fun k hk => (World.ownsRow.lt hown k hk).1)
    exact hK.out _ _ h1 fun _ => h2
end
section
variable {α : Type} {T sz : Nat} {enc : α → List Value} {md : Region.Mode} {ops : Array Oper} {Q : Exit → Act → World → Prop} {S : World → Prop} {fuel : Nat} {listed : Array Bool} {a : Act} {w : World}
/-- .. and what was no nil slice is none -/
theorem step_append_LgN {t : TypeId} {z : Value} {bytes : Nat} (ht : Try.prog.underlying t = some (.slice T)) (hinfo : (Try.prog.info? T).map (fun i => (i.zero, i.size, i.bytes)) = some (some z, sz, bytes)) (hzs : z.cells.size = sz) (hsz : 0 < sz) (hby : bytes ≤ 1000)
    (henc : ∀ x, (enc x).length = sz) (hone : ∀ x, ∀ u ∈ enc x, u.oneCell' = true)
    (i : Nat) {o : Oper} (hr : Region.ready md ops listed = [i]) (hoi : ops[i]? = some o) (hw : Region.wanted o (yielded ops a.tmps) = true)
    (s x : Operand) (ho : o.op = .call { callee := .builtin .append, args := #[s, x], argTypes := #[t, t] }) (base g n cap : Nat) (l : List α) (hs : a.eval s = .slice (some ⟨g, 0, none⟩) n cap) (hown : OwnL T sz enc w base (.slice (some ⟨g, 0, none⟩) n cap) l)
    (ad : Addr) (m c : Nat) (ys : List α) (hm : ys.length = m) (hx : a.eval x = .slice (some ad) m c) (hc : ∀ j u, (ys.flatMap enc)[j]? = some u → w.cell? (ad.add j) = some u) (hl : l.length + m ≤ 10000000) (hbase : base ≤ w.heap.size)
    (h : ∀ g' n' cap' w', OwnL T sz enc w' base (.slice (some ⟨g', 0, none⟩) n' cap') (l ++ ys) → n' = (l ++ ys).length → w.grownBy w' (some g) → Below base w w' → S w' ∧ wpAnyH Try.prog md ops Q S fuel (listed.setIfInBounds i true) (a.put o.dst (.slice (some ⟨g', 0, none⟩) n' cap')) w') : wpAnyH Try.prog md ops Q S (fuel + 1) listed a w := by
  subst hm
  refine wpAnyH_ready hr (by simp) (AllReadyH.cons hoi (fun K hK => ?_) AllReadyH.nil)
  rw [if_pos hw]
  obtain ⟨i0, hi, hz0, hz1, hz2⟩ := info_parts hinfo
  refine wp_append_own w s x t ho base T i0 z sz bytes ht hi hz0 hz1 hz2 hzs hsz _ l.length _ hs hown ad ys.length c (ys.flatMap enc) hx (flat_len enc sz henc ys) hc ?_ ?_ ?_ hbase ?_
  · intro u hu
    obtain ⟨y, _, hy⟩ := List.mem_flatMap.1 hu
    exact hone y u hy
  · unfold maxLen; omega
  · exact Nat.le_trans (Nat.mul_le_mul hl hby) (by omega)
  · intro v' w' hown' hgrow hnil
    have h2 : OwnL T sz enc w' base v' (l ++ ys) := by unfold OwnL; rw [List.length_append, List.flatMap_append]; exact hown'
    rcases h2.2 with ⟨e, _⟩ | ⟨g', cap', cur, e, _⟩
    · exact absurd (hnil.1 e).1 (by simp)
    · subst e
      obtain ⟨h3, h4⟩ := h _ _ _ _ h2 rfl hgrow (Below.grown (Below.refl _ _) hgrow hbase fun k hk => (World.ownsRow.lt hown k hk).1)
      exact hK.out _ _ h3 fun _ => h4
end
section
variable {α : Type} {T sz : Nat} {enc : α → List Value} {ops : Array Oper} {rest : List Oper} {o : Oper} {a : Act} {w : World} {Q : Exit → Act → World → Prop}
theorem append_LgN {t : TypeId} {z : Value} {bytes : Nat} (ht : Try.prog.underlying t = some (.slice T)) (hinfo : (Try.prog.info? T).map (fun i => (i.zero, i.size, i.bytes)) = some (some z, sz, bytes)) (hzs : z.cells.size = sz) (hsz : 0 < sz) (hby : bytes ≤ 1000)
    (henc : ∀ x, (enc x).length = sz) (hone : ∀ x, ∀ u ∈ enc x, u.oneCell' = true)
    (hgd : o.guard = none) (s x : Operand) (ho : o.op = .call { callee := .builtin .append, args := #[s, x], argTypes := #[t, t] }) (base g n cap : Nat) (l : List α) (hs : a.eval s = .slice (some ⟨g, 0, none⟩) n cap) (hown : OwnL T sz enc w base (.slice (some ⟨g, 0, none⟩) n cap) l)
    (ad : Addr) (m c : Nat) (ys : List α) (hm : ys.length = m) (hx : a.eval x = .slice (some ad) m c) (hc : ∀ j u, (ys.flatMap enc)[j]? = some u → w.cell? (ad.add j) = some u) (hl : l.length + m ≤ 10000000) (hbase : base ≤ w.heap.size)
    (h : ∀ g' n' cap' w', OwnL T sz enc w' base (.slice (some ⟨g', 0, none⟩) n' cap') (l ++ ys) → n' = (l ++ ys).length → w.grownBy w' (some g) → Below base w w' → wpList Try.prog ops Q rest (a.put o.dst (.slice (some ⟨g', 0, none⟩) n' cap')) w') : wpList Try.prog ops Q (o :: rest) a w := by
  subst hm
  obtain ⟨i0, hi, hz0, hz1, hz2⟩ := info_parts hinfo
  refine wpList_append_own w hgd s x t ho base T i0 z sz bytes ht hi hz0 hz1 hz2 hzs hsz _ l.length _ hs hown ad ys.length c (ys.flatMap enc) hx (flat_len enc sz henc ys) hc ?_ ?_ ?_ hbase ?_
  · intro u hu
    obtain ⟨y, _, hy⟩ := List.mem_flatMap.1 hu
    exact hone y u hy
  · unfold maxLen; omega
  · exact Nat.le_trans (Nat.mul_le_mul hl hby) (by omega)
  · intro v' w' hown' hgrow hnil
    have h2 : OwnL T sz enc w' base v' (l ++ ys) := by unfold OwnL; rw [List.length_append, List.flatMap_append]; exact hown'
    rcases h2.2 with ⟨e, _⟩ | ⟨g', cap', cur, e, _⟩
    · subst e
      first
        | exact absurd (hnil.1 rfl).1 (by simp)
        | exact absurd rfl hnil
        | exact absurd rfl (hnil (by simp))
    · subst e
      exact h _ _ _ _ h2 rfl hgrow (Below.grown (Below.refl _ _) hgrow hbase fun k hk => (World.ownsRow.lt hown k hk).1)
end
/-- the head of a row of one's own -/
theorem OwnL.head {α : Type} {T sz : Nat} {enc : α → List Value} (henc : ∀ x, (enc x).length = sz) {w : World} {base g n cap k : Nat} {l : List α} (h : OwnL T sz enc w base (.slice (some ⟨g, 0, none⟩) n cap) l) (hk : k ≤ n) : OwnL T sz enc w base (.slice (some ⟨g, 0, none⟩) k cap) (l.take k) := by
  obtain ⟨hl, ⟨e, _⟩ | ⟨g', cap', cur, e, hg, hb, hc, hm, hs, ht⟩⟩ := h
  · cases e
  · injection e with e1 e2 e3
    injection e1 with e1
    injection e1 with e1
    subst e1; subst e3
    have hkl : (l.take k).length = k := by rw [List.length_take]; omega
    refine ⟨flat_len enc sz henc _, .inr ⟨g, cap, cur, by rw [hkl], hg, hb, by rw [hkl]; omega, hm, hs, ?_⟩⟩
    rw [hkl]
    have hkn : k * sz ≤ l.length * sz := Nat.mul_le_mul_right _ (by omega)
    have e4 : l.flatMap enc = (l.take k).flatMap enc ++ (l.drop k).flatMap enc := by rw [← List.flatMap_append, List.take_append_drop]
    have e5 := congrArg (List.take (k * sz)) ht
    rw [List.take_take, Nat.min_eq_left hkn, e4, List.take_append_of_le_length (by rw [flat_len enc sz henc, hkl]; exact Nat.le_refl _)] at e5
    rw [e5]
    exact List.take_of_length_le (by rw [flat_len enc sz henc, hkl]; exact Nat.le_refl _)
end Go.Proofs.Ytfefclngfeihiaa
