/- Slices that grow beside blocks of other types. No conditions. -/
import Derived.Test.YtfefclngfeihiaaOwnL
import Derived.Test.YtfefclngfeihiaaPins
import Derived.Outline
namespace Go.Proofs.Ytfefclngfeihiaa
open Go.RowKit
set_option linter.unusedVariables false
set_option linter.unusedSimpArgs false

section
variable {w w' : World} {base sz n : Nat} {T T2 : TypeId} {v : Value} {xs : List Value}
theorem own_type (h : w.ownsRow base T sz v n xs) {k : Nat} (hk : v.ownBlock = some k) : ∃ cur, w.heap[k]? = some (.cells cur T (0, 0)) := by
  rcases h.2 with ⟨rfl, _⟩ | ⟨g, cap, cur, rfl, hg, hb, _⟩
  · simp [Value.ownBlock] at hk
  · simp [Value.ownBlock] at hk
    subst hk
    exact ⟨cur, hb⟩
theorem own_apart (h : w.ownsRow base T sz v n xs) {x : Nat} {cs : Array Value} {T' : TypeId} {f : Nat × Nat} (hx : w.heap[x]? = some (.cells cs T' f)) (hne : T' ≠ T) : some x ≠ v.ownBlock := by
  intro e
  obtain ⟨cur, hb⟩ := own_type h e.symm
  rw [hx] at hb
  simp at hb
  exact hne hb.2.1
theorem keep_grown (h : w.ownsRow base T sz v n xs) (hg : w.grownBy w' v.ownBlock) : KeepT T T2 w w' :=
  ⟨hg.size, fun x cs T' f hx n1 _ => (hg.block x (Array.getElem?_eq_some_iff.1 hx).1 (own_apart h hx n1)).trans hx⟩
theorem own_keep {T1 T3 : TypeId} (h : w.ownsRow base T sz v n xs) (hk : KeepT T1 T3 w w') (h1 : T ≠ T1) (h3 : T ≠ T3) : w'.ownsRow base T sz v n xs := by
  refine ⟨h.1, ?_⟩
  rcases h.2 with h0 | ⟨g', cap, cur, rfl, hb, hr, h2⟩
  · exact .inl h0
  · exact .inr ⟨g', cap, cur, rfl, hb, hk.row hr h1 h3, h2⟩
theorem keep_set {T1 : TypeId} {g k : Nat} {cs : Array Value} {f : Nat × Nat} (h : w.heap[g]? = some (.cells cs T2 f)) (u : Value) : KeepT T1 T2 w (w.setCell ⟨g, k, none⟩ u) :=
  ⟨by simp, fun x cs' T' f' hx _ n2 => (heap_setCell_other w _ x _ (by rintro rfl; rw [h] at hx; simp at hx; exact n2 hx.2.1.symm)).trans hx⟩
theorem keep_set1 {T1 : TypeId} {g k : Nat} {cs : Array Value} {f : Nat × Nat} (h : w.heap[g]? = some (.cells cs T1 f)) (u : Value) : KeepT T1 T2 w (w.setCell ⟨g, k, none⟩ u) :=
  ⟨by simp, fun x cs' T' f' hx n1 _ => (heap_setCell_other w _ x _ (by rintro rfl; rw [h] at hx; simp at hx; exact n1 hx.2.1.symm)).trans hx⟩
theorem keep_alloc (T1 T2 : Nat) (w : World) (o : Obj) : KeepT T1 T2 w (w.alloc o) := KeepT.below ((Below.refl _ _).alloc (Nat.le_refl _) _)
theorem own_set (h : w.ownsRow base T sz v n xs) {g k : Nat} {cs : Array Value} {f : Nat × Nat} (hg : w.heap[g]? = some (.cells cs T2 f)) (hne : T2 ≠ T) (u : Value) : (w.setCell ⟨g, k, none⟩ u).ownsRow base T sz v n xs := by
  refine ⟨h.1, ?_⟩
  rcases h.2 with h0 | ⟨g', cap, cur, rfl, hb, hr, h2⟩
  · exact .inl h0
  · refine .inr ⟨g', cap, cur, rfl, hb, (heap_setCell_other w _ g' _ ?_).trans hr, h2⟩
    rintro rfl
    rw [hr] at hg
    simp at hg
    exact hne hg.2.1.symm
end
section
variable {α : Type} {T sz : Nat} {enc : α → List Value} {ops : Array Oper} {rest : List Oper} {o : Oper} {a : Act} {w : World} {Q : Exit → Act → World → Prop}
/-- some are appended; what the world is then, block by block -/
theorem append_Lg {t : TypeId} {z : Value} {bytes : Nat} (ht : Try.prog.underlying t = some (.slice T)) (hinfo : (Try.prog.info? T).map (fun i => (i.zero, i.size, i.bytes)) = some (some z, sz, bytes)) (hzs : z.cells.size = sz) (hsz : 0 < sz) (hby : bytes ≤ 1000)
    (henc : ∀ x, (enc x).length = sz) (hone : ∀ x, ∀ u ∈ enc x, u.oneCell' = true)
    (hgd : o.guard = none) (s x : Operand) (ho : o.op = .call { callee := .builtin .append, args := #[s, x], argTypes := #[t, t] }) (base : Nat) (v : Value) (l : List α) (hs : a.eval s = v) (hown : OwnL T sz enc w base v l)
    (ad : Addr) (m c : Nat) (ys : List α) (hm : ys.length = m) (hx : a.eval x = .slice (some ad) m c) (hc : ∀ j u, (ys.flatMap enc)[j]? = some u → w.cell? (ad.add j) = some u) (hl : l.length + m ≤ 10000000) (hbase : base ≤ w.heap.size)
    (h : ∀ v' w', OwnL T sz enc w' base v' (l ++ ys) → w.grownBy w' v.ownBlock → wpList Try.prog ops Q rest (a.put o.dst v') w') : wpList Try.prog ops Q (o :: rest) a w := by
  subst hm
  obtain ⟨i0, hi, hz0, hz1, hz2⟩ := info_parts hinfo
  refine wpList_append_own w hgd s x t ho base T i0 z sz bytes ht hi hz0 hz1 hz2 hzs hsz v l.length _ hs hown ad ys.length c (ys.flatMap enc) hx (flat_len enc sz henc ys) hc ?_ ?_ ?_ hbase ?_
  · intro u hu
    obtain ⟨y, _, hy⟩ := List.mem_flatMap.1 hu
    exact hone y u hy
  · unfold maxLen; omega
  · exact Nat.le_trans (Nat.mul_le_mul hl hby) (by omega)
  · intro v' w' hown' hgrow _
    refine h v' w' ?_ hgrow
    unfold OwnL
    rw [List.length_append, List.flatMap_append]
    exact hown'
end
end Go.Proofs.Ytfefclngfeihiaa
