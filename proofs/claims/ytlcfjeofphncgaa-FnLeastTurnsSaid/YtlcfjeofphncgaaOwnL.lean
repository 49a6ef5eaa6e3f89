/- Lists of structs in a slice of one's own. No conditions. -/
import Derived.Test.YtlcfjeofphncgaaOwn
import Derived.Test.YtlcfjeofphncgaaHeld
import Derived.Outline
namespace Go.Proofs.Ytlcfjeofphncgaa
open Go.RowKit
set_option linter.unusedVariables false
set_option linter.unusedSimpArgs false

section
variable {α : Type} (enc : α → List Value) (sz : Nat) (henc : ∀ x, (enc x).length = sz)
include henc
theorem flat_len (l : List α) : (l.flatMap enc).length = l.length * sz := by
  induction l with
  | nil => simp
  | cons x r ih => rw [List.flatMap_cons, List.length_append, ih, henc, List.length_cons, Nat.add_mul, Nat.one_mul, Nat.add_comm]
theorem flat_get (l : List α) (i : Nat) (x : α) (hi : l[i]? = some x) (j : Nat) (hj : j < sz) : (l.flatMap enc)[i * sz + j]? = (enc x)[j]? := by
  induction l generalizing i with
  | nil => simp at hi
  | cons y r ih =>
    rw [List.flatMap_cons]
    cases i with
    | zero =>
      simp at hi; subst hi
      rw [Nat.zero_mul, Nat.zero_add, List.getElem?_append_left (by rw [henc]; exact hj)]
    | succ i =>
      rw [List.getElem?_append_right (by rw [henc, Nat.add_mul, Nat.one_mul]; omega), henc, show (i + 1) * sz + j - sz = i * sz + j by rw [Nat.add_mul, Nat.one_mul]; omega]
      exact ih i (by simpa using hi)
/-- cells told by a function are those of a list -/
theorem flat_mks (hsz : 0 < sz) (l : List α) (f : Nat → Value) (h : ∀ i x, l[i]? = some x → ∀ j, j < sz → (enc x)[j]? = some (f (i * sz + j))) : mks f (l.length * sz) = l.flatMap enc := by
  apply List.ext_getElem?
  intro x
  by_cases hx : x < l.length * sz
  · rw [mks_get _ _ _ hx]
    have h1 : x / sz < l.length := Nat.div_lt_of_lt_mul (by rw [Nat.mul_comm]; exact hx)
    have h2 : x % sz < sz := Nat.mod_lt _ hsz
    have h3 : x / sz * sz + x % sz = x := by rw [Nat.mul_comm]; exact Nat.div_add_mod x sz
    have h4 := List.getElem?_eq_getElem h1
    rw [← h3, flat_get enc sz henc l _ _ h4 _ h2, h _ _ h4 _ h2]
  · rw [List.getElem?_eq_none (by rw [mks_len]; omega), List.getElem?_eq_none (by rw [flat_len enc sz henc]; omega)]
end
/-- the slice value v owns the list l -/
def OwnL {α : Type} (T sz : Nat) (enc : α → List Value) (w : World) (base : Nat) (v : Value) (l : List α) : Prop := w.ownsRow base T sz v l.length (l.flatMap enc)
section
variable {α : Type} {T sz : Nat} {enc : α → List Value} {w w' : World} {base : Nat} {v : Value} {l : List α}
theorem OwnL.alloc (h : OwnL T sz enc w base v l) (o : Obj) : OwnL T sz enc (w.alloc o) base v l := World.ownsRow.alloc h o
theorem OwnL.below (h : OwnL T sz enc w base v l) (hb : Below w.heap.size w w') : OwnL T sz enc w' base v l := own_below h hb
theorem OwnL.mono {base' : Nat} (h : OwnL T sz enc w base v l) (hb : base' ≤ base) : OwnL T sz enc w base' v l := own_mono h hb
theorem OwnL.nil (w : World) (base : Nat) (hb : base ≤ w.heap.size) : OwnL T sz enc (w.alloc (.cells #[] T)) base (.slice (some ⟨w.heap.size, 0, none⟩) 0 0) [] :=
  ⟨by simp, .inr ⟨w.heap.size, 0, #[], rfl, hb, heap_alloc_new w _, Nat.le_refl _, by unfold maxLen; omega, by simp, by simp⟩⟩
theorem OwnL.none0 (w : World) (base : Nat) : OwnL T sz enc w base (.slice none 0 0) [] := World.ownsRow_nil _ _ _ _
theorem OwnL.lt (h : OwnL T sz enc w base v l) : ∀ k, v.ownBlock = some k → base ≤ k ∧ k < w.heap.size := World.ownsRow.lt h
theorem kp_OwnL (h : OwnL T sz enc w base v l) : Kp w (fun V => OwnL T sz enc V base v l) := Kp.mk fun _ hb => h.below hb
theorem OwnL.form (h : OwnL T sz enc w base v l) : ∃ b c, v = .slice b l.length c := by
  rcases h.2 with ⟨rfl, h0⟩ | ⟨g, cap, cur, rfl, _⟩
  · exact ⟨none, 0, by rw [h0]⟩
  · exact ⟨_, _, rfl⟩
theorem OwnL.cells (henc : ∀ x, (enc x).length = sz) {b : Option Addr} {n c : Nat} (h : OwnL T sz enc w base (.slice b n c) l) (hn : 0 < l.length) : ∃ g, b = some ⟨g, 0, none⟩ ∧ base ≤ g ∧ g < w.heap.size ∧ ∀ i x, l[i]? = some x → ∀ j, j < sz → w.cell? ⟨g, i * sz + j, none⟩ = (enc x)[j]? := by
  rcases own_at h with ⟨e, h0⟩ | ⟨g, cap, e, hg, hlt, hc⟩
  · omega
  · injection e with e1 e2 e3
    refine ⟨g, e1, hg, hlt, fun i x hi j hj => ?_⟩
    have hil : i < l.length := (List.getElem?_eq_some_iff.1 hi).1
    have : i * sz + sz ≤ l.length * sz := by rw [← Nat.succ_mul]; exact Nat.mul_le_mul_right _ hil
    rw [hc _ (by omega), flat_get enc sz henc l i x hi j hj]
end
section
variable {α : Type} {T sz : Nat} {enc : α → List Value} {ops : Array Oper} {rest : List Oper} {o : Oper} {a : Act} {w : World} {Q : Exit → Act → World → Prop}
/-- some are appended -/
theorem append_L {t : TypeId} {z : Value} {bytes : Nat} (ht : Try.prog.underlying t = some (.slice T)) (hinfo : (Try.prog.info? T).map (fun i => (i.zero, i.size, i.bytes)) = some (some z, sz, bytes)) (hzs : z.cells.size = sz) (hsz : 0 < sz) (hby : bytes ≤ 1000)
    (henc : ∀ x, (enc x).length = sz) (hone : ∀ x, ∀ u ∈ enc x, u.oneCell' = true)
    (hgd : o.guard = none) (s x : Operand) (ho : o.op = .call { callee := .builtin .append, args := #[s, x], argTypes := #[t, t] }) (base : Nat) (v : Value) (l : List α) (hs : a.eval s = v) (hown : OwnL T sz enc w base v l)
    (ad : Addr) (m c : Nat) (ys : List α) (hm : ys.length = m) (hx : a.eval x = .slice (some ad) m c) (hc : ∀ j u, (ys.flatMap enc)[j]? = some u → w.cell? (ad.add j) = some u) (hl : l.length + m ≤ 10000000) (hbase : base ≤ w.heap.size)
    (h : ∀ v' w', OwnL T sz enc w' base v' (l ++ ys) → Below base w w' → wpList Try.prog ops Q rest (a.put o.dst v') w') : wpList Try.prog ops Q (o :: rest) a w := by
  subst hm
  obtain ⟨i0, hi, hz0, hz1, hz2⟩ := info_parts hinfo
  refine wpList_append_own w hgd s x t ho base T i0 z sz bytes ht hi hz0 hz1 hz2 hzs hsz v l.length _ hs hown ad ys.length c (ys.flatMap enc) hx (flat_len enc sz henc ys) hc ?_ ?_ ?_ hbase ?_
  · intro u hu
    obtain ⟨y, _, hy⟩ := List.mem_flatMap.1 hu
    exact hone y u hy
  · unfold maxLen; omega
  · exact Nat.le_trans (Nat.mul_le_mul hl hby) (by omega)
  · intro v' w' hown' hgrow _
    refine h v' w' ?_ (Below.grown (Below.refl _ _) hgrow hbase fun k hk => (World.ownsRow.lt hown k hk).1)
    unfold OwnL
    rw [List.length_append, List.flatMap_append]
    exact hown'
/-- the one element that was laid -/
theorem one_cells {g : Nat} {x : α} {T' : Nat} {f : Nat × Nat} (hg : w.heap[g]? = some (.cells (enc x).toArray T' f)) : ∀ j u, ([x].flatMap enc)[j]? = some u → w.cell? ((⟨g, 0, none⟩ : Addr).add j) = some u := by
  intro j u hu
  have e : (⟨g, 0, none⟩ : Addr).add j = ⟨g, j, none⟩ := by unfold Addr.add; split <;> simp_all
  rw [e, row_cell j hg]
  simpa using hu
end
section
variable {α : Type} {T sz : Nat} {enc : α → List Value} {md : Region.Mode} {ops : Array Oper} {Q : Exit → Act → World → Prop} {S : World → Prop} {fuel : Nat} {listed : Array Bool} {a : Act} {w : World}
/-- some are appended, in a region that draws -/
theorem step_append_L {t : TypeId} {z : Value} {bytes : Nat} (ht : Try.prog.underlying t = some (.slice T)) (hinfo : (Try.prog.info? T).map (fun i => (i.zero, i.size, i.bytes)) = some (some z, sz, bytes)) (hzs : z.cells.size = sz) (hsz : 0 < sz) (hby : bytes ≤ 1000)
    (henc : ∀ x, (enc x).length = sz) (hone : ∀ x, ∀ u ∈ enc x, u.oneCell' = true)
    (i : Nat) {o : Oper} (hr : Region.ready md ops listed = [i]) (hoi : ops[i]? = some o) (hw : Region.wanted o (yielded ops a.tmps) = true)
    (s x : Operand) (ho : o.op = .call { callee := .builtin .append, args := #[s, x], argTypes := #[t, t] }) (base : Nat) (v : Value) (l : List α) (hs : a.eval s = v) (hown : OwnL T sz enc w base v l)
    (ad : Addr) (m c : Nat) (ys : List α) (hm : ys.length = m) (hx : a.eval x = .slice (some ad) m c) (hc : ∀ j u, (ys.flatMap enc)[j]? = some u → w.cell? (ad.add j) = some u) (hl : l.length + m ≤ 10000000) (hbase : base ≤ w.heap.size)
    (h : ∀ v' w', OwnL T sz enc w' base v' (l ++ ys) → Below base w w' → S w' ∧ wpAnyH Try.prog md ops Q S fuel (listed.setIfInBounds i true) (a.put o.dst v') w') : wpAnyH Try.prog md ops Q S (fuel + 1) listed a w := by
  subst hm
  refine wpAnyH_ready hr (by simp) (AllReadyH.cons hoi (fun K hK => ?_) AllReadyH.nil)
  rw [if_pos hw]
  obtain ⟨i0, hi, hz0, hz1, hz2⟩ := info_parts hinfo
  refine wp_append_own w s x t ho base T i0 z sz bytes ht hi hz0 hz1 hz2 hzs hsz v l.length _ hs hown ad ys.length c (ys.flatMap enc) hx (flat_len enc sz henc ys) hc ?_ ?_ ?_ hbase ?_
  · intro u hu
    obtain ⟨y, _, hy⟩ := List.mem_flatMap.1 hu
    exact hone y u hy
  · unfold maxLen; omega
  · exact Nat.le_trans (Nat.mul_le_mul hl hby) (by omega)
  · intro v' w' hown' hgrow _
    obtain ⟨h1, h2⟩ := h v' w' (by unfold OwnL; rw [List.length_append, List.flatMap_append]; exact hown') (Below.grown (Below.refl _ _) hgrow hbase fun k hk => (World.ownsRow.lt hown k hk).1)
    exact hK.out _ _ h1 fun _ => h2
end
end Go.Proofs.Ytlcfjeofphncgaa
