/- Slices of one's own: kept while other blocks are written. No conditions. -/
import Derived.Test.YtlcfjeofphncgaaKp
import Derived.Laws.AppendOwn
import Derived.Outline
namespace Go.Proofs.Ytlcfjeofphncgaa
open Go.RowKit
set_option linter.unusedVariables false
set_option linter.unusedSimpArgs false

/-- a fact that holds whatever becomes of the blocks from B on -/
def KpB (B : Nat) (w : World) (P : World → Prop) : Prop := B ≤ w.heap.size ∧ ∀ w', Below B w w' → P w'
section
variable {B : Nat} {w w' : World} {P : World → Prop}
theorem KpB.here (h : KpB B w P) : P w := h.2 w (Below.refl _ _)
theorem KpB.at (h : KpB B w P) (hb : Below w.heap.size w w') : P w' := h.2 w' (hb.mono h.1)
theorem KpB.on (h : KpB B w P) (hb : Below w.heap.size w w') : KpB B w' P := ⟨Nat.le_trans h.1 hb.size, fun w'' h2 => h.2 w'' ((hb.mono h.1).trans h2)⟩
theorem KpB.alloc (h : KpB B w P) (o : Obj) : KpB B (w.alloc o) P := h.on ((Below.refl _ _).alloc (Nat.le_refl _) _)
theorem below_grown {row : Option Nat} (hg : w.grownBy w' row) (hB : B ≤ w.heap.size) (hr : ∀ k, row = some k → B ≤ k) : Below B w w' := Below.grown (Below.refl _ _) hg hB hr
theorem KpB.grown {row : Option Nat} (h : KpB B w P) (hg : w.grownBy w' row) (hr : ∀ k, row = some k → B ≤ k) : KpB B w' P :=
  ⟨Nat.le_trans h.1 hg.size, fun w'' h2 => h.2 w'' ((below_grown hg h.1 hr).trans h2)⟩
theorem Kp.fix (h : Kp w P) : KpB w.heap.size w P := ⟨Nat.le_refl _, fun _ hb => h.at hb⟩
end
attribute [irreducible] KpB
section
variable {w w' : World} {base size n : Nat} {e : TypeId} {v : Value} {xs : List Value} {row : Option Nat}
theorem own_grown (h : w.ownsRow base e size v n xs) (hg : w.grownBy w' row) (hr : ∀ k, row = some k → k < base) : w'.ownsRow base e size v n xs := by
  refine h.kept hg ?_
  cases hv : v.ownBlock with
  | none => exact .inl rfl
  | some k =>
    refine .inr fun e2 => ?_
    have h1 := (h.lt k hv).1
    have h2 := hr k e2.symm
    omega
theorem own_below (h : w.ownsRow base e size v n xs) (hb : Below w.heap.size w w') : w'.ownsRow base e size v n xs := by
  refine ⟨h.1, ?_⟩
  rcases h.2 with h0 | ⟨g, cap, cur, rfl, hg, hbl, h2⟩
  · exact .inl h0
  · exact .inr ⟨g, cap, cur, rfl, hg, (hb.block g (Array.getElem?_eq_some_iff.1 hbl).1).trans hbl, h2⟩
theorem kp_ownR (h : w.ownsRow base e size v n xs) : Kp w (fun V => V.ownsRow base e size v n xs) := Kp.mk fun _ hb => own_below h hb
theorem row_grown {g : Nat} {o : Obj} (h : w.heap[g]? = some o) (hg : w.grownBy w' row) (hr : ∀ k, row = some k → k < g) : w'.heap[g]? = some o := by
  rw [hg.block g (Array.getElem?_eq_some_iff.1 h).1 fun e2 => by have := hr g e2.symm; omega]
  exact h
theorem own_mono {base' : Nat} (h : w.ownsRow base e size v n xs) (hb : base' ≤ base) : w.ownsRow base' e size v n xs := by
  refine ⟨h.1, ?_⟩
  rcases h.2 with h0 | ⟨g, cap, cur, rfl, hg, hbl, h2⟩
  · exact .inl h0
  · exact .inr ⟨g, cap, cur, rfl, by omega, hbl, h2⟩
/-- the block that make lays is one's own -/
theorem own_blk {T g N : Nat} {f : Nat → Value} (h : BlkAt w T g N f) (hN : N = n * size) (hb : base ≤ g) (hn : n ≤ maxLen) : w.ownsRow base T size (.slice (some ⟨g, 0, none⟩) n n) n (cf N f).toList := by
  subst hN
  refine ⟨by rw [Array.length_toList, cf_size], .inr ⟨g, n, cf (n * size) f, rfl, hb, h, Nat.le_refl _, hn, cf_size _ _, ?_⟩⟩
  exact List.take_of_length_le (by rw [Array.length_toList, cf_size]; omega)
/-- the cells that marks leave -/
def mks (f : Nat → Value) (N : Nat) : List Value := (List.range N).map f
theorem mks_len (f : Nat → Value) (N : Nat) : (mks f N).length = N := by simp [mks]
theorem mks_get (f : Nat → Value) (N x : Nat) (h : x < N) : (mks f N)[x]? = some (f x) := by simp [mks, h]
/-- what a slice of one's own reads as -/
theorem own_at (h : w.ownsRow base e size v n xs) : (v = .slice none 0 0 ∧ n = 0) ∨ ∃ g c, v = .slice (some ⟨g, 0, none⟩) n c ∧ base ≤ g ∧ g < w.heap.size ∧ ∀ x, x < n * size → w.cell? ⟨g, x, none⟩ = xs[x]? := by
  obtain ⟨hl, h⟩ := h
  rcases h with h0 | ⟨g, cap, cur, rfl, hg, hb, hc, hm, hs, ht⟩
  · exact .inl h0
  · refine .inr ⟨g, cap, rfl, hg, (Array.getElem?_eq_some_iff.1 hb).1, fun x hx => ?_⟩
    rw [row_cell x hb, ← ht, List.getElem?_take, if_pos hx, Array.getElem?_toList]
theorem own_done {g cap : Nat} {cur : Array Value} {f : Nat → Value} (hg : base ≤ g) (hb : w.heap[g]? = some (.cells cur e (0, 0))) (hc : n ≤ cap) (hm : cap ≤ maxLen) (hs : cur.size = cap * size) (hx : ∀ x, x < n * size → cur[x]? = some (f x)) :
    w.ownsRow base e size (.slice (some ⟨g, 0, none⟩) n cap) n (mks f (n * size)) := by
  refine ⟨mks_len _ _, .inr ⟨g, cap, cur, rfl, hg, hb, hc, hm, hs, ?_⟩⟩
  apply List.ext_getElem?
  intro x
  rw [List.getElem?_take]
  by_cases h : x < n * size
  · rw [if_pos h, Array.getElem?_toList, hx x h, mks_get _ _ _ h]
  · rw [if_neg h, List.getElem?_eq_none (by rw [mks_len]; omega)]
end
theorem set_keep {cur : Array Value} {f : Nat → Value} {q : Nat} (h : ∀ x, x < q → cur[x]? = some (f x)) {v : Value} (hq : q < cur.size) (hv : v = f q) : ∀ x, x < q + 1 → (cur.setIfInBounds q v)[x]? = some (f x) := by
  intro x hx
  rw [Array.getElem?_setIfInBounds]
  by_cases e : q = x
  · subst e; rw [if_pos rfl, if_pos hq, hv]
  · rw [if_neg e]; exact h x (by omega)
theorem grown_set {w w' : World} {g : Nat} {row : Option Nat} (hg : w.grownBy w' row) (hr : row = some g) (k : Nat) (v : Value) : w.grownBy (w'.setCell ⟨g, k, none⟩ v) row :=
  ⟨hg.os, hg.tape, hg.output, Nat.le_trans hg.size (by simp), fun x hx hne => (heap_setCell_other w' _ x _ (fun e => hne (by rw [hr, e]))).trans (hg.block x hx hne)⟩
theorem grown_refl (w : World) (row : Option Nat) : w.grownBy w row := ⟨rfl, rfl, rfl, Nat.le_refl _, fun _ _ _ => rfl⟩
end Go.Proofs.Ytlcfjeofphncgaa
