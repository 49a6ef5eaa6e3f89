/- Notes are made a tune: cloned, sorted, made compact. No conditions. -/
import Derived.Shelf.SlLaysF0
import Derived.Shelf.SlLaysQ
import Derived.Test.YtfefclngfeihiaaBase
import Derived.Test.YtfefclngfeihiaaSo
import Derived.Shelf.SlSortCmp.WholeK
import Derived.Shelf.SlSortCmp.NoneTotal
import Derived.Test.YtfefclngfeihiaaTv
import Derived.Test.YtfefclngfeihiaaOwnN
import Derived.Laws.StructEq
import Derived.Laws.IdiomCopy
import Derived.Test.YtfefclngfeihiaaTu
import Derived.Outline
namespace Go.Proofs.Ytfefclngfeihiaa
open Go.RowKit
set_option linter.unusedVariables false
set_option linter.unusedSimpArgs false

/-! slices.SortFunc and slices.Equal at notes (their layings are printed by the kit's tools, by layg.py). No conditions. -/
open Go.Shelf
set_option linter.unusedVariables false
set_option linter.unusedSimpArgs false


/-! A row of structs is sorted in place: the row of one's own behind the library's sort. No conditions. -/
open Go.Shelf
set_option linter.unusedVariables false
set_option linter.unusedSimpArgs false

/-- w' is w, some draws on, with blocks behind -/
def Lays (w w' : World) : Prop := ∃ q os, w' = Go.Sort.grow (w.drewN q) os
theorem Lays.refl (w : World) : Lays w w := ⟨0, #[], by simp [World.drewN_zero]⟩
theorem Lays.drew {w w' : World} (h : Lays w w') : Lays w w'.drew := by
  obtain ⟨q, os, rfl⟩ := h
  exact ⟨q + 1, os, rfl⟩
theorem Lays.alloc {w w' : World} (h : Lays w w') (o : Obj) : Lays w (w'.alloc o) := by
  obtain ⟨q, os, rfl⟩ := h
  exact ⟨q, os ++ #[o], by rw [Go.Sort.alloc_eq_grow, Go.Sort.grow_grow]⟩
theorem Lays.trans {w w' v : World} (h : Lays w w') (h2 : Lays w' v) : Lays w v := by
  obtain ⟨q, os, rfl⟩ := h
  obtain ⟨p, ps, rfl⟩ := h2
  exact ⟨q + p, os ++ ps, by
    show Go.Sort.grow (Go.Sort.grow ((w.drewN q).drewN p) os) ps = _
    rw [Go.Sort.grow_grow, World.drewN_drewN]⟩
theorem Lays.below {w w' : World} (h : Lays w w') : Below w.heap.size w w' := by
  obtain ⟨q, os, rfl⟩ := h
  refine ⟨rfl, rfl, rfl, ?_, fun k hk => ?_⟩
  · show w.heap.size ≤ (w.heap ++ os).size
    simp
  · show (w.heap ++ os)[k]? = _
    rw [Array.getElem?_append, if_pos hk]
section
variable {α : Type} [Inhabited α] {T sz : Nat} {enc : α → List Value} (henc : ∀ x, (enc x).length = sz) {w : World} {base g n cap : Nat} {l : List α}
include henc
theorem flatK_get (d : Array α) (t : Nat) (h : t < d.size * sz) : (d.toList.flatMap enc)[t]? = some (Go.Sort.flatK enc sz d)[t]! := by
  have hsz : 0 < sz := by
    rcases Nat.eq_zero_or_pos sz with e | e
    · subst e; omega
    · exact e
  rw [Go.Sort.get_flatK _ _ _ _ h]
  have h1 : t / sz < d.size := Nat.div_lt_of_lt_mul (by rw [Nat.mul_comm]; exact h)
  have h2 : t % sz < sz := Nat.mod_lt _ hsz
  have h3 : t / sz * sz + t % sz = t := by rw [Nat.mul_comm]; exact Nat.div_add_mod t sz
  have h4 : d.toList[t / sz]? = some d[t / sz]! := by
    rw [List.getElem?_eq_getElem (by simpa using h1), getElem!_pos d _ h1]; simp
  have h5 := flat_get enc sz henc d.toList _ _ h4 _ h2
  rw [h3] at h5
  rw [h5, List.getElem?_eq_getElem (by rw [henc]; exact h2), getElem!_pos (enc d[t / sz]!) _ (by rw [henc]; exact h2)]
theorem OwnL.holdsK (h : OwnL T sz enc w base (.slice (some ⟨g, 0, none⟩) n cap) l) : Go.Sort.HoldsK enc sz w g 0 l.toArray := by
  obtain ⟨hn, hg, cur, hb, hc, hm, hs, ht⟩ := OwnL.row henc h
  intro t hlt
  rw [Go.Sort.size_flatK] at hlt
  have hlt' : t < n * sz := by rw [hn]; simpa using hlt
  have h1 := flatK_get henc l.toArray t hlt
  have h2 : l.toArray.toList = l := by simp
  rw [h2, ← ht, List.getElem?_take, if_pos hlt'] at h1
  constructor
  · rw [Nat.zero_add, row_cell t hb]
    simpa using h1
  · unfold World.frozen?
    rw [hb]
    simp
theorem OwnL.sorted (h : OwnL T sz enc w base (.slice (some ⟨g, 0, none⟩) n cap) l) {d : Array α} (hd : d.size = n) (q : Nat) (os : Array Obj) :
    OwnL T sz enc (sortWorldK enc sz w g 0 q d os) base (.slice (some ⟨g, 0, none⟩) n cap) d.toList ∧ ∀ B, B ≤ g → Below B w (sortWorldK enc sz w g 0 q d os) := by
  obtain ⟨hn, hg, cur, hb, hc, hm, hs, ht⟩ := OwnL.row henc h
  have hgl : g < w.heap.size := (Array.getElem?_eq_some_iff.1 hb).1
  have hheap : (sortWorldK enc sz w g 0 q d os).heap = (w.heap.modify g (Go.Sort.onCells (Go.Sort.putCells id 0 (Go.Sort.flatK enc sz d)))) ++ os := rfl
  have hold : ∀ j, j < w.heap.size → (sortWorldK enc sz w g 0 q d os).heap[j]? = (w.heap.modify g (Go.Sort.onCells (Go.Sort.putCells id 0 (Go.Sort.flatK enc sz d))))[j]? := by
    intro j hj
    rw [hheap, Array.getElem?_append, if_pos (by rw [Array.size_modify]; exact hj)]
  constructor
  · refine OwnL.ofRow henc (cur := Go.Sort.putCells id 0 (Go.Sort.flatK enc sz d) cur) (by simp [hd]) hg ?_ hc hm ?_ ?_
    · rw [hold g hgl, Array.getElem?_modify, if_pos rfl, hb]
      rfl
    · unfold Go.Sort.putCells; simp [hs]
    · have hcn : n * sz ≤ cap * sz := Nat.mul_le_mul_right _ hc
      apply List.ext_getElem?
      intro t
      by_cases hlt : t < n * sz
      · rw [List.getElem?_take, if_pos hlt, flatK_get henc d t (by rw [hd]; exact hlt)]
        unfold Go.Sort.putCells
        rw [Array.getElem?_toList, Array.getElem?_mapIdx, Array.getElem?_eq_getElem (by omega)]
        simp only [Option.map_some, Go.Sort.size_flatK, hd, Nat.zero_add, Nat.sub_zero, id]
        rw [if_pos ⟨Nat.zero_le _, hlt⟩]
      · rw [List.getElem?_eq_none (by rw [List.length_take]; omega), List.getElem?_eq_none (by rw [flat_len enc sz henc]; simp [hd]; omega)]
  · intro B hB
    refine ⟨rfl, rfl, rfl, ?_, fun k hk => ?_⟩
    · rw [hheap, Array.size_append, Array.size_modify]; omega
    · rw [hold k (by omega), Array.getElem?_modify, if_neg (by omega)]
end
theorem perm_of_permIn {α : Type} [Inhabited α] {d d' : Array α} (h : Go.Sort.PermIn 0 d.size d d') : d'.size = d.size ∧ d'.toList.Perm d.toList := by
  obtain ⟨h1, _, h3⟩ := h
  have e1 : d'.extract 0 d.size = d' := by rw [← h1]; exact Array.extract_size
  rw [e1, Array.extract_size] at h3
  exact ⟨h1, h3⟩

/-! Notes that stand side by side and are equal are made one, in their place. No conditions. -/

/-! Notes are made a tune: cloned, sorted, made compact. No conditions. -/
open Go.Shelf
set_option linter.unusedVariables false
set_option linter.unusedSimpArgs false

end Go.Proofs.Ytfefclngfeihiaa
