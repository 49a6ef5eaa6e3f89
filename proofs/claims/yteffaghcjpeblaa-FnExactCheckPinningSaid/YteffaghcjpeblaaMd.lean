/- Notes are made a tune: cloned, sorted, made compact. No conditions. -/
import Derived.Shelf.SlLaysF0
import Derived.Shelf.SlLaysQ
import Derived.Test.YteffaghcjpeblaaBase
import Derived.Test.YteffaghcjpeblaaSo
import Derived.Shelf.SlSortCmp.WholeK
import Derived.Shelf.SlSortCmp.NoneTotal
import Derived.Test.YteffaghcjpeblaaTv
import Derived.Test.YteffaghcjpeblaaOwnN
import Derived.Laws.StructEq
import Derived.Laws.IdiomCopy
import Derived.Test.YteffaghcjpeblaaTu
import Derived.Outline
namespace Go.Proofs.Yteffaghcjpeblaa
open Go.RowKit
set_option linter.unusedVariables false
set_option linter.unusedSimpArgs false

/-! slices.SortFunc and slices.Equal at notes (their layings are printed by the kit's tools, by layg.py). No conditions. -/
open Go.Shelf
set_option linter.unusedVariables false
set_option linter.unusedSimpArgs false

def laysSortN_ren : Go.Shelf.Ren := ⟨fun | 6 => 93 | 15 => 100 | 14 => 99 | 28 => 109 | 29 => 110 | 20 => 101 | 21 => 102 | 22 => 103 | 23 => 104 | 24 => 105 | 25 => 106 | 26 => 107 | 27 => 108 | 46 => 111 | 47 => 112 | 48 => 113 | 49 => 114 | 50 => 115 | 57 => 116 | n => n, fun | 22 => 30 | 24 => 56 | 25 => 103 | 3 => 3 | 39 => 104 | 0 => 0 | 53 => 41 | 55 => 141 | 4 => 4 | 46 => 134 | 45 => 133 | 50 => 138 | 5 => 5 | 9 => 9 | 66 => 142 | 70 => 146 | 76 => 148 | 77 => 149 | n => n, fun | n => n⟩
theorem laysSortN : Go.Proofs.SlLaysF0.n6 Try.prog laysSortN_ren := {
  mixed := by kernel_rfl
  f6 := ⟨Try.f93.name, by decide, Try.func93.trans (congrArg some (by kernel_rfl))⟩
  f14 := ⟨Try.f99.name, by decide, Try.func99.trans (congrArg some (by kernel_rfl))⟩
  f15 := Try.func100.trans (congrArg some (by kernel_rfl))
  f20 := ⟨Try.f101.name, by decide, Try.func101.trans (congrArg some (by kernel_rfl))⟩
  f21 := ⟨Try.f102.name, by decide, Try.func102.trans (congrArg some (by kernel_rfl))⟩
  f22 := ⟨Try.f103.name, by decide, Try.func103.trans (congrArg some (by kernel_rfl))⟩
  f23 := ⟨Try.f104.name, by decide, Try.func104.trans (congrArg some (by kernel_rfl))⟩
  f24 := ⟨Try.f105.name, by decide, Try.func105.trans (congrArg some (by kernel_rfl))⟩
  f25 := ⟨Try.f106.name, by decide, Try.func106.trans (congrArg some (by kernel_rfl))⟩
  f26 := ⟨Try.f107.name, by decide, Try.func107.trans (congrArg some (by kernel_rfl))⟩
  f27 := ⟨Try.f108.name, by decide, Try.func108.trans (congrArg some (by kernel_rfl))⟩
  f28 := Try.func109.trans (congrArg some (by kernel_rfl))
  f29 := Try.func110.trans (congrArg some (by kernel_rfl))
  f46 := ⟨Try.f111.name, by decide, Try.func111.trans (congrArg some (by kernel_rfl))⟩
  f47 := Try.func112.trans (congrArg some (by kernel_rfl))
  f48 := Try.func113.trans (congrArg some (by kernel_rfl))
  f49 := ⟨Try.f114.name, by decide, Try.func114.trans (congrArg some (by kernel_rfl))⟩
  f50 := ⟨Try.f115.name, by decide, Try.func115.trans (congrArg some (by kernel_rfl))⟩
  f57 := ⟨Try.f116.name, by decide, Try.func116.trans (congrArg some (by kernel_rfl))⟩
  t0 := Try.underlying0
  a0 := Try.isAgg0
  z0 := Try.sizeOf0
  v0 := Try.zeroValue0
  t3 := Try.underlying3
  a3 := Try.isAgg3
  z3 := Try.sizeOf3
  v3 := Try.zeroValue3
  t4 := Try.underlying4
  a4 := Try.isAgg4
  z4 := Try.sizeOf4
  v4 := Try.zeroValue4
  t5 := Try.underlying5
  a5 := Try.isAgg5
  z5 := Try.sizeOf5
  v5 := Try.zeroValue5
  t9 := Try.underlying9
  a9 := Try.isAgg9
  z9 := Try.sizeOf9
  v9 := Try.zeroValue9
  t22 := Try.underlying30
  a22 := Try.isAgg30
  z22 := Try.sizeOf30
  v22 := Try.zeroValue30
  t25 := Try.underlying103
  a25 := Try.isAgg103
  z25 := Try.sizeOf103
  v25 := Try.zeroValue103
  t39 := Try.underlying104
  a39 := Try.isAgg104
  z39 := Try.sizeOf104
  v39 := Try.zeroValue104
  t45 := Try.underlying133
  a45 := Try.isAgg133
  z45 := Try.sizeOf133
  v45 := Try.zeroValue133
  t46 := Try.underlying134
  a46 := Try.isAgg134
  z46 := Try.sizeOf134
  v46 := Try.zeroValue134
  t50 := Try.underlying138
  a50 := Try.isAgg138
  z50 := Try.sizeOf138
  v50 := Try.zeroValue138
  t53 := Try.underlying41
  a53 := Try.isAgg41
  z53 := Try.sizeOf41
  v53 := Try.zeroValue41
  t55 := Try.underlying141
  a55 := Try.isAgg141
  z55 := Try.sizeOf141
  v55 := Try.zeroValue141
  t66 := Try.underlying142
  a66 := Try.isAgg142
  z66 := Try.sizeOf142
  v66 := Try.zeroValue142
  t70 := Try.underlying146
  a70 := Try.isAgg146
  z70 := Try.sizeOf146
  v70 := Try.zeroValue146
  t76 := Try.underlying148
  a76 := Try.isAgg148
  z76 := Try.sizeOf148
  v76 := Try.zeroValue148
  t77 := Try.underlying149
  a77 := Try.isAgg149
  z77 := Try.sizeOf149
  v77 := Try.zeroValue149 }
def laysEqualN_ren : Go.Shelf.Ren := ⟨fun | 8 => 63 | n => n, fun | 22 => 31 | 24 => 56 | 4 => 4 | 3 => 3 | 0 => 0 | n => n, fun | n => n⟩
theorem laysEqualN : Go.Proofs.SlLaysQ.n8 Try.prog laysEqualN_ren := {
  mixed := by kernel_rfl
  f8 := ⟨Try.f63.name, by decide, Try.func63.trans (congrArg some (by kernel_rfl))⟩
  t0 := Try.underlying0
  a0 := Try.isAgg0
  z0 := Try.sizeOf0
  v0 := Try.zeroValue0
  t3 := Try.underlying3
  a3 := Try.isAgg3
  z3 := Try.sizeOf3
  v3 := Try.zeroValue3
  t4 := Try.underlying4
  a4 := Try.isAgg4
  z4 := Try.sizeOf4
  v4 := Try.zeroValue4
  t22 := Try.underlying31
  a22 := Try.isAgg31
  z22 := Try.sizeOf31
  v22 := Try.zeroValue31 }

/-! A row of structs is sorted in place: the row of one's own behind the library's sort. No conditions. -/
open Go.Shelf
set_option linter.unusedVariables false
set_option linter.unusedSimpArgs false

/-- w' is w, some draws on, with blocks behind -/
def Lays (w w' : World) : Prop := ∃ q os, w' = Go.Sort.grow (w.drewN q) os
theorem Lays.refl (w : World) : Lays w w := ⟨0, #[], by simp [World.drewN_zero]⟩
theorem Lays.drew {w w' : World} (h : Lays w w') : Lays w w'.drew := by
  obtain ⟨q, os, rfl⟩ := h
  exact ⟨q + 1, os, rfl⟩
theorem Lays.alloc {w w' : World} (h : Lays w w') (o : Obj) : Lays w (w'.alloc o) := by
  obtain ⟨q, os, rfl⟩ := h
  exact ⟨q, os ++ #[o], by rw [Go.Sort.alloc_eq_grow, Go.Sort.grow_grow]⟩
theorem Lays.trans {w w' v : World} (h : Lays w w') (h2 : Lays w' v) : Lays w v := by
  obtain ⟨q, os, rfl⟩ := h
  obtain ⟨p, ps, rfl⟩ := h2
  exact ⟨q + p, os ++ ps, by
    show Go.Sort.grow (Go.Sort.grow ((w.drewN q).drewN p) os) ps = _
    rw [Go.Sort.grow_grow, World.drewN_drewN]⟩
theorem Lays.below {w w' : World} (h : Lays w w') : Below w.heap.size w w' := by
  obtain ⟨q, os, rfl⟩ := h
  refine ⟨rfl, rfl, rfl, ?_, fun k hk => ?_⟩
  · show w.heap.size ≤ (w.heap ++ os).size
    simp
  · show (w.heap ++ os)[k]? = _
    rw [Array.getElem?_append, if_pos hk]
section
variable {α : Type} [Inhabited α] {T sz : Nat} {enc : α → List Value} (henc : ∀ x, (enc x).length = sz) {w : World} {base g n cap : Nat} {l : List α}
include henc
theorem flatK_get (d : Array α) (t : Nat) (h : t < d.size * sz) : (d.toList.flatMap enc)[t]? = some (Go.Sort.flatK enc sz d)[t]! := by
  have hsz : 0 < sz := by
    rcases Nat.eq_zero_or_pos sz with e | e
    · subst e; omega
    · exact e
  rw [Go.Sort.get_flatK _ _ _ _ h]
  have h1 : t / sz < d.size := Nat.div_lt_of_lt_mul (by rw [Nat.mul_comm]; exact h)
  have h2 : t % sz < sz := Nat.mod_lt _ hsz
  have h3 : t / sz * sz + t % sz = t := by rw [Nat.mul_comm]; exact Nat.div_add_mod t sz
  have h4 : d.toList[t / sz]? = some d[t / sz]! := by
    rw [List.getElem?_eq_getElem (by simpa using h1), getElem!_pos d _ h1]; simp
  have h5 := flat_get enc sz henc d.toList _ _ h4 _ h2
  rw [h3] at h5
  rw [h5, List.getElem?_eq_getElem (by rw [henc]; exact h2), getElem!_pos (enc d[t / sz]!) _ (by rw [henc]; exact h2)]
theorem OwnL.holdsK (h : OwnL T sz enc w base (.slice (some ⟨g, 0, none⟩) n cap) l) : Go.Sort.HoldsK enc sz w g 0 l.toArray := by
  obtain ⟨hn, hg, cur, hb, hc, hm, hs, ht⟩ := OwnL.row henc h
  intro t hlt
  rw [Go.Sort.size_flatK] at hlt
  have hlt' : t < n * sz := by rw [hn]; simpa using hlt
  have h1 := flatK_get henc l.toArray t hlt
  have h2 : l.toArray.toList = l := by simp
  rw [h2, ← ht, List.getElem?_take, if_pos hlt'] at h1
  constructor
  · rw [Nat.zero_add, row_cell t hb]
    simpa using h1
  · unfold World.frozen?
    rw [hb]
    simp
theorem OwnL.sorted (h : OwnL T sz enc w base (.slice (some ⟨g, 0, none⟩) n cap) l) {d : Array α} (hd : d.size = n) (q : Nat) (os : Array Obj) :
    OwnL T sz enc (sortWorldK enc sz w g 0 q d os) base (.slice (some ⟨g, 0, none⟩) n cap) d.toList ∧ ∀ B, B ≤ g → Below B w (sortWorldK enc sz w g 0 q d os) := by
  obtain ⟨hn, hg, cur, hb, hc, hm, hs, ht⟩ := OwnL.row henc h
  have hgl : g < w.heap.size := (Array.getElem?_eq_some_iff.1 hb).1
  have hheap : (sortWorldK enc sz w g 0 q d os).heap = (w.heap.modify g (Go.Sort.onCells (Go.Sort.putCells id 0 (Go.Sort.flatK enc sz d)))) ++ os := rfl
  have hold : ∀ j, j < w.heap.size → (sortWorldK enc sz w g 0 q d os).heap[j]? = (w.heap.modify g (Go.Sort.onCells (Go.Sort.putCells id 0 (Go.Sort.flatK enc sz d))))[j]? := by
    intro j hj
    rw [hheap, Array.getElem?_append, if_pos (by rw [Array.size_modify]; exact hj)]
  constructor
  · refine OwnL.ofRow henc (cur := Go.Sort.putCells id 0 (Go.Sort.flatK enc sz d) cur) (by simp [hd]) hg ?_ hc hm ?_ ?_
    · rw [hold g hgl, Array.getElem?_modify, if_pos rfl, hb]
      rfl
    · unfold Go.Sort.putCells; simp [hs]
    · have hcn : n * sz ≤ cap * sz := Nat.mul_le_mul_right _ hc
      apply List.ext_getElem?
      intro t
      by_cases hlt : t < n * sz
      · rw [List.getElem?_take, if_pos hlt, flatK_get henc d t (by rw [hd]; exact hlt)]
        unfold Go.Sort.putCells
        rw [Array.getElem?_toList, Array.getElem?_mapIdx, Array.getElem?_eq_getElem (by omega)]
        simp only [Option.map_some, Go.Sort.size_flatK, hd, Nat.zero_add, Nat.sub_zero, id]
        rw [if_pos ⟨Nat.zero_le _, hlt⟩]
      · rw [List.getElem?_eq_none (by rw [List.length_take]; omega), List.getElem?_eq_none (by rw [flat_len enc sz henc]; simp [hd]; omega)]
  · intro B hB
    refine ⟨rfl, rfl, rfl, ?_, fun k hk => ?_⟩
    · rw [hheap, Array.size_append, Array.size_modify]; omega
    · rw [hold k (by omega), Array.getElem?_modify, if_neg (by omega)]
end
theorem perm_of_permIn {α : Type} [Inhabited α] {d d' : Array α} (h : Go.Sort.PermIn 0 d.size d d') : d'.size = d.size ∧ d'.toList.Perm d.toList := by
  obtain ⟨h1, _, h3⟩ := h
  have e1 : d'.extract 0 d.size = d' := by rw [← h1]; exact Array.extract_size
  rw [e1, Array.extract_size] at h3
  exact ⟨h1, h3⟩

/-! Notes that stand side by side and are equal are made one, in their place. No conditions. -/
theorem eql_note (x y : Int × Int) (w : World) : (binOp .eql 56 (.agg #[.int .i16 x.1, .int .i8 x.2]) (.agg #[.int .i16 y.1, .int .i8 y.2])).run Try.prog w = .ok (.bool (decide (x = y))) w := by
  have u1 := Try.underlying24
  have u2 := Try.underlying53
  have hS : Try.prog.underlying 56 = some (.struct (Try.prog.fieldsOf 56)) := by kernel_rfl
  have hp : Try.prog.stoodInHeld 56 = false := by kernel_rfl
  rw [run_eql_struct, show (10000 : Nat) = 9999 + 1 from rfl, run_equalIn_agg w 9999 56 _ _ hS hp]
  simp only [Program.fieldsOf, Try.underlying56]
  go_simp
  obtain ⟨x1, x2⟩ := x; obtain ⟨y1, y2⟩ := y
  by_cases h1 : x1 = y1 <;> by_cases h2 : x2 = y2 <;> simp [h1, h2]
theorem neq_note (x y : Int × Int) (w : World) : (binOp .neq 56 (.agg #[.int .i16 x.1, .int .i8 x.2]) (.agg #[.int .i16 y.1, .int .i8 y.2])).run Try.prog w = .ok (.bool (!decide (x = y))) w := by
  have u1 := Try.underlying24
  have u2 := Try.underlying53
  have hS : Try.prog.underlying 56 = some (.struct (Try.prog.fieldsOf 56)) := by kernel_rfl
  have hp : Try.prog.stoodInHeld 56 = false := by kernel_rfl
  rw [run_neq_struct, show (10000 : Nat) = 9999 + 1 from rfl, run_equalIn_agg w 9999 56 _ _ hS hp]
  simp only [Program.fieldsOf, Try.underlying56]
  go_simp
  obtain ⟨x1, x2⟩ := x; obtain ⟨y1, y2⟩ := y
  by_cases h1 : x1 = y1 <;> by_cases h2 : x2 = y2 <;> simp [h1, h2]
theorem guard_note : Try.prog.eqGuardType Try.prog.depth 56 = false := by kernel_rfl
theorem grown_dr {w w' : World} {row : Option Nat} (h : w.grownBy w' row) : w.grownBy w'.drew row := ⟨h.os, h.tape, h.output, h.size, h.block⟩
/-- a row of notes at the head of the block g -/
def NtRow (w : World) (g cap : Nat) (d : Array (Int × Int)) : Prop :=
  ∃ cur : Array Value, w.heap[g]? = some (.cells cur 56 (0, 0)) ∧ cur.size = cap * 2 ∧ cap ≤ maxLen ∧ d.size ≤ cap ∧ ∀ i, i < d.size → cur[i * 2]? = some (.int .i16 d[i]!.1) ∧ cur[i * 2 + 1]? = some (.int .i8 d[i]!.2)
theorem NtRow.drew {w : World} {g cap : Nat} {d : Array (Int × Int)} (h : NtRow w g cap d) : NtRow w.drew g cap d := h
theorem NtRow.below {w w' : World} {g cap : Nat} {d : Array (Int × Int)} (h : NtRow w g cap d) (hb : Below w.heap.size w w') : NtRow w' g cap d := by
  obtain ⟨cur, h1, h2⟩ := h
  exact ⟨cur, (hb.block g (Array.getElem?_eq_some_iff.1 h1).1).trans h1, h2⟩
theorem kp_ntRow {w : World} {g cap : Nat} {d : Array (Int × Int)} (h : NtRow w g cap d) : Kp w (fun V => NtRow V g cap d) := Kp.mk fun _ hb => h.below hb
theorem NtRow.cell {w : World} {g cap : Nat} {d : Array (Int × Int)} (h : NtRow w g cap d) {i : Nat} (hi : i < d.size) : w.cell? ⟨g, i * 2, none⟩ = some (.int .i16 d[i]!.1) ∧ w.cell? ⟨g, i * 2 + 1, none⟩ = some (.int .i8 d[i]!.2) := by
  obtain ⟨cur, h1, _, _, _, h2⟩ := h
  exact ⟨(row_cell _ h1).trans (h2 i hi).1, (row_cell _ h1).trans (h2 i hi).2⟩
theorem NtRow.own {w : World} {g cap base m : Nat} {d : Array (Int × Int)} {l : List (Int × Int)} (h : NtRow w g cap d) (hb : base ≤ g) (hm : m = l.length) (hmd : m ≤ d.size) (hl : ∀ i, i < m → l[i]? = some d[i]!) : OwnN w base (.slice (some ⟨g, 0, none⟩) m cap) l := by
  obtain ⟨cur, h1, h2, h3, h4, h5⟩ := h
  refine OwnL.ofRow encN_len hm hb h1 (by omega) h3 h2 ?_
  apply List.ext_getElem?
  intro t
  by_cases ht : t < m * 2
  · rw [List.getElem?_take, if_pos ht]
    have e1 : t / 2 < m := by omega
    have e2 : t / 2 * 2 + t % 2 = t := by omega
    have h6 := flat_get encN 2 encN_len l _ _ (hl _ e1) (t % 2) (by omega)
    rw [e2] at h6
    rw [h6, Array.getElem?_toList]
    have h7 := h5 (t / 2) (by omega)
    obtain h8 | h8 : t % 2 = 0 ∨ t % 2 = 1 := by omega
    · rw [h8]; rw [show t = t / 2 * 2 by omega, h7.1]; simp [encN, show t / 2 * 2 / 2 = t / 2 by omega]
    · rw [h8]; rw [show t = t / 2 * 2 + 1 by omega, h7.2]; simp [encN, show (t / 2 * 2 + 1) / 2 = t / 2 by omega]
  · rw [List.getElem?_eq_none (by rw [List.length_take]; omega), List.getElem?_eq_none (by rw [flat_len encN 2 encN_len]; omega)]
theorem OwnN.row {w : World} {g cap base n : Nat} {l : List (Int × Int)} (h : OwnN w base (.slice (some ⟨g, 0, none⟩) n cap) l) : NtRow w g cap l.toArray ∧ base ≤ g ∧ n = l.length := by
  obtain ⟨hn, hg, cur, hb, hc, hm, hs, ht⟩ := OwnL.row encN_len h
  refine ⟨⟨cur, hb, hs, hm, by simpa [← hn] using hc, fun i hi => ?_⟩, hg, hn⟩
  have hi' : i < l.length := by simpa using hi
  have e : l[i]? = some l.toArray[i]! := by rw [List.getElem?_eq_getElem hi', getElem!_pos l.toArray i hi]; simp
  have h1 := flat_get encN 2 encN_len l i _ e 0 (by omega)
  have h2 := flat_get encN 2 encN_len l i _ e 1 (by omega)
  rw [← ht, List.getElem?_take, if_pos (by omega), Array.getElem?_toList] at h1 h2
  exact ⟨h1, h2⟩
/-- a note is stored -/
theorem NtRow.set {w : World} {g cap : Nat} {d : Array (Int × Int)} (h : NtRow w g cap d) {k : Nat} (hk : k < d.size) (x : Int × Int) : NtRow ((w.setCell ⟨g, k * 2, none⟩ (.int .i16 x.1)).setCell ⟨g, k * 2 + 1, none⟩ (.int .i8 x.2)) g cap (d.setIfInBounds k x) := by
  obtain ⟨cur, h1, h2, h3, h4, h5⟩ := h
  have s0 := heap_setCell_same w g (k * 2) _ _ (.int .i16 x.1) h1
  have s1 := heap_setCell_same _ g (k * 2 + 1) _ _ (.int .i8 x.2) s0
  refine ⟨_, s1, by simpa using h2, h3, by simpa using h4, fun i hi => ?_⟩
  have hi' : i < d.size := by simpa using hi
  simp only [Array.getElem?_setIfInBounds, Array.size_setIfInBounds]
  by_cases e : i = k
  · subst e
    rw [Go.Sort.getElem!_set_same d i x hi', if_neg (by omega), if_pos rfl, if_pos (by omega), if_pos rfl, if_pos (by omega)]
    exact ⟨rfl, rfl⟩
  · rw [Go.Sort.getElem!_set_other d k i x e, if_neg (by omega), if_neg (by omega), if_neg (by omega), if_neg (by omega)]
    exact h5 i hi'
theorem heap_setCells_same (w : World) (g : Nat) (T : Nat) : ∀ (vs : List Value) (o : Nat) (cur : Array Value), w.heap[g]? = some (.cells cur T (0, 0)) → ∃ cur' : Array Value, (w.setCells g o vs).heap[g]? = some (.cells cur' T (0, 0)) ∧ cur'.size = cur.size ∧ ∀ i, i < o → cur'[i]? = cur[i]? := by
  intro vs
  induction vs generalizing w with
  | nil => intro o cur h; exact ⟨cur, h, rfl, fun _ _ => rfl⟩
  | cons v vs ih =>
    intro o cur h
    obtain ⟨cur', h1, h2, h3⟩ := ih (w.setCell ⟨g, o, none⟩ v) (o + 1) _ (heap_setCell_same w g o _ _ v h)
    refine ⟨cur', h1, by rw [h2, Array.size_setIfInBounds], fun i hi => ?_⟩
    rw [h3 i (by omega), Array.getElem?_setIfInBounds, if_neg (by omega)]
theorem grown_sets {w w' : World} {row : Option Nat} {g : Nat} (h : w.grownBy w' row) (hr : row = some g) : ∀ (vs : List Value) (o : Nat), w.grownBy (w'.setCells g o vs) row := by
  intro vs
  induction vs generalizing w' with
  | nil => intro o; exact h
  | cons v vs ih => intro o; exact ih (grown_set h hr o v) (o + 1)
/-- what lies from the place k on is wiped out -/
theorem NtRow.clear {w : World} {g cap : Nat} {d : Array (Int × Int)} (h : NtRow w g cap d) {k : Nat} (hk : k ≤ d.size) (vs : List Value) : NtRow (w.setCells g (k * 2) vs) g cap (d.extract 0 k) := by
  obtain ⟨cur, h1, h2, h3, h4, h5⟩ := h
  obtain ⟨cur', h6, h7, h8⟩ := heap_setCells_same w g _ vs (k * 2) cur h1
  refine ⟨cur', h6, by omega, h3, by simp; omega, fun i hi => ?_⟩
  have hi' : i < k := by simp at hi; omega
  have e : (d.extract 0 k)[i]! = d[i]! := by
    rw [getElem!_pos (d.extract 0 k) i hi, getElem!_pos d i (by omega)]
    simp
  rw [e, h8 _ (by omega), h8 _ (by omega)]
  exact h5 i (by omega)
theorem run_clear_notes (w : World) (ty : TypeId) (g n c cap : Nat) (k : Nat) (d : Array (Int × Int)) (hn : 0 < n) (h : NtRow w g cap d) (hk : k + n = d.size) :
    ∃ vs, (Builtin.clear_ #[30] ty #[.slice (some ⟨g, k * 2, none⟩) n c]).run Try.prog w = .ok (.tuple #[]) (w.setCells g (k * 2) vs) := by
  have h0 := h
  obtain ⟨cur, h1, h2, h3, h4, h5⟩ := h
  have hlen : (Builtin.zeroCells (Value.agg #[.int .i16 0, .int .i8 0]).cells n).toList.length = n * 2 := by simp [Builtin.zeroCells, Value.cells]
  have hone : ∀ v ∈ (Builtin.zeroCells (Value.agg #[.int .i16 0, .int .i8 0]).cells n).toList, v.oneCell' = true := by
    intro v hv
    simp only [Builtin.zeroCells, Value.cells, Array.toList_map, List.mem_map] at hv
    obtain ⟨i, _, rfl⟩ := hv
    have : i % 2 = 0 ∨ i % 2 = 1 := by omega
    rcases this with e | e <;> simp [e, Value.oneCell']
  have hst := run_storeCells_cells (P := Try.prog) g (k * 2) (Builtin.zeroCells (Value.agg #[.int .i16 0, .int .i8 0]).cells n).toList 0 w
    (fun j hj => by rw [row_cell _ h1, Array.getElem?_eq_getElem (by omega)]; rfl) (fun j hj => by have := frozen_of_row w g (k * 2 + 0 + j) _ _ h1; exact this) hone
  rw [Nat.add_zero] at hst
  refine ⟨(Builtin.zeroCells (Value.agg #[.int .i16 0, .int .i8 0]).cells n).toList, ?_⟩
  have hv := Try.zeroValue56
  obtain ⟨m, rfl⟩ : ∃ m, n = m + 1 := ⟨n - 1, by omega⟩
  simp [Builtin.clear_, run_underlying Try.underlying30, hv, hst]
  all_goals rfl
theorem compact_same (d : Array (Int × Int)) (h : ∀ j, j < d.size → Lib.keeps d j = true) : Lib.compactUpTo d d.size = d.toList := by rw [Lib.compactUpTo_all d _ h, Lib.range_map_get]
theorem toList_at (d : Array (Int × Int)) (i : Nat) (hi : i < d.toList.length) : d.toList[i]? = some d[i]! := by
  have hi' : i < d.size := by simpa using hi
  rw [List.getElem?_eq_getElem hi, getElem!_pos d i hi']; simp
set_option maxRecDepth 100000 in
set_option maxHeartbeats 2000000 in
theorem compactNote_any (g cap n : Nat) (d : Array (Int × Int)) (w : World) (hnd : d.size = n) (hn : n ≤ 1048576) (hh : NtRow w g cap d) :
    Calls Try.prog 94 #[.slice (some ⟨g, 0, none⟩) n cap] w fun e w' => e = .returned (.slice (some ⟨g, 0, none⟩) (Lib.compactUpTo d n).length cap) ∧ w.grownBy w' (some g) ∧
      ∃ dk, NtRow w' g cap dk ∧ (Lib.compactUpTo d n).length ≤ dk.size ∧ ∀ i, i < (Lib.compactUpTo d n).length → (Lib.compactUpTo d n)[i]? = some dk[i]! := by
  have H0 := Lib.hid hh; clear hh
  have HND := Lib.hid hnd
  have HS := Lib.hid (show (∀ j, j < n → Lib.keeps d j = true) → Lib.compactUpTo d n = d.toList ∧ (Lib.compactUpTo d n).length = n from fun h => by subst hnd; have := compact_same d h; exact ⟨this, by rw [this]; simp⟩)
  have hcap : n ≤ cap := by obtain ⟨cur, _, _, _, h, _⟩ := H0.out; omega
  clear hnd
  by_cases h2 : n < 2
  · have h2' : (n : Int) < 2 := by omega
    go_enter Try.func94, Try.ntmps94
    go_wp2
    go_ret
    obtain ⟨e1, e2⟩ := HS.out fun j hj => Lib.keeps_lt_one d j (by omega)
    refine ⟨by rw [e2]; rfl, grown_refl _ _, d, H0.out, by rw [e2, HND.out]; exact Nat.le_refl _, fun i hi => ?_⟩
    rw [e1] at hi ⊢
    exact toList_at d i hi
  · go_enter Try.func94, Try.ntmps94
    go_wp2
    go_loopw [3] (fun i w' => w.grownBy w' (some g) ∧ NtRow w' g cap d ∧ ∃ k : Nat, 1 ≤ k ∧ k ≤ n ∧ i = .int .i64 k ∧ ∀ j, j < k → Lib.keeps d j = true) (fun i _ => n - (intOf i).toNat)
    case atStart => exact ⟨grown_refl _ _, H0.out, 1, by omega, by omega, rfl, fun j hj => Lib.keeps_lt_one d j hj⟩
    case round =>
      clear H0
      obtain ⟨hgr, hrow, k, hk1, hk, rfl, hall⟩ := hrel
      have HG := Lib.hid hgr; have HR := Lib.hid hrow; have HA := Lib.hid hall; clear hgr hrow hall
      by_cases hlt : k < n
      · have hlt' : (k : Int) < n := by omega
        obtain ⟨p, rfl⟩ : ∃ p, k = p + 1 := ⟨k - 1, by omega⟩
        have hgl : g < wr.heap.size := by obtain ⟨cur, h, _⟩ := HR.out; exact (Array.getElem?_eq_some_iff.1 h).1
        obtain ⟨x, hx⟩ : ∃ x, d[p + 1]! = x := ⟨_, rfl⟩
        obtain ⟨y, hy⟩ : ∃ y, d[p]! = y := ⟨_, rfl⟩
        have c1 := HR.out.cell (i := p + 1) (by rw [HND.out]; omega)
        have c0 := HR.out.cell (i := p) (by rw [HND.out]; omega)
        rw [hx] at c1; rw [hy] at c0
        have HXY := Lib.hid (show d[p + 1]! = x ∧ d[p + 1 - 1]! = y from ⟨hx, by rw [Nat.add_sub_cancel]; exact hy⟩)
        clear hx hy
        have KX0 := kp_cell c1.1 hgl; have KX1 := kp_cell c1.2 hgl; have KY0 := kp_cell c0.1 hgl; have KY1 := kp_cell c0.2 hgl
        clear c0 c1
        have q1 : IntKind.i64.wrap (((p + 1 : Nat) : Int) - 1) = p := by rw [i64_id (by omega)]; omega
        have q2 : ((p : Int) < n) := by omega
        have heq := eql_note x y
        have hgd := guard_note
        go_wp2
        obtain ⟨W, rfl⟩ : ∃ U, U = wr := ⟨wr, rfl⟩
        have hS0 := below_drew W
        refine wp_region_S (fun V => Below W.heap.size W V) (by kernel_rfl) hS0 ?_
        refine take_val 0 (.slice (some ⟨g, 0, none⟩) n cap) rfl (by kernel_rfl) (by kernel_rfl) (by kernel_rfl) (fun _ _ _ h => h) rfl (fun V hV => by simp [go_sem]) hS0 ?_
        simp only [List.getElem_toArray, List.getElem_cons_zero, List.getElem_cons_succ, Act.put, List.setIfInBounds_toArray, List.set_cons_zero, List.set_cons_succ]
        refine take_val 1 (.int .i64 ((p + 1 : Nat) : Int)) rfl (by kernel_rfl) (by kernel_rfl) (by kernel_rfl) (fun _ _ _ h => h) rfl (fun V hV => by simp [go_sem]) hS0 ?_
        simp only [List.getElem_toArray, List.getElem_cons_zero, List.getElem_cons_succ, Act.put, List.setIfInBounds_toArray, List.set_cons_zero, List.set_cons_succ]
        refine take_val 2 (.pointer (some ⟨g, (p + 1) * 2, none⟩)) rfl (by kernel_rfl) (by kernel_rfl) (by kernel_rfl) (fun _ _ _ h => h) rfl (fun V hV => by have h9 : ((p : Int) + 1).toNat = p + 1 := (by omega); simp [go_sem, h9]; intro h; omega) hS0 ?_
        simp only [List.getElem_toArray, List.getElem_cons_zero, List.getElem_cons_succ, Act.put, List.setIfInBounds_toArray, List.set_cons_zero, List.set_cons_succ]
        refine take_val 3 (.agg #[.int .i16 x.1, .int .i8 x.2]) rfl (by kernel_rfl) (by kernel_rfl) (by kernel_rfl) (fun _ _ _ h => h) rfl (fun V hV => by have c0 := KX0.at hV; have c1 := KX1.at hV; simp [go_sem, c0, c1]) hS0 ?_
        simp only [List.getElem_toArray, List.getElem_cons_zero, List.getElem_cons_succ, Act.put, List.setIfInBounds_toArray, List.set_cons_zero, List.set_cons_succ]
        refine take_val 4 (.slice (some ⟨g, 0, none⟩) n cap) rfl (by kernel_rfl) (by kernel_rfl) (by kernel_rfl) (fun _ _ _ h => h) rfl (fun V hV => by simp [go_sem]) hS0 ?_
        simp only [List.getElem_toArray, List.getElem_cons_zero, List.getElem_cons_succ, Act.put, List.setIfInBounds_toArray, List.set_cons_zero, List.set_cons_succ]
        refine take_val 5 (.int .i64 ((p + 1 : Nat) : Int)) rfl (by kernel_rfl) (by kernel_rfl) (by kernel_rfl) (fun _ _ _ h => h) rfl (fun V hV => by simp [go_sem]) hS0 ?_
        simp only [List.getElem_toArray, List.getElem_cons_zero, List.getElem_cons_succ, Act.put, List.setIfInBounds_toArray, List.set_cons_zero, List.set_cons_succ]
        refine take_val 6 (.int .i64 (p : Int)) rfl (by kernel_rfl) (by kernel_rfl) (by kernel_rfl) (fun _ _ _ h => h) rfl (fun V hV => by have := i64_id (x := (p : Int)) (by omega); simp [go_sem, this]) hS0 ?_
        simp only [List.getElem_toArray, List.getElem_cons_zero, List.getElem_cons_succ, Act.put, List.setIfInBounds_toArray, List.set_cons_zero, List.set_cons_succ]
        refine take_val 7 (.pointer (some ⟨g, p * 2, none⟩)) rfl (by kernel_rfl) (by kernel_rfl) (by kernel_rfl) (fun _ _ _ h => h) rfl (fun V hV => by simp [go_sem]; intro h; omega) hS0 ?_
        simp only [List.getElem_toArray, List.getElem_cons_zero, List.getElem_cons_succ, Act.put, List.setIfInBounds_toArray, List.set_cons_zero, List.set_cons_succ]
        refine take_val 8 (.agg #[.int .i16 y.1, .int .i8 y.2]) rfl (by kernel_rfl) (by kernel_rfl) (by kernel_rfl) (fun _ _ _ h => h) rfl (fun V hV => by have c0 := KY0.at hV; have c1 := KY1.at hV; simp [go_sem, c0, c1]) hS0 ?_
        simp only [List.getElem_toArray, List.getElem_cons_zero, List.getElem_cons_succ, Act.put, List.setIfInBounds_toArray, List.set_cons_zero, List.set_cons_succ]
        refine take_val 9 (.bool (decide (x = y))) rfl (by kernel_rfl) (by kernel_rfl) (by kernel_rfl) (fun _ _ _ h => h) rfl (fun V hV => by simp [go_sem, heq, hgd]) hS0 ?_
        simp only [List.getElem_toArray, List.getElem_cons_zero, List.getElem_cons_succ, Act.put, List.setIfInBounds_toArray, List.set_cons_zero, List.set_cons_succ]
        refine wpAnyH_done (by kernel_rfl) ?_ _
        have HG1 := Lib.hid (grown_dr HG.out); have HR1 := Lib.hid HR.out.drew
        clear hS0 KX0 KX1 KY0 KY1 HG HR
        generalize W.drew = W1 at HG1 HR1 ⊢
        by_cases hdup : x = y
        · subst hdup
          have q3 : decide (x = x) = true := by simp
          rw [q3]
          have hst := Lib.hid (Lib.CompInv.start HA.out (Lib.keeps_neg (d := d) (m := p + 1) (by omega) (by rw [HXY.out.1, HXY.out.2])))
          have q4 : (n : Int) - ((p + 1 : Nat) : Int) = ((n - (p + 1) : Nat) : Int) := by omega
          have q5 : (cap : Int) - ((p + 1 : Nat) : Int) = ((cap - (p + 1) : Nat) : Int) := by omega
          have q6 : ((p + 1 : Nat) : Int) ≤ n := by omega
          have q7 : ((p + 1 : Nat) : Int) ≤ cap := by omega
          clear heq q3
          go_wp2
          clear q4 q5 q6 q7 hlt hlt'
          go_loopw [3, 5] (fun i j w' => w.grownBy w' (some g) ∧ ∃ kk k2 : Nat, ∃ dk : Array (Int × Int), 1 ≤ k2 ∧ p + 1 + k2 ≤ n ∧ i = .int .i64 kk ∧ j = .int .i64 k2 ∧ NtRow w' g cap dk ∧ Lib.CompInv d (p + 1 + k2) kk dk) (fun _ j _ => n - (intOf j).toNat)
          case atStart => exact ⟨HG1.out, p + 1, 1, d, by omega, by omega, rfl, rfl, HR1.out, hst.out⟩
          case round =>
            clear HG1 HR1 hst HA HXY
            obtain ⟨hgr, kk, k2, dk, hk21, hk2, rfl, rfl, hrow, hinv⟩ := hrel
            have hkk := hinv.lt
            have hds := hinv.size
            rw [HND.out] at hds
            have HG := Lib.hid hgr; have HR := Lib.hid hrow; have HI := Lib.hid hinv; have HDS := Lib.hid hds; clear hgr hrow hinv hds
            by_cases hlt : p + 1 + k2 < n
            · obtain ⟨r, rfl⟩ : ∃ r, k2 = r + 1 := ⟨k2 - 1, by omega⟩
              have hgl : g < wr.heap.size := by obtain ⟨cur, h, _⟩ := HR.out; exact (Array.getElem?_eq_some_iff.1 h).1
              obtain ⟨x, hx⟩ : ∃ x, d[p + 1 + (r + 1)]! = x := ⟨_, rfl⟩
              obtain ⟨y, hy⟩ : ∃ y, d[p + 1 + r]! = y := ⟨_, rfl⟩
              have c1 := HR.out.cell (i := p + 1 + (r + 1)) (by rw [HDS.out]; omega)
              have c0 := HR.out.cell (i := p + 1 + r) (by rw [HDS.out]; omega)
              rw [HI.out.high _ (by omega), hx] at c1; rw [HI.out.high _ (by omega), hy] at c0
              have HXY := Lib.hid (show d[p + 1 + (r + 1)]! = x ∧ d[p + 1 + (r + 1) - 1]! = y from ⟨hx, by rw [show p + 1 + (r + 1) - 1 = p + 1 + r by omega]; exact hy⟩)
              clear hx hy
              have KX0 := kp_cell c1.1 hgl; have KX1 := kp_cell c1.2 hgl; have KY0 := kp_cell c0.1 hgl; have KY1 := kp_cell c0.2 hgl
              clear c0 c1
              have q8 : ((r + 1 : Nat) : Int) < ((n - (p + 1) : Nat) : Int) := by omega
              have q2 : (r : Int) < ((n - (p + 1) : Nat) : Int) := by omega
              have heq := neq_note x y
              go_wp2
              obtain ⟨W, rfl⟩ : ∃ U, U = wr := ⟨wr, rfl⟩
              have hS0 := below_drew W
              refine wp_region_S (fun V => Below W.heap.size W V) (by kernel_rfl) hS0 ?_
              refine take_val 0 (.slice (some ⟨g, (p + 1) * 2, none⟩) (n - (p + 1)) (cap - (p + 1))) rfl (by kernel_rfl) (by kernel_rfl) (by kernel_rfl) (fun _ _ _ h => h) rfl (fun V hV => by simp [go_sem]) hS0 ?_
              simp only [List.getElem_toArray, List.getElem_cons_zero, List.getElem_cons_succ, Act.put, List.setIfInBounds_toArray, List.set_cons_zero, List.set_cons_succ]
              refine take_val 1 (.int .i64 ((r + 1 : Nat) : Int)) rfl (by kernel_rfl) (by kernel_rfl) (by kernel_rfl) (fun _ _ _ h => h) rfl (fun V hV => by simp [go_sem]) hS0 ?_
              simp only [List.getElem_toArray, List.getElem_cons_zero, List.getElem_cons_succ, Act.put, List.setIfInBounds_toArray, List.set_cons_zero, List.set_cons_succ]
              refine take_val 2 (.pointer (some ⟨g, (p + 1) * 2 + (r + 1) * 2, none⟩)) rfl (by kernel_rfl) (by kernel_rfl) (by kernel_rfl) (fun _ _ _ h => h) rfl (fun V hV => by have h9 : ((r : Int) + 1).toNat = r + 1 := (by omega); simp [go_sem, h9]; intro h; omega) hS0 ?_
              simp only [List.getElem_toArray, List.getElem_cons_zero, List.getElem_cons_succ, Act.put, List.setIfInBounds_toArray, List.set_cons_zero, List.set_cons_succ]
              refine take_val 3 (.agg #[.int .i16 x.1, .int .i8 x.2]) rfl (by kernel_rfl) (by kernel_rfl) (by kernel_rfl) (fun _ _ _ h => h) rfl (fun V hV => by have c0 := KX0.at hV; have c1 := KX1.at hV; rw [show (p + 1 + (r + 1)) * 2 = (p + 1) * 2 + (r + 1) * 2 by omega] at c0 c1; simp [go_sem, c0, c1]) hS0 ?_
              simp only [List.getElem_toArray, List.getElem_cons_zero, List.getElem_cons_succ, Act.put, List.setIfInBounds_toArray, List.set_cons_zero, List.set_cons_succ]
              refine take_val 4 (.slice (some ⟨g, (p + 1) * 2, none⟩) (n - (p + 1)) (cap - (p + 1))) rfl (by kernel_rfl) (by kernel_rfl) (by kernel_rfl) (fun _ _ _ h => h) rfl (fun V hV => by simp [go_sem]) hS0 ?_
              simp only [List.getElem_toArray, List.getElem_cons_zero, List.getElem_cons_succ, Act.put, List.setIfInBounds_toArray, List.set_cons_zero, List.set_cons_succ]
              refine take_val 5 (.int .i64 ((r + 1 : Nat) : Int)) rfl (by kernel_rfl) (by kernel_rfl) (by kernel_rfl) (fun _ _ _ h => h) rfl (fun V hV => by simp [go_sem]) hS0 ?_
              simp only [List.getElem_toArray, List.getElem_cons_zero, List.getElem_cons_succ, Act.put, List.setIfInBounds_toArray, List.set_cons_zero, List.set_cons_succ]
              refine take_val 6 (.int .i64 (r : Int)) rfl (by kernel_rfl) (by kernel_rfl) (by kernel_rfl) (fun _ _ _ h => h) rfl (fun V hV => by have := i64_id (x := (r : Int)) (by omega); simp [go_sem, this]) hS0 ?_
              simp only [List.getElem_toArray, List.getElem_cons_zero, List.getElem_cons_succ, Act.put, List.setIfInBounds_toArray, List.set_cons_zero, List.set_cons_succ]
              refine take_val 7 (.pointer (some ⟨g, (p + 1) * 2 + r * 2, none⟩)) rfl (by kernel_rfl) (by kernel_rfl) (by kernel_rfl) (fun _ _ _ h => h) rfl (fun V hV => by simp [go_sem]; intro h; omega) hS0 ?_
              simp only [List.getElem_toArray, List.getElem_cons_zero, List.getElem_cons_succ, Act.put, List.setIfInBounds_toArray, List.set_cons_zero, List.set_cons_succ]
              refine take_val 8 (.agg #[.int .i16 y.1, .int .i8 y.2]) rfl (by kernel_rfl) (by kernel_rfl) (by kernel_rfl) (fun _ _ _ h => h) rfl (fun V hV => by have c0 := KY0.at hV; have c1 := KY1.at hV; rw [show (p + 1 + r) * 2 = (p + 1) * 2 + r * 2 by omega] at c0 c1; simp [go_sem, c0, c1]) hS0 ?_
              simp only [List.getElem_toArray, List.getElem_cons_zero, List.getElem_cons_succ, Act.put, List.setIfInBounds_toArray, List.set_cons_zero, List.set_cons_succ]
              refine take_val 9 (.bool (!decide (x = y))) rfl (by kernel_rfl) (by kernel_rfl) (by kernel_rfl) (fun _ _ _ h => h) rfl (fun V hV => by simp [go_sem, heq, hgd]) hS0 ?_
              simp only [List.getElem_toArray, List.getElem_cons_zero, List.getElem_cons_succ, Act.put, List.setIfInBounds_toArray, List.set_cons_zero, List.set_cons_succ]
              refine wpAnyH_done (by kernel_rfl) ?_ _
              have HG1 := Lib.hid (grown_dr HG.out); have HR1 := Lib.hid HR.out.drew
              have KX0' := (KX0.at hS0 : _); have KX1' := (KX1.at hS0 : _)
              clear hS0 KX0 KX1 KY0 KY1 HG HR
              generalize W.drew = W1 at HG1 HR1 KX0' KX1' ⊢
              by_cases hdup : x = y
              · subst hdup
                have q3 : (!decide (x = x)) = false := by simp
                rw [q3]
                have HN := Lib.hid (Lib.keeps_neg (d := d) (m := p + 1 + (r + 1)) (by omega) (by rw [HXY.out.1, HXY.out.2]))
                clear heq q3
                go_wp2
                go_roundw
                case rel => exact ⟨HG1.out, kk, r + 1 + 1, dk, by omega, by omega, rfl, by go_num, HR1.out, by have := HI.out.skip HN.out; exact this⟩
                case measure => simp [intOf]; omega
              · have q3 : (!decide (x = y)) = true := by simp [hdup]
                rw [q3]
                have HN := Lib.hid (Lib.keeps_pos (d := d) (m := p + 1 + (r + 1)) (by rw [HXY.out.1, HXY.out.2]; exact hdup))
                have q9 : (kk : Int) < n := by omega
                rw [show (p + 1 + (r + 1)) * 2 = (p + 1) * 2 + (r + 1) * 2 by omega] at KX0' KX1'
                obtain ⟨cur, hr, hrest⟩ := HR1.out
                have f0 := frozen_of_row W1 g (kk * 2) _ _ hr
                have f1 := frozen_of_row W1 g (kk * 2 + 1) _ _ hr
                have k0 := HR1.out.cell (i := kk) (by rw [HDS.out]; omega)
                have k1 := k0.2
                replace k0 := k0.1
                clear hr hrest heq q3
                go_wp2
                go_roundw
                case rel => exact ⟨grown_set (grown_set HG1.out rfl (kk * 2) (.int .i16 x.1)) rfl (kk * 2 + 1) (.int .i8 x.2), kk + 1, r + 1 + 1, dk.setIfInBounds kk x, by omega, by omega, by go_num, by go_num, HR1.out.set (by rw [HDS.out]; omega) x, by have := HI.out.keep (by rw [HND.out]; omega) HN.out; rw [HXY.out.1] at this; exact this⟩
                case measure => simp [intOf]; omega
            · have hend : p + 1 + k2 = n := by omega
              have hk3 : k2 = n - (p + 1) := by omega
              subst hk3
              obtain ⟨vs, hcl⟩ : ∃ vs, ∀ ty, (Builtin.clear_ #[30] ty #[.slice (some ⟨g, kk * 2, none⟩) (n - kk) (cap - kk)]).run Try.prog wr = .ok (.tuple #[]) (wr.setCells g (kk * 2) vs) := by
                obtain ⟨vs, h⟩ := run_clear_notes wr 0 g (n - kk) (cap - kk) cap kk dk (by omega) HR.out (by rw [HDS.out]; omega)
                exact ⟨vs, fun ty => h⟩
              have q4 : (n : Int) - (kk : Int) = ((n - kk : Nat) : Int) := by omega
              have q5 : (cap : Int) - (kk : Int) = ((cap - kk : Nat) : Int) := by omega
              have q6 : (kk : Int) ≤ n := by omega
              have q7 : (kk : Int) ≤ cap := by omega
              go_wp2
              go_ret
              have hlen := HI.out.len
              rw [hend] at hlen
              refine ⟨by rw [hlen]; rfl, grown_sets HG.out rfl vs _, _, HR.out.clear (by rw [HDS.out]; omega) vs, ?_, fun i hi => ?_⟩
              · rw [hlen]; simp; rw [HDS.out]; omega
              · rw [hlen] at hi
                have := HI.out.low i hi
                rw [hend] at this
                rw [this, getElem!_pos dk i (by rw [HDS.out]; omega), getElem!_pos (dk.extract 0 kk) i (by simp; rw [HDS.out]; omega)]
                simp
        · have q3 : decide (x = y) = false := by simp [hdup]
          rw [q3]
          have HN := Lib.hid (Lib.keeps_pos (d := d) (m := p + 1) (by rw [HXY.out.1, HXY.out.2]; exact hdup))
          go_wp2
          go_roundw
          case rel => exact ⟨HG1.out, HR1.out, p + 1 + 1, by omega, by omega, by go_num, fun j hj => if e : j = p + 1 then e ▸ HN.out else HA.out j (by omega)⟩
          case measure => simp [intOf]; omega
      · have hkn : k = n := by omega
        subst hkn
        go_wp2
        go_ret
        obtain ⟨e1, e2⟩ := HS.out HA.out
        refine ⟨by rw [e2]; rfl, HG.out, d, HR.out, by rw [e2, HND.out]; exact Nat.le_refl _, fun i hi => ?_⟩
        rw [e1] at hi ⊢
        exact toList_at d i hi

/-! Notes are made a tune: cloned, sorted, made compact. No conditions. -/
open Go.Shelf
set_option linter.unusedVariables false
set_option linter.unusedSimpArgs false

set_option maxRecDepth 100000 in
set_option maxHeartbeats 1000000 in
theorem compareNotes_lays (a p b q : Int) (w : World) :
    Calls Try.prog 70 #[.agg #[.int .i16 a, .int .i8 p], .agg #[.int .i16 b, .int .i8 q]] w fun e w' => e = .returned (.int .i64 (cmpN a p b q)) ∧ Lays w w' := by
  have KB := Kp.base w
  replace KB := KB.alloc (.cells #[.int .i16 a, .int .i8 p] 56)
  have K0 := kp_new1 w #[.int .i16 a, .int .i8 p] 56 (g := w.heap.size) (by simp)
  replace KB := KB.alloc (.cells #[.int .i16 b, .int .i8 q] 56)
  replace K0 := K0.alloc (.cells #[.int .i16 b, .int .i8 q] 56)
  have K1 := kp_new1 (w.alloc (.cells #[.int .i16 a, .int .i8 p] 56)) #[.int .i16 b, .int .i8 q] 56 (g := w.heap.size + 1) (by simp)
  have HZ := Lib.hid (show ((w.alloc (.cells #[.int .i16 a, .int .i8 p] 56)).alloc (.cells #[.int .i16 b, .int .i8 q] 56)).heap.size = w.heap.size + 1 + 1 by simp)
  go_enter Try.func70, Try.ntmps70
  go_wp2
  have HLL := Lib.hid (((Lays.refl w).alloc (.cells #[.int .i16 a, .int .i8 p] 56)).alloc (.cells #[.int .i16 b, .int .i8 q] 56))
  generalize ((w.alloc (.cells #[.int .i16 a, .int .i8 p] 56)).alloc (.cells #[.int .i16 b, .int .i8 q] 56)) = W at KB K0 K1 HZ HLL ⊢
  clear HZ
  have hS0 := below_drew W
  refine wp_region_S (fun V => Below W.heap.size W V) (by kernel_rfl) hS0 ?_
  refine take_val 0 (.pointer (some ⟨w.heap.size, 0, none⟩)) rfl (by kernel_rfl) (by kernel_rfl) (by kernel_rfl) (fun _ _ _ h => h) rfl (fun V hV => by simp [go_sem]) hS0 ?_
  simp only [List.getElem_toArray, List.getElem_cons_zero, List.getElem_cons_succ, Act.put, List.setIfInBounds_toArray, List.set_cons_zero, List.set_cons_succ]
  refine take_val 1 (.int .i16 a) rfl (by kernel_rfl) (by kernel_rfl) (by kernel_rfl) (fun _ _ _ h => h) rfl (fun V hV => by have c := row_cell 0 (K0.at hV); simp [go_sem, c]) hS0 ?_
  simp only [List.getElem_toArray, List.getElem_cons_zero, List.getElem_cons_succ, Act.put, List.setIfInBounds_toArray, List.set_cons_zero, List.set_cons_succ]
  refine take_val 2 (.pointer (some ⟨w.heap.size + 1, 0, none⟩)) rfl (by kernel_rfl) (by kernel_rfl) (by kernel_rfl) (fun _ _ _ h => h) rfl (fun V hV => by simp [go_sem]) hS0 ?_
  simp only [List.getElem_toArray, List.getElem_cons_zero, List.getElem_cons_succ, Act.put, List.setIfInBounds_toArray, List.set_cons_zero, List.set_cons_succ]
  refine take_val 3 (.int .i16 b) rfl (by kernel_rfl) (by kernel_rfl) (by kernel_rfl) (fun _ _ _ h => h) rfl (fun V hV => by have c := row_cell 0 (K1.at hV); simp [go_sem, c]) hS0 ?_
  simp only [List.getElem_toArray, List.getElem_cons_zero, List.getElem_cons_succ, Act.put, List.setIfInBounds_toArray, List.set_cons_zero, List.set_cons_succ]
  refine take_val 5 (.pointer (some ⟨w.heap.size, 1, none⟩)) rfl (by kernel_rfl) (by kernel_rfl) (by kernel_rfl) (fun _ _ _ h => h) rfl (fun V hV => by simp [go_sem]) hS0 ?_
  simp only [List.getElem_toArray, List.getElem_cons_zero, List.getElem_cons_succ, Act.put, List.setIfInBounds_toArray, List.set_cons_zero, List.set_cons_succ]
  refine take_val 6 (.int .i8 p) rfl (by kernel_rfl) (by kernel_rfl) (by kernel_rfl) (fun _ _ _ h => h) rfl (fun V hV => by have c := row_cell 1 (K0.at hV); simp [go_sem, c]) hS0 ?_
  simp only [List.getElem_toArray, List.getElem_cons_zero, List.getElem_cons_succ, Act.put, List.setIfInBounds_toArray, List.set_cons_zero, List.set_cons_succ]
  refine take_val 7 (.pointer (some ⟨w.heap.size + 1, 1, none⟩)) rfl (by kernel_rfl) (by kernel_rfl) (by kernel_rfl) (fun _ _ _ h => h) rfl (fun V hV => by simp [go_sem]) hS0 ?_
  simp only [List.getElem_toArray, List.getElem_cons_zero, List.getElem_cons_succ, Act.put, List.setIfInBounds_toArray, List.set_cons_zero, List.set_cons_succ]
  refine take_val 8 (.int .i8 q) rfl (by kernel_rfl) (by kernel_rfl) (by kernel_rfl) (fun _ _ _ h => h) rfl (fun V hV => by have c := row_cell 1 (K1.at hV); simp [go_sem, c]) hS0 ?_
  simp only [List.getElem_toArray, List.getElem_cons_zero, List.getElem_cons_succ, Act.put, List.setIfInBounds_toArray, List.set_cons_zero, List.set_cons_succ]
  refine step_call 4 85 #[.int .i16 a, .int .i16 b] (by kernel_rfl) rfl rfl (by simp [go_sem]) ?_
  refine (compare_int16 a b _).mono ?_
  rintro e w2 ⟨rfl, rfl⟩
  refine ⟨_, rfl, hS0, ?_⟩
  simp only [List.getElem_toArray, List.getElem_cons_zero, List.getElem_cons_succ, Act.put, List.setIfInBounds_toArray, List.set_cons_zero, List.set_cons_succ]
  refine step_call 9 86 #[.int .i8 p, .int .i8 q] (by kernel_rfl) rfl rfl (by simp [go_sem]) ?_
  refine (compare_int8 p q _).mono ?_
  rintro e w2 ⟨rfl, rfl⟩
  refine ⟨_, rfl, hS0, ?_⟩
  simp only [List.getElem_toArray, List.getElem_cons_zero, List.getElem_cons_succ, Act.put, List.setIfInBounds_toArray, List.set_cons_zero, List.set_cons_succ]
  have hS1 := hS0.alloc (o := .cells #[.int .i64 (cmp1 a b), .int .i64 (cmp1 p q)] 3) hS0.size
  have hx := cmpOr_any W.drew.heap.size (cmp1 a b) (cmp1 p q) _ (heap_alloc_new W.drew _)
  rw [or2_cmp] at hx
  generalize cmp1 a b = x at hx hS1 ⊢
  generalize cmp1 p q = y at hx hS1 ⊢
  generalize hz : cmpN a p b q = z at hx ⊢
  have HZ := Lib.hid hz; clear hz
  refine step_val 10 (.slice (some ⟨W.drew.heap.size, 0, none⟩) 2 2) (W.drew.alloc (.cells #[.int .i64 x, .int .i64 y] 3)) (by kernel_rfl) rfl rfl (by simp [go_sem]) hS1 ?_
  simp only [List.getElem_toArray, List.getElem_cons_zero, List.getElem_cons_succ, Act.put, List.setIfInBounds_toArray, List.set_cons_zero, List.set_cons_succ]
  refine step_call 11 84 #[.slice (some ⟨W.drew.heap.size, 0, none⟩) 2 2] (by kernel_rfl) rfl rfl (by simp [go_sem]) ?_
  refine hx.mono ?_
  rintro e w2 ⟨rfl, rfl⟩
  refine ⟨_, rfl, hS1, ?_⟩
  simp only [List.getElem_toArray, List.getElem_cons_zero, List.getElem_cons_succ, Act.put, List.setIfInBounds_toArray, List.set_cons_zero, List.set_cons_succ]
  refine take_val 12 (.int .i64 z) rfl (by kernel_rfl) (by kernel_rfl) (by kernel_rfl) (fun _ _ _ h => h) rfl (fun V hV => by simp [go_sem]) hS1 ?_
  simp only [List.getElem_toArray, List.getElem_cons_zero, List.getElem_cons_succ, Act.put, List.setIfInBounds_toArray, List.set_cons_zero, List.set_cons_succ]
  refine wpAnyH_done (by kernel_rfl) ?_ _
  have hbe := (HLL.out.drew).alloc (.cells #[.int .i64 x, .int .i64 y] 3)
  go_wp2
  go_ret
  exact ⟨ret_int HZ.out.symm, hbe⟩
theorem ltOf_cmpN : Go.Proofs.ltOf (fun x y : Int × Int => cmpN x.1 x.2 y.1 y.2) = bfN := by
  funext x y
  have h := cmpN_neg x.1 x.2 y.1 y.2
  unfold Go.Proofs.ltOf bfN
  rw [Bool.eq_iff_iff, decide_eq_true_iff]
  exact h
theorem sortNote_own {g base n cap : Nat} {l : List (Int × Int)} {w : World} (hown : OwnN w base (.slice (some ⟨g, 0, none⟩) n cap) l) (hn : n ≤ 1048576) :
    Calls Try.prog 93 #[.slice (some ⟨g, 0, none⟩) n cap, .func (.func 70) #[] #[]] w fun e w' => e = .returned (.tuple #[]) ∧ ∃ d : Array (Int × Int), d.size = n ∧ d.toList.Perm l ∧ (∀ i j, i < j → j < d.size → bfN d[j]! d[i]! = false) ∧
      OwnN w' base (.slice (some ⟨g, 0, none⟩) n cap) d.toList ∧ ∀ B, B ≤ g → Below B w w' := by
  obtain ⟨hnl, hg, cur, hb, _⟩ := OwnL.row encN_len hown
  have hgl : g < w.heap.size := (Array.getElem?_eq_some_iff.1 hb).1
  have hs : l.toArray.size = n := by simp [hnl]
  have hc := AnyQ.slices_SortFunc laysSortN 2 Try.isAgg56 Try.sizeOf56 encN encN_len encN_one (fun x y : Int × Int => cmpN x.1 x.2 y.1 y.2) (by rw [ltOf_cmpN]; exact bfN_swo) 70 #[] g 0 cap l.toArray w
    (call_enter _ _ Try.func70 (by kernel_rfl) (by kernel_rfl)) (fun m os dk _ x y => compareNotes_lays x.1 x.2 y.1 y.2 _) (OwnL.holdsK encN_len hown) hgl (by rw [hs]; omega)
  rw [hs] at hc
  refine Calls.mono hc ?_
  rintro e w' ⟨rfl, d, q, os, hp, hso, rfl⟩
  rw [← hs] at hp
  obtain ⟨h1, h2⟩ := perm_of_permIn hp
  obtain ⟨h3, h4⟩ := OwnL.sorted encN_len hown (d := d) (by rw [h1, hs]) q os
  refine ⟨rfl, d, by rw [h1, hs], by simpa using h2, fun i j hij hj => ?_, h3, h4⟩
  rw [← ltOf_cmpN]
  exact hso i j (Nat.zero_le _) hij (by rw [h1, hs] at hj; exact hj)
theorem sortNote_none (c : Nat) (fv : Value) (p : Option Addr) (w : World) :
    Calls Try.prog 93 #[.slice p 0 c, fv] w fun e w' => e = .returned (.tuple #[]) ∧ w' = w := AnyF.slices_SortFunc_none laysSortN p c fv w
theorem noteFlat {w : World} {g off : Nat} {l : List (Int × Int)} (h : ∀ i, i < l.length → w.cell? ⟨g, off + i * 2, none⟩ = some (.int .i16 (l.getD i (0, 0)).1) ∧ w.cell? ⟨g, off + i * 2 + 1, none⟩ = some (.int .i8 (l.getD i (0, 0)).2)) :
    ∀ j u, (l.flatMap encN)[j]? = some u → w.cell? ((⟨g, off, none⟩ : Addr).add j) = some u := by
  intro j u hu
  have hj : j < l.length * 2 := by have := (List.getElem?_eq_some_iff.1 hu).1; rwa [flat_len encN 2 encN_len] at this
  have h1 : j / 2 < l.length := by omega
  have h2 : j / 2 * 2 + j % 2 = j := by omega
  have e : (⟨g, off, none⟩ : Addr).add j = ⟨g, off + j, none⟩ := by unfold Addr.add; split <;> simp_all
  rw [← h2, flat_get encN 2 encN_len _ _ _ (List.getElem?_eq_getElem h1) _ (by omega)] at hu
  have h3 := h _ h1
  rw [getD_at h1] at h3
  rw [e]
  obtain h4 | h4 : j % 2 = 0 ∨ j % 2 = 1 := by omega
  · rw [h4] at hu; rw [show off + j = off + j / 2 * 2 by omega, h3.1]; simpa [encN] using hu
  · rw [h4] at hu; rw [show off + j = off + j / 2 * 2 + 1 by omega, h3.2]; simpa [encN] using hu
set_option maxRecDepth 100000 in
/-- a list of notes is cloned; what is not nil stays so -/
theorem cloneNote_any (ad : Addr) (n c : Nat) (l : List (Int × Int)) (w : World) (hn : l.length = n) (hl : n ≤ 1048576) (hh : NoteAt w (some ad) l.length (fun i => (l.getD i (0, 0)).1) (fun i => (l.getD i (0, 0)).2)) :
    Calls Try.prog 92 #[.slice (some ad) n c] w fun e w' => ∃ v, e = .returned v ∧ Below w.heap.size w w' ∧ OwnN w' w.heap.size v l := by
  have hc : ∀ j u, (l.flatMap encN)[j]? = some u → (w.alloc (.cells #[] 56)).cell? (ad.add j) = some u := by
    by_cases h0 : 0 < n
    · obtain ⟨g, off, e, hg, hc⟩ := NoteAt.get hh (by omega)
      simp at e; subst e
      have hb : Below w.heap.size w (w.alloc (.cells #[] 56)) := (Below.refl _ _).alloc (Nat.le_refl _) _
      intro j u hu
      have e : (⟨g, off, none⟩ : Addr).add j = ⟨g, off + j, none⟩ := by unfold Addr.add; split <;> simp_all
      have := noteFlat hc j u hu
      rw [e] at this ⊢
      rw [hb.cell (p := ⟨g, off + j, none⟩) hg]; exact this
    · have hn0 : l = [] := List.eq_nil_of_length_eq_zero (by omega)
      subst hn0
      intro j u hu
      simp at hu
  have HC := Lib.hid hc; clear hc hh
  have hn0 : OwnN (w.alloc (.cells #[] 56)) w.heap.size (.slice (some ⟨w.heap.size, 0, none⟩) 0 0) [] := OwnL.nil w w.heap.size (Nat.le_refl _)
  have HN0 := Lib.hid hn0; clear hn0
  have HL := Lib.hid hn; clear hn
  have hq : ∀ w : World, (binOp .eql 30 (.slice (some ad) n c) (.slice none 0 0)).run Try.prog w = .ok (.bool false) w := fun _ => rfl
  go_enter Try.func92, Try.ntmps92
  go_wp2_with (at_builtin; refine append_notes rfl _ _ rfl w.heap.size _ [] rfl HN0.out ad n c l HL.out rfl HC.out (by simp; omega) (by simp) ?_; intro v2 w2 hown2 hb2; have HO2 := Lib.hid hown2; have HB2 := Lib.hid hb2; clear hown2 hb2)
  go_ret
  exact ⟨_, rfl, ((Below.refl _ _).alloc (Nat.le_refl _) _).trans HB2.out, HO2.out⟩
theorem compactNote_none (p : Option Addr) (c : Nat) (w : World) :
    Calls Try.prog 94 #[.slice p 0 c] w fun e w' => e = .returned (.slice p 0 c) ∧ w = w' := by
  go_enter Try.func94, Try.ntmps94
  go_wp2
  go_ret
  exact ⟨rfl, rfl⟩
set_option maxRecDepth 100000 in
theorem made_any (ad : Addr) (n c : Nat) (l : List (Int × Int)) (w : World) (hn : l.length = n) (hl : n ≤ 1048576) (hh : NoteAt w (some ad) l.length (fun i => (l.getD i (0, 0)).1) (fun i => (l.getD i (0, 0)).2)) :
    Calls Try.prog 80 #[.slice (some ad) n c] w fun e w' => ∃ v, e = .returned v ∧ Below w.heap.size w w' ∧ OwnN w' w.heap.size v (srtN l) := by
  have hcl := cloneNote_any ad n c l w hn hl hh
  have HN := Lib.hid hn; clear hn hh
  go_enter Try.func80, Try.ntmps80
  go_wp2_with (go_at_call 92; refine hcl.mono ?_; rintro e w1 ⟨v, rfl, hb1, ho1⟩; obtain ⟨b1, c1, rfl⟩ := OwnL.form ho1; rw [HN.out] at ho1 ⊢; have HB1 := Lib.hid hb1; have HO1 := Lib.hid ho1; clear hb1 ho1 hcl)
  cases b1 with
  | none =>
    have h0 : n = 0 := by
      rcases HO1.out.2 with ⟨h, h2⟩ | ⟨g, cap, cur, h, _⟩
      · rw [HN.out] at h2; exact h2
      · injection h with h _ _; exact absurd h (by simp)
    subst h0
    have hl0 : l = [] := List.eq_nil_of_length_eq_zero HN.out
    have hsrt : srtN l = [] := by rw [hl0]; exact srtN_self List.Pairwise.nil
    have HS := Lib.hid hsrt; clear hsrt hl0
    refine (sortNote_none _ _ _ _).mono ?_
    rintro e w2 ⟨rfl, rfl⟩
    go_wp2_with (go_at_call 94; refine (compactNote_none _ _ _).mono ?_; rintro e w3 ⟨rfl, rfl⟩)
    go_ret
    have h := HO1.out
    rw [List.eq_nil_of_length_eq_zero HN.out] at h
    exact ⟨_, rfl, HB1.out, by rw [HS.out]; exact h⟩
  | some ad1 =>
    obtain ⟨g, rfl⟩ : ∃ g, ad1 = ⟨g, 0, none⟩ := by
      rcases HO1.out.2 with ⟨h, h2⟩ | ⟨g, cap, cur, h, _⟩
      · cases h
      · injection h with h _ _; injection h with h; exact ⟨g, h⟩
    refine (sortNote_own HO1.out hl).mono ?_
    rintro e w2 ⟨rfl, d, hd, hperm, hsort, ho2, hb2⟩
    have hrow := OwnN.row ho2
    have hda : d.toList.toArray = d := by simp
    rw [hda] at hrow
    have hcomp := compact_srtN l d hperm hsort
    rw [hd] at hcomp
    have hck := compactNote_any g c1 n d w2 hd hl hrow.1
    rw [hcomp] at hck
    have HG := Lib.hid hrow.2.1; have HB2 := Lib.hid hb2
    clear hrow hda hcomp hb2 hperm hsort ho2
    go_wp2_with (go_at_call 94; refine hck.mono ?_; rintro e w3 ⟨rfl, hg3, dk, hr3, hl3, hx3⟩; have HG3 := Lib.hid hg3; have HR3 := Lib.hid hr3; have HL3 := Lib.hid hl3; have HX3 := Lib.hid hx3; clear hg3 hr3 hl3 hx3 hck)
    go_ret
    have hB := (HB1.out.trans (HB2.out _ HG.out))
    refine ⟨_, rfl, hB.trans (below_grown HG3.out hB.size fun k hk => by injection hk with hk; subst hk; exact HG.out), ?_⟩
    exact HR3.out.own HG.out rfl HL3.out HX3.out
set_option maxRecDepth 100000 in
theorem cloneNote_nil (c : Nat) (w : World) : Calls Try.prog 92 #[.slice none 0 c] w fun e w' => e = .returned (.slice none 0 0) ∧ w = w' := by
  have hq : ∀ w : World, (binOp .eql 30 (.slice none 0 c) (.slice none 0 0)).run Try.prog w = .ok (.bool true) w := fun _ => rfl
  go_enter Try.func92, Try.ntmps92
  go_wp2
  go_ret
  exact ⟨rfl, rfl⟩
set_option maxRecDepth 100000 in
theorem made_nil (c : Nat) (w : World) : Calls Try.prog 80 #[.slice none 0 c] w fun e w' => e = .returned (.slice none 0 0) ∧ w = w' := by
  go_enter Try.func80, Try.ntmps80
  go_wp2_with (first | (go_at_call 92; refine (cloneNote_nil _ _).mono ?_; rintro e w1 ⟨rfl, rfl⟩) | (go_at_call 93; refine (sortNote_none _ _ _ _).mono ?_; rintro e w2 ⟨rfl, rfl⟩) | (go_at_call 94; refine (compactNote_none _ _ _).mono ?_; rintro e w3 ⟨rfl, rfl⟩))
  go_ret
  exact ⟨rfl, rfl⟩
/-- a list of one's own is made a tune -/
theorem made_own (base n c : Nat) (b : Option Addr) (l : List (Int × Int)) (w : World) (hl : n ≤ 1048576) (hh : OwnN w base (.slice b n c) l) :
    Calls Try.prog 80 #[.slice b n c] w fun e w' => ∃ v, e = .returned v ∧ Below w.heap.size w w' ∧ OwnN w' w.heap.size v (srtN l) := by
  have hn : l.length = n := by obtain ⟨b', c', e⟩ := OwnL.form hh; injection e with _ e _; exact e.symm
  cases b with
  | none =>
    have h0 : n = 0 := by
      rcases hh.2 with ⟨h, h2⟩ | ⟨g, cap, cur, h, _⟩
      · omega
      · injection h with h _ _; exact absurd h (by simp)
    subst h0
    have e : srtN l = [] := by rw [List.eq_nil_of_length_eq_zero hn]; exact srtN_self List.Pairwise.nil
    refine (made_nil c w).mono ?_
    rintro e2 w' ⟨rfl, rfl⟩
    exact ⟨_, rfl, Below.refl _ _, by rw [e]; exact OwnL.none0 _ _⟩
  | some ad => exact made_any ad n c l w hn hl (OwnN.readAt hh)
end Go.Proofs.Yteffaghcjpeblaa
