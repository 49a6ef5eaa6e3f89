/- Notes are made a tune: cloned, sorted, made compact. No conditions. -/
import Derived.Shelf.SlLaysF0
import Derived.Shelf.SlLaysQ
import Derived.Test.YteffaghcjpeblaaGreatBase
import Derived.Test.YteffaghcjpeblaaGreatSo
import Derived.Shelf.SlSortCmp.WholeK
import Derived.Shelf.SlSortCmp.NoneTotal
import Derived.Test.YteffaghcjpeblaaGreatTv
import Derived.Test.YteffaghcjpeblaaGreatOwnN
import Derived.Laws.StructEq
import Derived.Laws.IdiomCopy
import Derived.Test.YteffaghcjpeblaaGreatTu
import Derived.Outline
namespace Go.Proofs.YteffaghcjpeblaaGreat
open Go.RowKit
set_option linter.unusedVariables false
set_option linter.unusedSimpArgs false

/-! slices.SortFunc and slices.Equal at notes (their layings are printed by the kit's tools, by layg.py). No conditions. -/
open Go.Shelf
set_option linter.unusedVariables false
set_option linter.unusedSimpArgs false

def laysSortN_ren : Go.Shelf.Ren := ⟨fun | 6 => 107 | 15 => 129 | 14 => 128 | 28 => 147 | 29 => 148 | 20 => 139 | 21 => 140 | 22 => 141 | 23 => 142 | 24 => 143 | 25 => 144 | 26 => 145 | 27 => 146 | 46 => 151 | 47 => 152 | 48 => 153 | 49 => 154 | 50 => 155 | 57 => 156 | n => n, fun | 22 => 38 | 24 => 75 | 25 => 146 | 3 => 3 | 39 => 150 | 0 => 0 | 53 => 27 | 55 => 185 | 4 => 4 | 46 => 178 | 45 => 177 | 50 => 182 | 5 => 5 | 9 => 9 | 66 => 188 | 70 => 192 | 76 => 194 | 77 => 195 | n => n, fun | n => n⟩
theorem laysSortN : Go.Proofs.SlLaysF0.n6 Tryz.prog laysSortN_ren := {
  mixed := by kernel_rfl
  f6 := ⟨Tryz.f107.name, by decide, Tryz.func107.trans (congrArg some (by kernel_rfl))⟩
  f14 := ⟨Tryz.f128.name, by decide, Tryz.func128.trans (congrArg some (by kernel_rfl))⟩
  f15 := Tryz.func129.trans (congrArg some (by kernel_rfl))
  f20 := ⟨Tryz.f139.name, by decide, Tryz.func139.trans (congrArg some (by kernel_rfl))⟩
  f21 := ⟨Tryz.f140.name, by decide, Tryz.func140.trans (congrArg some (by kernel_rfl))⟩
  f22 := ⟨Tryz.f141.name, by decide, Tryz.func141.trans (congrArg some (by kernel_rfl))⟩
  f23 := ⟨Tryz.f142.name, by decide, Tryz.func142.trans (congrArg some (by kernel_rfl))⟩
  f24 := ⟨Tryz.f143.name, by decide, Tryz.func143.trans (congrArg some (by kernel_rfl))⟩
  f25 := ⟨Tryz.f144.name, by decide, Tryz.func144.trans (congrArg some (by kernel_rfl))⟩
  f26 := ⟨Tryz.f145.name, by decide, Tryz.func145.trans (congrArg some (by kernel_rfl))⟩
  f27 := ⟨Tryz.f146.name, by decide, Tryz.func146.trans (congrArg some (by kernel_rfl))⟩
  f28 := Tryz.func147.trans (congrArg some (by kernel_rfl))
  f29 := Tryz.func148.trans (congrArg some (by kernel_rfl))
  f46 := ⟨Tryz.f151.name, by decide, Tryz.func151.trans (congrArg some (by kernel_rfl))⟩
  f47 := Tryz.func152.trans (congrArg some (by kernel_rfl))
  f48 := Tryz.func153.trans (congrArg some (by kernel_rfl))
  f49 := ⟨Tryz.f154.name, by decide, Tryz.func154.trans (congrArg some (by kernel_rfl))⟩
  f50 := ⟨Tryz.f155.name, by decide, Tryz.func155.trans (congrArg some (by kernel_rfl))⟩
  f57 := ⟨Tryz.f156.name, by decide, Tryz.func156.trans (congrArg some (by kernel_rfl))⟩
  t0 := Tryz.underlying0
  a0 := Tryz.isAgg0
  z0 := Tryz.sizeOf0
  v0 := Tryz.zeroValue0
  t3 := Tryz.underlying3
  a3 := Tryz.isAgg3
  z3 := Tryz.sizeOf3
  v3 := Tryz.zeroValue3
  t4 := Tryz.underlying4
  a4 := Tryz.isAgg4
  z4 := Tryz.sizeOf4
  v4 := Tryz.zeroValue4
  t5 := Tryz.underlying5
  a5 := Tryz.isAgg5
  z5 := Tryz.sizeOf5
  v5 := Tryz.zeroValue5
  t9 := Tryz.underlying9
  a9 := Tryz.isAgg9
  z9 := Tryz.sizeOf9
  v9 := Tryz.zeroValue9
  t22 := Tryz.underlying38
  a22 := Tryz.isAgg38
  z22 := Tryz.sizeOf38
  v22 := Tryz.zeroValue38
  t25 := Tryz.underlying146
  a25 := Tryz.isAgg146
  z25 := Tryz.sizeOf146
  v25 := Tryz.zeroValue146
  t39 := Tryz.underlying150
  a39 := Tryz.isAgg150
  z39 := Tryz.sizeOf150
  v39 := Tryz.zeroValue150
  t45 := Tryz.underlying177
  a45 := Tryz.isAgg177
  z45 := Tryz.sizeOf177
  v45 := Tryz.zeroValue177
  t46 := Tryz.underlying178
  a46 := Tryz.isAgg178
  z46 := Tryz.sizeOf178
  v46 := Tryz.zeroValue178
  t50 := Tryz.underlying182
  a50 := Tryz.isAgg182
  z50 := Tryz.sizeOf182
  v50 := Tryz.zeroValue182
  t53 := Tryz.underlying27
  a53 := Tryz.isAgg27
  z53 := Tryz.sizeOf27
  v53 := Tryz.zeroValue27
  t55 := Tryz.underlying185
  a55 := Tryz.isAgg185
  z55 := Tryz.sizeOf185
  v55 := Tryz.zeroValue185
  t66 := Tryz.underlying188
  a66 := Tryz.isAgg188
  z66 := Tryz.sizeOf188
  v66 := Tryz.zeroValue188
  t70 := Tryz.underlying192
  a70 := Tryz.isAgg192
  z70 := Tryz.sizeOf192
  v70 := Tryz.zeroValue192
  t76 := Tryz.underlying194
  a76 := Tryz.isAgg194
  z76 := Tryz.sizeOf194
  v76 := Tryz.zeroValue194
  t77 := Tryz.underlying195
  a77 := Tryz.isAgg195
  z77 := Tryz.sizeOf195
  v77 := Tryz.zeroValue195 }
def laysEqualN_ren : Go.Shelf.Ren := ⟨fun | 8 => 84 | n => n, fun | 22 => 39 | 24 => 75 | 4 => 4 | 3 => 3 | 0 => 0 | n => n, fun | n => n⟩
theorem laysEqualN : Go.Proofs.SlLaysQ.n8 Tryz.prog laysEqualN_ren := {
  mixed := by kernel_rfl
  f8 := ⟨Tryz.f84.name, by decide, Tryz.func84.trans (congrArg some (by kernel_rfl))⟩
  t0 := Tryz.underlying0
  a0 := Tryz.isAgg0
  z0 := Tryz.sizeOf0
  v0 := Tryz.zeroValue0
  t3 := Tryz.underlying3
  a3 := Tryz.isAgg3
  z3 := Tryz.sizeOf3
  v3 := Tryz.zeroValue3
  t4 := Tryz.underlying4
  a4 := Tryz.isAgg4
  z4 := Tryz.sizeOf4
  v4 := Tryz.zeroValue4
  t22 := Tryz.underlying39
  a22 := Tryz.isAgg39
  z22 := Tryz.sizeOf39
  v22 := Tryz.zeroValue39 }

/-! A row of structs is sorted in place: the row of one's own behind the library's sort. No conditions. -/
open Go.Shelf
set_option linter.unusedVariables false
set_option linter.unusedSimpArgs false

/-- w' is w, some draws on, with blocks behind -/
def Lays (w w' : World) : Prop := ∃ q os, w' = Go.Sort.grow (w.drewN q) os
theorem Lays.refl (w : World) : Lays w w := ⟨0, #[], by simp [World.drewN_zero]⟩
theorem Lays.drew {w w' : World} (h : Lays w w') : Lays w w'.drew := by
  obtain ⟨q, os, rfl⟩ := h
  exact ⟨q + 1, os, rfl⟩
theorem Lays.alloc {w w' : World} (h : Lays w w') (o : Obj) : Lays w (w'.alloc o) := by
  obtain ⟨q, os, rfl⟩ := h
  exact ⟨q, os ++ #[o], by rw [Go.Sort.alloc_eq_grow, Go.Sort.grow_grow]⟩
theorem Lays.trans {w w' v : World} (h : Lays w w') (h2 : Lays w' v) : Lays w v := by
  obtain ⟨q, os, rfl⟩ := h
  obtain ⟨p, ps, rfl⟩ := h2
  exact ⟨q + p, os ++ ps, by
    show Go.Sort.grow (Go.Sort.grow ((w.drewN q).drewN p) os) ps = _
    rw [Go.Sort.grow_grow, World.drewN_drewN]⟩
theorem Lays.below {w w' : World} (h : Lays w w') : Below w.heap.size w w' := by
  obtain ⟨q, os, rfl⟩ := h
  refine ⟨rfl, rfl, rfl, ?_, fun k hk => ?_⟩
  · show w.heap.size ≤ (w.heap ++ os).size
    simp
  · show (w.heap ++ os)[k]? = _
    rw [Array.getElem?_append, if_pos hk]
section
variable {α : Type} [Inhabited α] {T sz : Nat} {enc : α → List Value} (henc : ∀ x, (enc x).length = sz) {w : World} {base g n cap : Nat} {l : List α}
include henc
theorem flatK_get (d : Array α) (t : Nat) (h : t < d.size * sz) : (d.toList.flatMap enc)[t]? = some (Go.Sort.flatK enc sz d)[t]! := by
  have hsz : 0 < sz := by
    rcases Nat.eq_zero_or_pos sz with e | e
    · subst e; omega
    · exact e
  rw [Go.Sort.get_flatK _ _ _ _ h]
  have h1 : t / sz < d.size := Nat.div_lt_of_lt_mul (by rw [Nat.mul_comm]; exact h)
  have h2 : t % sz < sz := Nat.mod_lt _ hsz
  have h3 : t / sz * sz + t % sz = t := by rw [Nat.mul_comm]; exact Nat.div_add_mod t sz
  have h4 : d.toList[t / sz]? = some d[t / sz]! := by
    rw [List.getElem?_eq_getElem (by simpa using h1), getElem!_pos d _ h1]; simp
  have h5 := flat_get enc sz henc d.toList _ _ h4 _ h2
  rw [h3] at h5
  rw [h5, List.getElem?_eq_getElem (by rw [henc]; exact h2), getElem!_pos (enc d[t / sz]!) _ (by rw [henc]; exact h2)]
theorem OwnL.holdsK (h : OwnL T sz enc w base (.slice (some ⟨g, 0, none⟩) n cap) l) : Go.Sort.HoldsK enc sz w g 0 l.toArray := by
  obtain ⟨hn, hg, cur, hb, hc, hm, hs, ht⟩ := OwnL.row henc h
  intro t hlt
  rw [Go.Sort.size_flatK] at hlt
  have hlt' : t < n * sz := by rw [hn]; simpa using hlt
  have h1 := flatK_get henc l.toArray t hlt
  have h2 : l.toArray.toList = l := by simp
  rw [h2, ← ht, List.getElem?_take, if_pos hlt'] at h1
  constructor
  · rw [Nat.zero_add, row_cell t hb]
    simpa using h1
  · unfold World.frozen?
    rw [hb]
    simp
theorem OwnL.sorted (h : OwnL T sz enc w base (.slice (some ⟨g, 0, none⟩) n cap) l) {d : Array α} (hd : d.size = n) (q : Nat) (os : Array Obj) :
    OwnL T sz enc (sortWorldK enc sz w g 0 q d os) base (.slice (some ⟨g, 0, none⟩) n cap) d.toList ∧ ∀ B, B ≤ g → Below B w (sortWorldK enc sz w g 0 q d os) := by
  obtain ⟨hn, hg, cur, hb, hc, hm, hs, ht⟩ := OwnL.row henc h
  have hgl : g < w.heap.size := (Array.getElem?_eq_some_iff.1 hb).1
  have hheap : (sortWorldK enc sz w g 0 q d os).heap = (w.heap.modify g (Go.Sort.onCells (Go.Sort.putCells id 0 (Go.Sort.flatK enc sz d)))) ++ os := rfl
  have hold : ∀ j, j < w.heap.size → (sortWorldK enc sz w g 0 q d os).heap[j]? = (w.heap.modify g (Go.Sort.onCells (Go.Sort.putCells id 0 (Go.Sort.flatK enc sz d))))[j]? := by
    intro j hj
    rw [hheap, Array.getElem?_append, if_pos (by rw [Array.size_modify]; exact hj)]
  constructor
  · refine OwnL.ofRow henc (cur := Go.Sort.putCells id 0 (Go.Sort.flatK enc sz d) cur) (by simp [hd]) hg ?_ hc hm ?_ ?_
    · rw [hold g hgl, Array.getElem?_modify, if_pos rfl, hb]
      rfl
    · unfold Go.Sort.putCells; simp [hs]
    · have hcn : n * sz ≤ cap * sz := Nat.mul_le_mul_right _ hc
      apply List.ext_getElem?
      intro t
      by_cases hlt : t < n * sz
      · rw [List.getElem?_take, if_pos hlt, flatK_get henc d t (by rw [hd]; exact hlt)]
        unfold Go.Sort.putCells
        rw [Array.getElem?_toList, Array.getElem?_mapIdx, Array.getElem?_eq_getElem (by omega)]
        simp only [Option.map_some, Go.Sort.size_flatK, hd, Nat.zero_add, Nat.sub_zero, id]
        rw [if_pos ⟨Nat.zero_le _, hlt⟩]
      · rw [List.getElem?_eq_none (by rw [List.length_take]; omega), List.getElem?_eq_none (by rw [flat_len enc sz henc]; simp [hd]; omega)]
  · intro B hB
    refine ⟨rfl, rfl, rfl, ?_, fun k hk => ?_⟩
    · rw [hheap, Array.size_append, Array.size_modify]; omega
    · rw [hold k (by omega), Array.getElem?_modify, if_neg (by omega)]
end
theorem perm_of_permIn {α : Type} [Inhabited α] {d d' : Array α} (h : Go.Sort.PermIn 0 d.size d d') : d'.size = d.size ∧ d'.toList.Perm d.toList := by
  obtain ⟨h1, _, h3⟩ := h
  have e1 : d'.extract 0 d.size = d' := by rw [← h1]; exact Array.extract_size
  rw [e1, Array.extract_size] at h3
  exact ⟨h1, h3⟩

/-! Notes that stand side by side and are equal are made one, in their place. No conditions. -/
theorem eql_note (x y : Int × Int) (w : World) : (binOp .eql 75 (.agg #[.int .i16 x.1, .int .i8 x.2]) (.agg #[.int .i16 y.1, .int .i8 y.2])).run Tryz.prog w = .ok (.bool (decide (x = y))) w := by
  have u1 := Tryz.underlying22
  have u2 := Tryz.underlying51
  have hS : Tryz.prog.underlying 75 = some (.struct (Tryz.prog.fieldsOf 75)) := by kernel_rfl
  have hp : Tryz.prog.stoodInHeld 75 = false := by kernel_rfl
  rw [run_eql_struct, show (10000 : Nat) = 9999 + 1 from rfl, run_equalIn_agg w 9999 75 _ _ hS hp]
  simp only [Program.fieldsOf, Tryz.underlying75]
  go_simp
  obtain ⟨x1, x2⟩ := x; obtain ⟨y1, y2⟩ := y
  by_cases h1 : x1 = y1 <;> by_cases h2 : x2 = y2 <;> simp [h1, h2]
theorem neq_note (x y : Int × Int) (w : World) : (binOp .neq 75 (.agg #[.int .i16 x.1, .int .i8 x.2]) (.agg #[.int .i16 y.1, .int .i8 y.2])).run Tryz.prog w = .ok (.bool (!decide (x = y))) w := by
  have u1 := Tryz.underlying22
  have u2 := Tryz.underlying51
  have hS : Tryz.prog.underlying 75 = some (.struct (Tryz.prog.fieldsOf 75)) := by kernel_rfl
  have hp : Tryz.prog.stoodInHeld 75 = false := by kernel_rfl
  rw [run_neq_struct, show (10000 : Nat) = 9999 + 1 from rfl, run_equalIn_agg w 9999 75 _ _ hS hp]
  simp only [Program.fieldsOf, Tryz.underlying75]
  go_simp
  obtain ⟨x1, x2⟩ := x; obtain ⟨y1, y2⟩ := y
  by_cases h1 : x1 = y1 <;> by_cases h2 : x2 = y2 <;> simp [h1, h2]
theorem guard_note : Tryz.prog.eqGuardType Tryz.prog.depth 75 = false := by kernel_rfl
theorem grown_dr {w w' : World} {row : Option Nat} (h : w.grownBy w' row) : w.grownBy w'.drew row := ⟨h.os, h.tape, h.output, h.size, h.block⟩
/-- a row of notes at the head of the block g -/
def NtRow (w : World) (g cap : Nat) (d : Array (Int × Int)) : Prop :=
  ∃ cur : Array Value, w.heap[g]? = some (.cells cur 75 (0, 0)) ∧ cur.size = cap * 2 ∧ cap ≤ maxLen ∧ d.size ≤ cap ∧ ∀ i, i < d.size → cur[i * 2]? = some (.int .i16 d[i]!.1) ∧ cur[i * 2 + 1]? = some (.int .i8 d[i]!.2)
theorem NtRow.drew {w : World} {g cap : Nat} {d : Array (Int × Int)} (h : NtRow w g cap d) : NtRow w.drew g cap d := h
theorem NtRow.below {w w' : World} {g cap : Nat} {d : Array (Int × Int)} (h : NtRow w g cap d) (hb : Below w.heap.size w w') : NtRow w' g cap d := by
  obtain ⟨cur, h1, h2⟩ := h
  exact ⟨cur, (hb.block g (Array.getElem?_eq_some_iff.1 h1).1).trans h1, h2⟩
theorem kp_ntRow {w : World} {g cap : Nat} {d : Array (Int × Int)} (h : NtRow w g cap d) : Kp w (fun V => NtRow V g cap d) := Kp.mk fun _ hb => h.below hb
theorem NtRow.cell {w : World} {g cap : Nat} {d : Array (Int × Int)} (h : NtRow w g cap d) {i : Nat} (hi : i < d.size) : w.cell? ⟨g, i * 2, none⟩ = some (.int .i16 d[i]!.1) ∧ w.cell? ⟨g, i * 2 + 1, none⟩ = some (.int .i8 d[i]!.2) := by
  obtain ⟨cur, h1, _, _, _, h2⟩ := h
  exact ⟨(row_cell _ h1).trans (h2 i hi).1, (row_cell _ h1).trans (h2 i hi).2⟩
theorem NtRow.own {w : World} {g cap base m : Nat} {d : Array (Int × Int)} {l : List (Int × Int)} (h : NtRow w g cap d) (hb : base ≤ g) (hm : m = l.length) (hmd : m ≤ d.size) (hl : ∀ i, i < m → l[i]? = some d[i]!) : OwnN w base (.slice (some ⟨g, 0, none⟩) m cap) l := by
  obtain ⟨cur, h1, h2, h3, h4, h5⟩ := h
  refine OwnL.ofRow encN_len hm hb h1 (by omega) h3 h2 ?_
  apply List.ext_getElem?
  intro t
  by_cases ht : t < m * 2
  · rw [List.getElem?_take, if_pos ht]
    have e1 : t / 2 < m := by omega
    have e2 : t / 2 * 2 + t % 2 = t := by omega
    have h6 := flat_get encN 2 encN_len l _ _ (hl _ e1) (t % 2) (by omega)
    rw [e2] at h6
    rw [h6, Array.getElem?_toList]
    have h7 := h5 (t / 2) (by omega)
    obtain h8 | h8 : t % 2 = 0 ∨ t % 2 = 1 := by omega
    · rw [h8]; rw [show t = t / 2 * 2 by omega, h7.1]; simp [encN, show t / 2 * 2 / 2 = t / 2 by omega]
    · rw [h8]; rw [show t = t / 2 * 2 + 1 by omega, h7.2]; simp [encN, show (t / 2 * 2 + 1) / 2 = t / 2 by omega]
  · rw [List.getElem?_eq_none (by rw [List.length_take]; omega), List.getElem?_eq_none (by rw [flat_len encN 2 encN_len]; omega)]
theorem OwnN.row {w : World} {g cap base n : Nat} {l : List (Int × Int)} (h : OwnN w base (.slice (some ⟨g, 0, none⟩) n cap) l) : NtRow w g cap l.toArray ∧ base ≤ g ∧ n = l.length := by
  obtain ⟨hn, hg, cur, hb, hc, hm, hs, ht⟩ := OwnL.row encN_len h
  refine ⟨⟨cur, hb, hs, hm, by simpa [← hn] using hc, fun i hi => ?_⟩, hg, hn⟩
  have hi' : i < l.length := by simpa using hi
  have e : l[i]? = some l.toArray[i]! := by rw [List.getElem?_eq_getElem hi', getElem!_pos l.toArray i hi]; simp
  have h1 := flat_get encN 2 encN_len l i _ e 0 (by omega)
  have h2 := flat_get encN 2 encN_len l i _ e 1 (by omega)
  rw [← ht, List.getElem?_take, if_pos (by omega), Array.getElem?_toList] at h1 h2
  exact ⟨h1, h2⟩
/-- a note is stored -/
theorem NtRow.set {w : World} {g cap : Nat} {d : Array (Int × Int)} (h : NtRow w g cap d) {k : Nat} (hk : k < d.size) (x : Int × Int) : NtRow ((w.setCell ⟨g, k * 2, none⟩ (.int .i16 x.1)).setCell ⟨g, k * 2 + 1, none⟩ (.int .i8 x.2)) g cap (d.setIfInBounds k x) := by
  obtain ⟨cur, h1, h2, h3, h4, h5⟩ := h
  have s0 := heap_setCell_same w g (k * 2) _ _ (.int .i16 x.1) h1
  have s1 := heap_setCell_same _ g (k * 2 + 1) _ _ (.int .i8 x.2) s0
  refine ⟨_, s1, by simpa using h2, h3, by simpa using h4, fun i hi => ?_⟩
  have hi' : i < d.size := by simpa using hi
  simp only [Array.getElem?_setIfInBounds, Array.size_setIfInBounds]
  by_cases e : i = k
  · subst e
    rw [Go.Sort.getElem!_set_same d i x hi', if_neg (by omega), if_pos rfl, if_pos (by omega), if_pos rfl, if_pos (by omega)]
    exact ⟨rfl, rfl⟩
  · rw [Go.Sort.getElem!_set_other d k i x e, if_neg (by omega), if_neg (by omega), if_neg (by omega), if_neg (by omega)]
    exact h5 i hi'
theorem heap_setCells_same (w : World) (g : Nat) (T : Nat) : ∀ (vs : List Value) (o : Nat) (cur : Array Value), w.heap[g]? = some (.cells cur T (0, 0)) → ∃ cur' : Array Value, (w.setCells g o vs).heap[g]? = some (.cells cur' T (0, 0)) ∧ cur'.size = cur.size ∧ ∀ i, i < o → cur'[i]? = cur[i]? := by
  intro vs
  induction vs generalizing w with
  | nil => intro o cur h; exact ⟨cur, h, rfl, fun _ _ => rfl⟩
  | cons v vs ih =>
    intro o cur h
    obtain ⟨cur', h1, h2, h3⟩ := ih (w.setCell ⟨g, o, none⟩ v) (o + 1) _ (heap_setCell_same w g o _ _ v h)
    refine ⟨cur', h1, by rw [h2, Array.size_setIfInBounds], fun i hi => ?_⟩
    rw [h3 i (by omega), Array.getElem?_setIfInBounds, if_neg (by omega)]
theorem grown_sets {w w' : World} {row : Option Nat} {g : Nat} (h : w.grownBy w' row) (hr : row = some g) : ∀ (vs : List Value) (o : Nat), w.grownBy (w'.setCells g o vs) row := by
  intro vs
  induction vs generalizing w' with
  | nil => intro o; exact h
  | cons v vs ih => intro o; exact ih (grown_set h hr o v) (o + 1)
/-- what lies from the place k on is wiped out -/
theorem NtRow.clear {w : World} {g cap : Nat} {d : Array (Int × Int)} (h : NtRow w g cap d) {k : Nat} (hk : k ≤ d.size) (vs : List Value) : NtRow (w.setCells g (k * 2) vs) g cap (d.extract 0 k) := by
  obtain ⟨cur, h1, h2, h3, h4, h5⟩ := h
  obtain ⟨cur', h6, h7, h8⟩ := heap_setCells_same w g _ vs (k * 2) cur h1
  refine ⟨cur', h6, by omega, h3, by simp; omega, fun i hi => ?_⟩
  have hi' : i < k := by simp at hi; omega
  have e : (d.extract 0 k)[i]! = d[i]! := by
    rw [getElem!_pos (d.extract 0 k) i hi, getElem!_pos d i (by omega)]
    simp
  rw [e, h8 _ (by omega), h8 _ (by omega)]
  exact h5 i (by omega)
theorem run_clear_notes (w : World) (ty : TypeId) (g n c cap : Nat) (k : Nat) (d : Array (Int × Int)) (hn : 0 < n) (h : NtRow w g cap d) (hk : k + n = d.size) :
    ∃ vs, (Builtin.clear_ #[38] ty #[.slice (some ⟨g, k * 2, none⟩) n c]).run Tryz.prog w = .ok (.tuple #[]) (w.setCells g (k * 2) vs) := by
  have h0 := h
  obtain ⟨cur, h1, h2, h3, h4, h5⟩ := h
  have hlen : (Builtin.zeroCells (Value.agg #[.int .i16 0, .int .i8 0]).cells n).toList.length = n * 2 := by simp [Builtin.zeroCells, Value.cells]
  have hone : ∀ v ∈ (Builtin.zeroCells (Value.agg #[.int .i16 0, .int .i8 0]).cells n).toList, v.oneCell' = true := by
    intro v hv
    simp only [Builtin.zeroCells, Value.cells, Array.toList_map, List.mem_map] at hv
    obtain ⟨i, _, rfl⟩ := hv
    have : i % 2 = 0 ∨ i % 2 = 1 := by omega
    rcases this with e | e <;> simp [e, Value.oneCell']
  have hst := run_storeCells_cells (P := Tryz.prog) g (k * 2) (Builtin.zeroCells (Value.agg #[.int .i16 0, .int .i8 0]).cells n).toList 0 w
    (fun j hj => by rw [row_cell _ h1, Array.getElem?_eq_getElem (by omega)]; rfl) (fun j hj => by have := frozen_of_row w g (k * 2 + 0 + j) _ _ h1; exact this) hone
  rw [Nat.add_zero] at hst
  refine ⟨(Builtin.zeroCells (Value.agg #[.int .i16 0, .int .i8 0]).cells n).toList, ?_⟩
  have hv := Tryz.zeroValue75
  obtain ⟨m, rfl⟩ : ∃ m, n = m + 1 := ⟨n - 1, by omega⟩
  simp [Builtin.clear_, run_underlying Tryz.underlying38, hv, hst]
  all_goals rfl
theorem compact_same (d : Array (Int × Int)) (h : ∀ j, j < d.size → Lib.keeps d j = true) : Lib.compactUpTo d d.size = d.toList := by rw [Lib.compactUpTo_all d _ h, Lib.range_map_get]
theorem toList_at (d : Array (Int × Int)) (i : Nat) (hi : i < d.toList.length) : d.toList[i]? = some d[i]! := by
  have hi' : i < d.size := by simpa using hi
  rw [List.getElem?_eq_getElem hi, getElem!_pos d i hi']; simp
set_option maxRecDepth 100000 in
set_option maxHeartbeats 2000000 in
theorem compactNote_any (g cap n : Nat) (d : Array (Int × Int)) (w : World) (hnd : d.size = n) (hn : n ≤ 1048576) (hh : NtRow w g cap d) :
    Calls Tryz.prog 109 #[.slice (some ⟨g, 0, none⟩) n cap] w fun e w' => e = .returned (.slice (some ⟨g, 0, none⟩) (Lib.compactUpTo d n).length cap) ∧ w.grownBy w' (some g) ∧
      ∃ dk, NtRow w' g cap dk ∧ (Lib.compactUpTo d n).length ≤ dk.size ∧ ∀ i, i < (Lib.compactUpTo d n).length → (Lib.compactUpTo d n)[i]? = some dk[i]! := by
  have H0 := Lib.hid hh; clear hh
  have HND := Lib.hid hnd
  have HS := Lib.hid (show (∀ j, j < n → Lib.keeps d j = true) → Lib.compactUpTo d n = d.toList ∧ (Lib.compactUpTo d n).length = n from fun h => by subst hnd; have := compact_same d h; exact ⟨this, by rw [this]; simp⟩)
  have hcap : n ≤ cap := by obtain ⟨cur, _, _, _, h, _⟩ := H0.out; omega
  clear hnd
  by_cases h2 : n < 2
  · have h2' : (n : Int) < 2 := by omega
    go_enter Tryz.func109, Tryz.ntmps109
    go_wp2
    go_ret
    obtain ⟨e1, e2⟩ := HS.out fun j hj => Lib.keeps_lt_one d j (by omega)
    refine ⟨by rw [e2]; rfl, grown_refl _ _, d, H0.out, by rw [e2, HND.out]; exact Nat.le_refl _, fun i hi => ?_⟩
    rw [e1] at hi ⊢
    exact toList_at d i hi
  · go_enter Tryz.func109, Tryz.ntmps109
    go_wp2
    go_loopw [3] (fun i w' => w.grownBy w' (some g) ∧ NtRow w' g cap d ∧ ∃ k : Nat, 1 ≤ k ∧ k ≤ n ∧ i = .int .i64 k ∧ ∀ j, j < k → Lib.keeps d j = true) (fun i _ => n - (intOf i).toNat)
    case atStart => exact ⟨grown_refl _ _, H0.out, 1, by omega, by omega, rfl, fun j hj => Lib.keeps_lt_one d j hj⟩
    case round =>
      clear H0
      obtain ⟨hgr, hrow, k, hk1, hk, rfl, hall⟩ := hrel
      have HG := Lib.hid hgr; have HR := Lib.hid hrow; have HA := Lib.hid hall; clear hgr hrow hall
      by_cases hlt : k < n
      · have hlt' : (k : Int) < n := by omega
        obtain ⟨p, rfl⟩ : ∃ p, k = p + 1 := ⟨k - 1, by omega⟩
        have hgl : g < wr.heap.size := by obtain ⟨cur, h, _⟩ := HR.out; exact (Array.getElem?_eq_some_iff.1 h).1
        obtain ⟨x, hx⟩ : ∃ x, d[p + 1]! = x := ⟨_, rfl⟩
        obtain ⟨y, hy⟩ : ∃ y, d[p]! = y := ⟨_, rfl⟩
        have c1 := HR.out.cell (i := p + 1) (by rw [HND.out]; omega)
        have c0 := HR.out.cell (i := p) (by rw [HND.out]; omega)
        rw [hx] at c1; rw [hy] at c0
        have HXY := Lib.hid (show d[p + 1]! = x ∧ d[p + 1 - 1]! = y from ⟨hx, by rw [Nat.add_sub_cancel]; exact hy⟩)
        clear hx hy
        have KX0 := kp_cell c1.1 hgl; have KX1 := kp_cell c1.2 hgl; have KY0 := kp_cell c0.1 hgl; have KY1 := kp_cell c0.2 hgl
        clear c0 c1
        have q1 : IntKind.i64.wrap (((p + 1 : Nat) : Int) - 1) = p := by rw [i64_id (by omega)]; omega
        have q2 : ((p : Int) < n) := by omega
        have heq := eql_note x y
        have hgd := guard_note
        go_wp2
        obtain ⟨W, rfl⟩ : ∃ U, U = wr := ⟨wr, rfl⟩
        have hS0 := below_drew W
        refine wp_region_S (fun V => Below W.heap.size W V) (by kernel_rfl) hS0 ?_
        refine take_val 0 (.slice (some ⟨g, 0, none⟩) n cap) rfl (by kernel_rfl) (by kernel_rfl) (by kernel_rfl) (fun _ _ _ h => h) rfl (fun V hV => by simp [go_sem]) hS0 ?_
        simp only [List.getElem_toArray, List.getElem_cons_zero, List.getElem_cons_succ, Act.put, List.setIfInBounds_toArray, List.set_cons_zero, List.set_cons_succ]
        refine take_val 1 (.int .i64 ((p + 1 : Nat) : Int)) rfl (by kernel_rfl) (by kernel_rfl) (by kernel_rfl) (fun _ _ _ h => h) rfl (fun V hV => by simp [go_sem]) hS0 ?_
        simp only [List.getElem_toArray, List.getElem_cons_zero, List.getElem_cons_succ, Act.put, List.setIfInBounds_toArray, List.set_cons_zero, List.set_cons_succ]
        refine take_val 2 (.pointer (some ⟨g, (p + 1) * 2, none⟩)) rfl (by kernel_rfl) (by kernel_rfl) (by kernel_rfl) (fun _ _ _ h => h) rfl (fun V hV => by have h9 : ((p : Int) + 1).toNat = p + 1 := (by omega); simp [go_sem, h9]; intro h; omega) hS0 ?_
        simp only [List.getElem_toArray, List.getElem_cons_zero, List.getElem_cons_succ, Act.put, List.setIfInBounds_toArray, List.set_cons_zero, List.set_cons_succ]
        refine take_val 3 (.agg #[.int .i16 x.1, .int .i8 x.2]) rfl (by kernel_rfl) (by kernel_rfl) (by kernel_rfl) (fun _ _ _ h => h) rfl (fun V hV => by have c0 := KX0.at hV; have c1 := KX1.at hV; simp [go_sem, c0, c1]) hS0 ?_
        simp only [List.getElem_toArray, List.getElem_cons_zero, List.getElem_cons_succ, Act.put, List.setIfInBounds_toArray, List.set_cons_zero, List.set_cons_succ]
        refine take_val 4 (.slice (some ⟨g, 0, none⟩) n cap) rfl (by kernel_rfl) (by kernel_rfl) (by kernel_rfl) (fun _ _ _ h => h) rfl (fun V hV => by simp [go_sem]) hS0 ?_
        simp only [List.getElem_toArray, List.getElem_cons_zero, List.getElem_cons_succ, Act.put, List.setIfInBounds_toArray, List.set_cons_zero, List.set_cons_succ]
        refine take_val 5 (.int .i64 ((p + 1 : Nat) : Int)) rfl (by kernel_rfl) (by kernel_rfl) (by kernel_rfl) (fun _ _ _ h => h) rfl (fun V hV => by simp [go_sem]) hS0 ?_
        simp only [List.getElem_toArray, List.getElem_cons_zero, List.getElem_cons_succ, Act.put, List.setIfInBounds_toArray, List.set_cons_zero, List.set_cons_succ]
        refine take_val 6 (.int .i64 (p : Int)) rfl (by kernel_rfl) (by kernel_rfl) (by kernel_rfl) (fun _ _ _ h => h) rfl (fun V hV => by have := i64_id (x := (p : Int)) (by omega); simp [go_sem, this]) hS0 ?_
        simp only [List.getElem_toArray, List.getElem_cons_zero, List.getElem_cons_succ, Act.put, List.setIfInBounds_toArray, List.set_cons_zero, List.set_cons_succ]
        refine take_val 7 (.pointer (some ⟨g, p * 2, none⟩)) rfl (by kernel_rfl) (by kernel_rfl) (by kernel_rfl) (fun _ _ _ h => h) rfl (fun V hV => by simp [go_sem]; intro h; omega) hS0 ?_
        simp only [List.getElem_toArray, List.getElem_cons_zero, List.getElem_cons_succ, Act.put, List.setIfInBounds_toArray, List.set_cons_zero, List.set_cons_succ]
        refine take_val 8 (.agg #[.int .i16 y.1, .int .i8 y.2]) rfl (by kernel_rfl) (by kernel_rfl) (by kernel_rfl) (fun _ _ _ h => h) rfl (fun V hV => by have c0 := KY0.at hV; have c1 := KY1.at hV; simp [go_sem, c0, c1]) hS0 ?_
        simp only [List.getElem_toArray, List.getElem_cons_zero, List.getElem_cons_succ, Act.put, List.setIfInBounds_toArray, List.set_cons_zero, List.set_cons_succ]
        refine take_val 9 (.bool (decide (x = y))) rfl (by kernel_rfl) (by kernel_rfl) (by kernel_rfl) (fun _ _ _ h => h) rfl (fun V hV => by simp [go_sem, heq, hgd]) hS0 ?_
        simp only [List.getElem_toArray, List.getElem_cons_zero, List.getElem_cons_succ, Act.put, List.setIfInBounds_toArray, List.set_cons_zero, List.set_cons_succ]
        refine wpAnyH_done (by kernel_rfl) ?_ _
        have HG1 := Lib.hid (grown_dr HG.out); have HR1 := Lib.hid HR.out.drew
        clear hS0 KX0 KX1 KY0 KY1 HG HR
        generalize W.drew = W1 at HG1 HR1 ⊢
        by_cases hdup : x = y
        · subst hdup
          have q3 : decide (x = x) = true := by simp
          rw [q3]
          have hst := Lib.hid (Lib.CompInv.start HA.out (Lib.keeps_neg (d := d) (m := p + 1) (by omega) (by rw [HXY.out.1, HXY.out.2])))
          have q4 : (n : Int) - ((p + 1 : Nat) : Int) = ((n - (p + 1) : Nat) : Int) := by omega
          have q5 : (cap : Int) - ((p + 1 : Nat) : Int) = ((cap - (p + 1) : Nat) : Int) := by omega
          have q6 : ((p + 1 : Nat) : Int) ≤ n := by omega
          have q7 : ((p + 1 : Nat) : Int) ≤ cap := by omega
          clear heq q3
          go_wp2
          clear q4 q5 q6 q7 hlt hlt'
          go_loopw [3, 5] (fun i j w' => w.grownBy w' (some g) ∧ ∃ kk k2 : Nat, ∃ dk : Array (Int × Int), 1 ≤ k2 ∧ p + 1 + k2 ≤ n ∧ i = .int .i64 kk ∧ j = .int .i64 k2 ∧ NtRow w' g cap dk ∧ Lib.CompInv d (p + 1 + k2) kk dk) (fun _ j _ => n - (intOf j).toNat)
          case atStart => exact ⟨HG1.out, p + 1, 1, d, by omega, by omega, rfl, rfl, HR1.out, hst.out⟩
          case round =>
            clear HG1 HR1 hst HA HXY
            obtain ⟨hgr, kk, k2, dk, hk21, hk2, rfl, rfl, hrow, hinv⟩ := hrel
            have hkk := hinv.lt
            have hds := hinv.size
            rw [HND.out] at hds
            have HG := Lib.hid hgr; have HR := Lib.hid hrow; have HI := Lib.hid hinv; have HDS := Lib.hid hds; clear hgr hrow hinv hds
            by_cases hlt : p + 1 + k2 < n
            · obtain ⟨r, rfl⟩ : ∃ r, k2 = r + 1 := ⟨k2 - 1, by omega⟩
              have hgl : g < wr.heap.size := by obtain ⟨cur, h, _⟩ := HR.out; exact (Array.getElem?_eq_some_iff.1 h).1
              obtain ⟨x, hx⟩ : ∃ x, d[p + 1 + (r + 1)]! = x := ⟨_, rfl⟩
              obtain ⟨y, hy⟩ : ∃ y, d[p + 1 + r]! = y := ⟨_, rfl⟩
              have c1 := HR.out.cell (i := p + 1 + (r + 1)) (by rw [HDS.out]; omega)
              have c0 := HR.out.cell (i := p + 1 + r) (by rw [HDS.out]; omega)
              rw [HI.out.high _ (by omega), hx] at c1; rw [HI.out.high _ (by omega), hy] at c0
              have HXY := Lib.hid (show d[p + 1 + (r + 1)]! = x ∧ d[p + 1 + (r + 1) - 1]! = y from ⟨hx, by rw [show p + 1 + (r + 1) - 1 = p + 1 + r by omega]; exact hy⟩)
              clear hx hy
              have KX0 := kp_cell c1.1 hgl; have KX1 := kp_cell c1.2 hgl; have KY0 := kp_cell c0.1 hgl; have KY1 := kp_cell c0.2 hgl
              clear c0 c1
              have q8 : ((r + 1 : Nat) : Int) < ((n - (p + 1) : Nat) : Int) := by omega
              have q2 : (r : Int) < ((n - (p + 1) : Nat) : Int) := by omega
              have heq := neq_note x y
              go_wp2
              obtain ⟨W, rfl⟩ : ∃ U, U = wr := ⟨wr, rfl⟩
              have hS0 := below_drew W
              refine wp_region_S (fun V => Below W.heap.size W V) (by kernel_rfl) hS0 ?_
              refine take_val 0 (.slice (some ⟨g, (p + 1) * 2, none⟩) (n - (p + 1)) (cap - (p + 1))) rfl (by kernel_rfl) (by kernel_rfl) (by kernel_rfl) (fun _ _ _ h => h) rfl (fun V hV => by simp [go_sem]) hS0 ?_
              simp only [List.getElem_toArray, List.getElem_cons_zero, List.getElem_cons_succ, Act.put, List.setIfInBounds_toArray, List.set_cons_zero, List.set_cons_succ]
              refine take_val 1 (.int .i64 ((r + 1 : Nat) : Int)) rfl (by kernel_rfl) (by kernel_rfl) (by kernel_rfl) (fun _ _ _ h => h) rfl (fun V hV => by simp [go_sem]) hS0 ?_
              simp only [List.getElem_toArray, List.getElem_cons_zero, List.getElem_cons_succ, Act.put, List.setIfInBounds_toArray, List.set_cons_zero, List.set_cons_succ]
              refine take_val 2 (.pointer (some ⟨g, (p + 1) * 2 + (r + 1) * 2, none⟩)) rfl (by kernel_rfl) (by kernel_rfl) (by kernel_rfl) (fun _ _ _ h => h) rfl (fun V hV => by have h9 : ((r : Int) + 1).toNat = r + 1 := (by omega); simp [go_sem, h9]; intro h; omega) hS0 ?_
              simp only [List.getElem_toArray, List.getElem_cons_zero, List.getElem_cons_succ, Act.put, List.setIfInBounds_toArray, List.set_cons_zero, List.set_cons_succ]
              refine take_val 3 (.agg #[.int .i16 x.1, .int .i8 x.2]) rfl (by kernel_rfl) (by kernel_rfl) (by kernel_rfl) (fun _ _ _ h => h) rfl (fun V hV => by have c0 := KX0.at hV; have c1 := KX1.at hV; rw [show (p + 1 + (r + 1)) * 2 = (p + 1) * 2 + (r + 1) * 2 by omega] at c0 c1; simp [go_sem, c0, c1]) hS0 ?_
              simp only [List.getElem_toArray, List.getElem_cons_zero, List.getElem_cons_succ, Act.put, List.setIfInBounds_toArray, List.set_cons_zero, List.set_cons_succ]
              refine take_val 4 (.slice (some ⟨g, (p + 1) * 2, none⟩) (n - (p + 1)) (cap - (p + 1))) rfl (by kernel_rfl) (by kernel_rfl) (by kernel_rfl) (fun _ _ _ h => h) rfl (fun V hV => by simp [go_sem]) hS0 ?_
              simp only [List.getElem_toArray, List.getElem_cons_zero, List.getElem_cons_succ, Act.put, List.setIfInBounds_toArray, List.set_cons_zero, List.set_cons_succ]
              refine take_val 5 (.int .i64 ((r + 1 : Nat) : Int)) rfl (by kernel_rfl) (by kernel_rfl) (by kernel_rfl) (fun _ _ _ h => h) rfl (fun V hV => by simp [go_sem]) hS0 ?_
              simp only [List.getElem_toArray, List.getElem_cons_zero, List.getElem_cons_succ, Act.put, List.setIfInBounds_toArray, List.set_cons_zero, List.set_cons_succ]
              refine take_val 6 (.int .i64 (r : Int)) rfl (by kernel_rfl) (by kernel_rfl) (by kernel_rfl) (fun _ _ _ h => h) rfl (fun V hV => by have := i64_id (x := (r : Int)) (by omega); simp [go_sem, this]) hS0 ?_
              simp only [List.getElem_toArray, List.getElem_cons_zero, List.getElem_cons_succ, Act.put, List.setIfInBounds_toArray, List.set_cons_zero, List.set_cons_succ]
              refine take_val 7 (.pointer (some ⟨g, (p + 1) * 2 + r * 2, none⟩)) rfl (by kernel_rfl) (by kernel_rfl) (by kernel_rfl) (fun _ _ _ h => h) rfl (fun V hV => by simp [go_sem]; intro h; omega) hS0 ?_
              simp only [List.getElem_toArray, List.getElem_cons_zero, List.getElem_cons_succ, Act.put, List.setIfInBounds_toArray, List.set_cons_zero, List.set_cons_succ]
              refine take_val 8 (.agg #[.int .i16 y.1, .int .i8 y.2]) rfl (by kernel_rfl) (by kernel_rfl) (by kernel_rfl) (fun _ _ _ h => h) rfl (fun V hV => by have c0 := KY0.at hV; have c1 := KY1.at hV; rw [show (p + 1 + r) * 2 = (p + 1) * 2 + r * 2 by omega] at c0 c1; simp [go_sem, c0, c1]) hS0 ?_
              simp only [List.getElem_toArray, List.getElem_cons_zero, List.getElem_cons_succ, Act.put, List.setIfInBounds_toArray, List.set_cons_zero, List.set_cons_succ]
              refine take_val 9 (.bool (!decide (x = y))) rfl (by kernel_rfl) (by kernel_rfl) (by kernel_rfl) (fun _ _ _ h => h) rfl (fun V hV => by simp [go_sem, heq, hgd]) hS0 ?_
              simp only [List.getElem_toArray, List.getElem_cons_zero, List.getElem_cons_succ, Act.put, List.setIfInBounds_toArray, List.set_cons_zero, List.set_cons_succ]
              refine wpAnyH_done (by kernel_rfl) ?_ _
              have HG1 := Lib.hid (grown_dr HG.out); have HR1 := Lib.hid HR.out.drew
              have KX0' := (KX0.at hS0 : _); have KX1' := (KX1.at hS0 : _)
              clear hS0 KX0 KX1 KY0 KY1 HG HR
              generalize W.drew = W1 at HG1 HR1 KX0' KX1' ⊢
              by_cases hdup : x = y
              · subst hdup
                have q3 : (!decide (x = x)) = false := by simp
                rw [q3]
                have HN := Lib.hid (Lib.keeps_neg (d := d) (m := p + 1 + (r + 1)) (by omega) (by rw [HXY.out.1, HXY.out.2]))
                clear heq q3
                go_wp2
                go_roundw
                case rel => exact ⟨HG1.out, kk, r + 1 + 1, dk, by omega, by omega, rfl, by go_num, HR1.out, by have := HI.out.skip HN.out; exact this⟩
                case measure => simp [intOf]; omega
              · have q3 : (!decide (x = y)) = true := by simp [hdup]
                rw [q3]
                have HN := Lib.hid (Lib.keeps_pos (d := d) (m := p + 1 + (r + 1)) (by rw [HXY.out.1, HXY.out.2]; exact hdup))
                have q9 : (kk : Int) < n := by omega
                rw [show (p + 1 + (r + 1)) * 2 = (p + 1) * 2 + (r + 1) * 2 by omega] at KX0' KX1'
                obtain ⟨cur, hr, hrest⟩ := HR1.out
                have f0 := frozen_of_row W1 g (kk * 2) _ _ hr
                have f1 := frozen_of_row W1 g (kk * 2 + 1) _ _ hr
                have k0 := HR1.out.cell (i := kk) (by rw [HDS.out]; omega)
                have k1 := k0.2
                replace k0 := k0.1
                clear hr hrest heq q3
                go_wp2
                go_roundw
                case rel => exact ⟨grown_set (grown_set HG1.out rfl (kk * 2) (.int .i16 x.1)) rfl (kk * 2 + 1) (.int .i8 x.2), kk + 1, r + 1 + 1, dk.setIfInBounds kk x, by omega, by omega, by go_num, by go_num, HR1.out.set (by rw [HDS.out]; omega) x, by have := HI.out.keep (by rw [HND.out]; omega) HN.out; rw [HXY.out.1] at this; exact this⟩
                case measure => simp [intOf]; omega
            · have hend : p + 1 + k2 = n := by omega
              have hk3 : k2 = n - (p + 1) := by omega
              subst hk3
              obtain ⟨vs, hcl⟩ : ∃ vs, ∀ ty, (Builtin.clear_ #[38] ty #[.slice (some ⟨g, kk * 2, none⟩) (n - kk) (cap - kk)]).run Tryz.prog wr = .ok (.tuple #[]) (wr.setCells g (kk * 2) vs) := by
                obtain ⟨vs, h⟩ := run_clear_notes wr 0 g (n - kk) (cap - kk) cap kk dk (by omega) HR.out (by rw [HDS.out]; omega)
                exact ⟨vs, fun ty => h⟩
              have q4 : (n : Int) - (kk : Int) = ((n - kk : Nat) : Int) := by omega
              have q5 : (cap : Int) - (kk : Int) = ((cap - kk : Nat) : Int) := by omega
              have q6 : (kk : Int) ≤ n := by omega
              have q7 : (kk : Int) ≤ cap := by omega
              go_wp2
              go_ret
              have hlen := HI.out.len
              rw [hend] at hlen
              refine ⟨by rw [hlen]; rfl, grown_sets HG.out rfl vs _, _, HR.out.clear (by rw [HDS.out]; omega) vs, ?_, fun i hi => ?_⟩
              · rw [hlen]; simp; rw [HDS.out]; omega
              · rw [hlen] at hi
                have := HI.out.low i hi
                rw [hend] at this
                rw [this, getElem!_pos dk i (by rw [HDS.out]; omega), getElem!_pos (dk.extract 0 kk) i (by simp; rw [HDS.out]; omega)]
                simp
        · have q3 : decide (x = y) = false := by simp [hdup]
          rw [q3]
          have HN := Lib.hid (Lib.keeps_pos (d := d) (m := p + 1) (by rw [HXY.out.1, HXY.out.2]; exact hdup))
          go_wp2
          go_roundw
          case rel => exact ⟨HG1.out, HR1.out, p + 1 + 1, by omega, by omega, by go_num, fun j hj => if e : j = p + 1 then e ▸ HN.out else HA.out j (by omega)⟩
          case measure => simp [intOf]; omega
      · have hkn : k = n := by omega
        subst hkn
        go_wp2
        go_ret
        obtain ⟨e1, e2⟩ := HS.out HA.out
        refine ⟨by rw [e2]; rfl, HG.out, d, HR.out, by rw [e2, HND.out]; exact Nat.le_refl _, fun i hi => ?_⟩
        rw [e1] at hi ⊢
        exact toList_at d i hi

/-! Notes are made a tune: cloned, sorted, made compact. No conditions. -/
open Go.Shelf
set_option linter.unusedVariables false
set_option linter.unusedSimpArgs false

set_option maxRecDepth 100000 in
set_option maxHeartbeats 1000000 in
theorem compareNotes_lays (a p b q : Int) (w : World) :
    Calls Tryz.prog 108 #[.agg #[.int .i16 a, .int .i8 p], .agg #[.int .i16 b, .int .i8 q]] w fun e w' => e = .returned (.int .i64 (cmpN a p b q)) ∧ Lays w w' := by
  have KB := Kp.base w
  replace KB := KB.alloc (.cells #[.int .i16 a, .int .i8 p] 75)
  have K0 := kp_new1 w #[.int .i16 a, .int .i8 p] 75 (g := w.heap.size) (by simp)
  replace KB := KB.alloc (.cells #[.int .i16 b, .int .i8 q] 75)
  replace K0 := K0.alloc (.cells #[.int .i16 b, .int .i8 q] 75)
  have K1 := kp_new1 (w.alloc (.cells #[.int .i16 a, .int .i8 p] 75)) #[.int .i16 b, .int .i8 q] 75 (g := w.heap.size + 1) (by simp)
  have HZ := Lib.hid (show ((w.alloc (.cells #[.int .i16 a, .int .i8 p] 75)).alloc (.cells #[.int .i16 b, .int .i8 q] 75)).heap.size = w.heap.size + 1 + 1 by simp)
  go_enter Tryz.func108, Tryz.ntmps108
  go_wp2
  have HLL := Lib.hid (((Lays.refl w).alloc (.cells #[.int .i16 a, .int .i8 p] 75)).alloc (.cells #[.int .i16 b, .int .i8 q] 75))
  generalize ((w.alloc (.cells #[.int .i16 a, .int .i8 p] 75)).alloc (.cells #[.int .i16 b, .int .i8 q] 75)) = W at KB K0 K1 HZ HLL ⊢
  clear HZ
  have hS0 := below_drew W
  refine wp_region_S (fun V => Below W.heap.size W V) (by kernel_rfl) hS0 ?_
  refine take_val 0 (.pointer (some ⟨w.heap.size, 0, none⟩)) rfl (by kernel_rfl) (by kernel_rfl) (by kernel_rfl) (fun _ _ _ h => h) rfl (fun V hV => by simp [go_sem]) hS0 ?_
  simp only [List.getElem_toArray, List.getElem_cons_zero, List.getElem_cons_succ, Act.put, List.setIfInBounds_toArray, List.set_cons_zero, List.set_cons_succ]
  refine take_val 1 (.int .i16 a) rfl (by kernel_rfl) (by kernel_rfl) (by kernel_rfl) (fun _ _ _ h => h) rfl (fun V hV => by have c := row_cell 0 (K0.at hV); simp [go_sem, c]) hS0 ?_
  simp only [List.getElem_toArray, List.getElem_cons_zero, List.getElem_cons_succ, Act.put, List.setIfInBounds_toArray, List.set_cons_zero, List.set_cons_succ]
  refine take_val 2 (.pointer (some ⟨w.heap.size + 1, 0, none⟩)) rfl (by kernel_rfl) (by kernel_rfl) (by kernel_rfl) (fun _ _ _ h => h) rfl (fun V hV => by simp [go_sem]) hS0 ?_
  simp only [List.getElem_toArray, List.getElem_cons_zero, List.getElem_cons_succ, Act.put, List.setIfInBounds_toArray, List.set_cons_zero, List.set_cons_succ]
  refine take_val 3 (.int .i16 b) rfl (by kernel_rfl) (by kernel_rfl) (by kernel_rfl) (fun _ _ _ h => h) rfl (fun V hV => by have c := row_cell 0 (K1.at hV); simp [go_sem, c]) hS0 ?_
  simp only [List.getElem_toArray, List.getElem_cons_zero, List.getElem_cons_succ, Act.put, List.setIfInBounds_toArray, List.set_cons_zero, List.set_cons_succ]
  refine take_val 5 (.pointer (some ⟨w.heap.size, 1, none⟩)) rfl (by kernel_rfl) (by kernel_rfl) (by kernel_rfl) (fun _ _ _ h => h) rfl (fun V hV => by simp [go_sem]) hS0 ?_
  simp only [List.getElem_toArray, List.getElem_cons_zero, List.getElem_cons_succ, Act.put, List.setIfInBounds_toArray, List.set_cons_zero, List.set_cons_succ]
  refine take_val 6 (.int .i8 p) rfl (by kernel_rfl) (by kernel_rfl) (by kernel_rfl) (fun _ _ _ h => h) rfl (fun V hV => by have c := row_cell 1 (K0.at hV); simp [go_sem, c]) hS0 ?_
  simp only [List.getElem_toArray, List.getElem_cons_zero, List.getElem_cons_succ, Act.put, List.setIfInBounds_toArray, List.set_cons_zero, List.set_cons_succ]
  refine take_val 7 (.pointer (some ⟨w.heap.size + 1, 1, none⟩)) rfl (by kernel_rfl) (by kernel_rfl) (by kernel_rfl) (fun _ _ _ h => h) rfl (fun V hV => by simp [go_sem]) hS0 ?_
  simp only [List.getElem_toArray, List.getElem_cons_zero, List.getElem_cons_succ, Act.put, List.setIfInBounds_toArray, List.set_cons_zero, List.set_cons_succ]
  refine take_val 8 (.int .i8 q) rfl (by kernel_rfl) (by kernel_rfl) (by kernel_rfl) (fun _ _ _ h => h) rfl (fun V hV => by have c := row_cell 1 (K1.at hV); simp [go_sem, c]) hS0 ?_
  simp only [List.getElem_toArray, List.getElem_cons_zero, List.getElem_cons_succ, Act.put, List.setIfInBounds_toArray, List.set_cons_zero, List.set_cons_succ]
  refine step_call 4 131 #[.int .i16 a, .int .i16 b] (by kernel_rfl) rfl rfl (by simp [go_sem]) ?_
  refine (compare_int16 a b _).mono ?_
  rintro e w2 ⟨rfl, rfl⟩
  refine ⟨_, rfl, hS0, ?_⟩
  simp only [List.getElem_toArray, List.getElem_cons_zero, List.getElem_cons_succ, Act.put, List.setIfInBounds_toArray, List.set_cons_zero, List.set_cons_succ]
  refine step_call 9 132 #[.int .i8 p, .int .i8 q] (by kernel_rfl) rfl rfl (by simp [go_sem]) ?_
  refine (compare_int8 p q _).mono ?_
  rintro e w2 ⟨rfl, rfl⟩
  refine ⟨_, rfl, hS0, ?_⟩
  simp only [List.getElem_toArray, List.getElem_cons_zero, List.getElem_cons_succ, Act.put, List.setIfInBounds_toArray, List.set_cons_zero, List.set_cons_succ]
  have hS1 := hS0.alloc (o := .cells #[.int .i64 (cmp1 a b), .int .i64 (cmp1 p q)] 3) hS0.size
  have hx := cmpOr_any W.drew.heap.size (cmp1 a b) (cmp1 p q) _ (heap_alloc_new W.drew _)
  rw [or2_cmp] at hx
  generalize cmp1 a b = x at hx hS1 ⊢
  generalize cmp1 p q = y at hx hS1 ⊢
  generalize hz : cmpN a p b q = z at hx ⊢
  have HZ := Lib.hid hz; clear hz
  refine step_val 10 (.slice (some ⟨W.drew.heap.size, 0, none⟩) 2 2) (W.drew.alloc (.cells #[.int .i64 x, .int .i64 y] 3)) (by kernel_rfl) rfl rfl (by simp [go_sem]) hS1 ?_
  simp only [List.getElem_toArray, List.getElem_cons_zero, List.getElem_cons_succ, Act.put, List.setIfInBounds_toArray, List.set_cons_zero, List.set_cons_succ]
  refine step_call 11 130 #[.slice (some ⟨W.drew.heap.size, 0, none⟩) 2 2] (by kernel_rfl) rfl rfl (by simp [go_sem]) ?_
  refine hx.mono ?_
  rintro e w2 ⟨rfl, rfl⟩
  refine ⟨_, rfl, hS1, ?_⟩
  simp only [List.getElem_toArray, List.getElem_cons_zero, List.getElem_cons_succ, Act.put, List.setIfInBounds_toArray, List.set_cons_zero, List.set_cons_succ]
  refine take_val 12 (.int .i64 z) rfl (by kernel_rfl) (by kernel_rfl) (by kernel_rfl) (fun _ _ _ h => h) rfl (fun V hV => by simp [go_sem]) hS1 ?_
  simp only [List.getElem_toArray, List.getElem_cons_zero, List.getElem_cons_succ, Act.put, List.setIfInBounds_toArray, List.set_cons_zero, List.set_cons_succ]
  refine wpAnyH_done (by kernel_rfl) ?_ _
  have hbe := (HLL.out.drew).alloc (.cells #[.int .i64 x, .int .i64 y] 3)
  go_wp2
  go_ret
  exact ⟨ret_int HZ.out.symm, hbe⟩
theorem ltOf_cmpN : Go.Proofs.ltOf (fun x y : Int × Int => cmpN x.1 x.2 y.1 y.2) = bfN := by
  funext x y
  have h := cmpN_neg x.1 x.2 y.1 y.2
  unfold Go.Proofs.ltOf bfN
  rw [Bool.eq_iff_iff, decide_eq_true_iff]
  exact h
theorem sortNote_own {g base n cap : Nat} {l : List (Int × Int)} {w : World} (hown : OwnN w base (.slice (some ⟨g, 0, none⟩) n cap) l) (hn : n ≤ 1048576) :
    Calls Tryz.prog 107 #[.slice (some ⟨g, 0, none⟩) n cap, .func (.func 108) #[] #[]] w fun e w' => e = .returned (.tuple #[]) ∧ ∃ d : Array (Int × Int), d.size = n ∧ d.toList.Perm l ∧ (∀ i j, i < j → j < d.size → bfN d[j]! d[i]! = false) ∧
      OwnN w' base (.slice (some ⟨g, 0, none⟩) n cap) d.toList ∧ ∀ B, B ≤ g → Below B w w' := by
  obtain ⟨hnl, hg, cur, hb, _⟩ := OwnL.row encN_len hown
  have hgl : g < w.heap.size := (Array.getElem?_eq_some_iff.1 hb).1
  have hs : l.toArray.size = n := by simp [hnl]
  have hc := AnyQ.slices_SortFunc laysSortN 2 Tryz.isAgg75 Tryz.sizeOf75 encN encN_len encN_one (fun x y : Int × Int => cmpN x.1 x.2 y.1 y.2) (by rw [ltOf_cmpN]; exact bfN_swo) 108 #[] g 0 cap l.toArray w
    (call_enter _ _ Tryz.func108 (by kernel_rfl) (by kernel_rfl)) (fun m os dk _ x y => compareNotes_lays x.1 x.2 y.1 y.2 _) (OwnL.holdsK encN_len hown) hgl (by rw [hs]; omega)
  rw [hs] at hc
  refine Calls.mono hc ?_
  rintro e w' ⟨rfl, d, q, os, hp, hso, rfl⟩
  rw [← hs] at hp
  obtain ⟨h1, h2⟩ := perm_of_permIn hp
  obtain ⟨h3, h4⟩ := OwnL.sorted encN_len hown (d := d) (by rw [h1, hs]) q os
  refine ⟨rfl, d, by rw [h1, hs], by simpa using h2, fun i j hij hj => ?_, h3, h4⟩
  rw [← ltOf_cmpN]
  exact hso i j (Nat.zero_le _) hij (by rw [h1, hs] at hj; exact hj)
theorem sortNote_none (c : Nat) (fv : Value) (p : Option Addr) (w : World) :
    Calls Tryz.prog 107 #[.slice p 0 c, fv] w fun e w' => e = .returned (.tuple #[]) ∧ w' = w := AnyF.slices_SortFunc_none laysSortN p c fv w
theorem noteFlat {w : World} {g off : Nat} {l : List (Int × Int)} (h : ∀ i, i < l.length → w.cell? ⟨g, off + i * 2, none⟩ = some (.int .i16 (l.getD i (0, 0)).1) ∧ w.cell? ⟨g, off + i * 2 + 1, none⟩ = some (.int .i8 (l.getD i (0, 0)).2)) :
    ∀ j u, (l.flatMap encN)[j]? = some u → w.cell? ((⟨g, off, none⟩ : Addr).add j) = some u := by
  intro j u hu
  have hj : j < l.length * 2 := by have := (List.getElem?_eq_some_iff.1 hu).1; rwa [flat_len encN 2 encN_len] at this
  have h1 : j / 2 < l.length := by omega
  have h2 : j / 2 * 2 + j % 2 = j := by omega
  have e : (⟨g, off, none⟩ : Addr).add j = ⟨g, off + j, none⟩ := by unfold Addr.add; split <;> simp_all
  rw [← h2, flat_get encN 2 encN_len _ _ _ (List.getElem?_eq_getElem h1) _ (by omega)] at hu
  have h3 := h _ h1
  rw [getD_at h1] at h3
  rw [e]
  obtain h4 | h4 : j % 2 = 0 ∨ j % 2 = 1 := by omega
  · rw [h4] at hu; rw [show off + j = off + j / 2 * 2 by omega, h3.1]; simpa [encN] using hu
  · rw [h4] at hu; rw [show off + j = off + j / 2 * 2 + 1 by omega, h3.2]; simpa [encN] using hu
set_option maxRecDepth 100000 in
/-- a list of notes is cloned; what is not nil stays so -/
theorem cloneNote_any (ad : Addr) (n c : Nat) (l : List (Int × Int)) (w : World) (hn : l.length = n) (hl : n ≤ 1048576) (hh : NoteAt w (some ad) l.length (fun i => (l.getD i (0, 0)).1) (fun i => (l.getD i (0, 0)).2)) :
    Calls Tryz.prog 106 #[.slice (some ad) n c] w fun e w' => ∃ v, e = .returned v ∧ Below w.heap.size w w' ∧ OwnN w' w.heap.size v l := by
  have hc : ∀ j u, (l.flatMap encN)[j]? = some u → (w.alloc (.cells #[] 75)).cell? (ad.add j) = some u := by
    by_cases h0 : 0 < n
    · obtain ⟨g, off, e, hg, hc⟩ := NoteAt.get hh (by omega)
      simp at e; subst e
      have hb : Below w.heap.size w (w.alloc (.cells #[] 75)) := (Below.refl _ _).alloc (Nat.le_refl _) _
      intro j u hu
      have e : (⟨g, off, none⟩ : Addr).add j = ⟨g, off + j, none⟩ := by unfold Addr.add; split <;> simp_all
      have := noteFlat hc j u hu
      rw [e] at this ⊢
      rw [hb.cell (p := ⟨g, off + j, none⟩) hg]; exact this
    · have hn0 : l = [] := List.eq_nil_of_length_eq_zero (by omega)
      subst hn0
      intro j u hu
      simp at hu
  have HC := Lib.hid hc; clear hc hh
  have hn0 : OwnN (w.alloc (.cells #[] 75)) w.heap.size (.slice (some ⟨w.heap.size, 0, none⟩) 0 0) [] := OwnL.nil w w.heap.size (Nat.le_refl _)
  have HN0 := Lib.hid hn0; clear hn0
  have HL := Lib.hid hn; clear hn
  have hq : ∀ w : World, (binOp .eql 38 (.slice (some ad) n c) (.slice none 0 0)).run Tryz.prog w = .ok (.bool false) w := fun _ => rfl
  go_enter Tryz.func106, Tryz.ntmps106
  go_wp2_with (at_builtin; refine append_notes rfl _ _ rfl w.heap.size _ [] rfl HN0.out ad n c l HL.out rfl HC.out (by simp; omega) (by simp) ?_; intro v2 w2 hown2 hb2; have HO2 := Lib.hid hown2; have HB2 := Lib.hid hb2; clear hown2 hb2)
  go_ret
  exact ⟨_, rfl, ((Below.refl _ _).alloc (Nat.le_refl _) _).trans HB2.out, HO2.out⟩
theorem compactNote_none (p : Option Addr) (c : Nat) (w : World) :
    Calls Tryz.prog 109 #[.slice p 0 c] w fun e w' => e = .returned (.slice p 0 c) ∧ w = w' := by
  go_enter Tryz.func109, Tryz.ntmps109
  go_wp2
  go_ret
  exact ⟨rfl, rfl⟩
set_option maxRecDepth 100000 in
theorem made_any (ad : Addr) (n c : Nat) (l : List (Int × Int)) (w : World) (hn : l.length = n) (hl : n ≤ 1048576) (hh : NoteAt w (some ad) l.length (fun i => (l.getD i (0, 0)).1) (fun i => (l.getD i (0, 0)).2)) :
    Calls Tryz.prog 67 #[.slice (some ad) n c] w fun e w' => ∃ v, e = .returned v ∧ Below w.heap.size w w' ∧ OwnN w' w.heap.size v (srtN l) := by
  have hcl := cloneNote_any ad n c l w hn hl hh
  have HN := Lib.hid hn; clear hn hh
  go_enter Tryz.func67, Tryz.ntmps67
  go_wp2_with (go_at_call 106; refine hcl.mono ?_; rintro e w1 ⟨v, rfl, hb1, ho1⟩; obtain ⟨b1, c1, rfl⟩ := OwnL.form ho1; rw [HN.out] at ho1 ⊢; have HB1 := Lib.hid hb1; have HO1 := Lib.hid ho1; clear hb1 ho1 hcl)
  cases b1 with
  | none =>
    have h0 : n = 0 := by
      rcases HO1.out.2 with ⟨h, h2⟩ | ⟨g, cap, cur, h, _⟩
      · rw [HN.out] at h2; exact h2
      · injection h with h _ _; exact absurd h (by simp)
    subst h0
    have hl0 : l = [] := List.eq_nil_of_length_eq_zero HN.out
    have hsrt : srtN l = [] := by rw [hl0]; exact srtN_self List.Pairwise.nil
    have HS := Lib.hid hsrt; clear hsrt hl0
    refine (sortNote_none _ _ _ _).mono ?_
    rintro e w2 ⟨rfl, rfl⟩
    go_wp2_with (go_at_call 109; refine (compactNote_none _ _ _).mono ?_; rintro e w3 ⟨rfl, rfl⟩)
    go_ret
    have h := HO1.out
    rw [List.eq_nil_of_length_eq_zero HN.out] at h
    exact ⟨_, rfl, HB1.out, by rw [HS.out]; exact h⟩
  | some ad1 =>
    obtain ⟨g, rfl⟩ : ∃ g, ad1 = ⟨g, 0, none⟩ := by
      rcases HO1.out.2 with ⟨h, h2⟩ | ⟨g, cap, cur, h, _⟩
      · cases h
      · injection h with h _ _; injection h with h; exact ⟨g, h⟩
    refine (sortNote_own HO1.out hl).mono ?_
    rintro e w2 ⟨rfl, d, hd, hperm, hsort, ho2, hb2⟩
    have hrow := OwnN.row ho2
    have hda : d.toList.toArray = d := by simp
    rw [hda] at hrow
    have hcomp := compact_srtN l d hperm hsort
    rw [hd] at hcomp
    have hck := compactNote_any g c1 n d w2 hd hl hrow.1
    rw [hcomp] at hck
    have HG := Lib.hid hrow.2.1; have HB2 := Lib.hid hb2
    clear hrow hda hcomp hb2 hperm hsort ho2
    go_wp2_with (go_at_call 109; refine hck.mono ?_; rintro e w3 ⟨rfl, hg3, dk, hr3, hl3, hx3⟩; have HG3 := Lib.hid hg3; have HR3 := Lib.hid hr3; have HL3 := Lib.hid hl3; have HX3 := Lib.hid hx3; clear hg3 hr3 hl3 hx3 hck)
    go_ret
    have hB := (HB1.out.trans (HB2.out _ HG.out))
    refine ⟨_, rfl, hB.trans (below_grown HG3.out hB.size fun k hk => by injection hk with hk; subst hk; exact HG.out), ?_⟩
    exact HR3.out.own HG.out rfl HL3.out HX3.out
set_option maxRecDepth 100000 in
theorem cloneNote_nil (c : Nat) (w : World) : Calls Tryz.prog 106 #[.slice none 0 c] w fun e w' => e = .returned (.slice none 0 0) ∧ w = w' := by
  have hq : ∀ w : World, (binOp .eql 38 (.slice none 0 c) (.slice none 0 0)).run Tryz.prog w = .ok (.bool true) w := fun _ => rfl
  go_enter Tryz.func106, Tryz.ntmps106
  go_wp2
  go_ret
  exact ⟨rfl, rfl⟩
set_option maxRecDepth 100000 in
theorem made_nil (c : Nat) (w : World) : Calls Tryz.prog 67 #[.slice none 0 c] w fun e w' => e = .returned (.slice none 0 0) ∧ w = w' := by
  go_enter Tryz.func67, Tryz.ntmps67
  go_wp2_with (first | (go_at_call 106; refine (cloneNote_nil _ _).mono ?_; rintro e w1 ⟨rfl, rfl⟩) | (go_at_call 107; refine (sortNote_none _ _ _ _).mono ?_; rintro e w2 ⟨rfl, rfl⟩) | (go_at_call 109; refine (compactNote_none _ _ _).mono ?_; rintro e w3 ⟨rfl, rfl⟩))
  go_ret
  exact ⟨rfl, rfl⟩
/-- a list of one's own is made a tune -/
theorem made_own (base n c : Nat) (b : Option Addr) (l : List (Int × Int)) (w : World) (hl : n ≤ 1048576) (hh : OwnN w base (.slice b n c) l) :
    Calls Tryz.prog 67 #[.slice b n c] w fun e w' => ∃ v, e = .returned v ∧ Below w.heap.size w w' ∧ OwnN w' w.heap.size v (srtN l) := by
  have hn : l.length = n := by obtain ⟨b', c', e⟩ := OwnL.form hh; injection e with _ e _; exact e.symm
  cases b with
  | none =>
    have h0 : n = 0 := by
      rcases hh.2 with ⟨h, h2⟩ | ⟨g, cap, cur, h, _⟩
      · omega
      · injection h with h _ _; exact absurd h (by simp)
    subst h0
    have e : srtN l = [] := by rw [List.eq_nil_of_length_eq_zero hn]; exact srtN_self List.Pairwise.nil
    refine (made_nil c w).mono ?_
    rintro e2 w' ⟨rfl, rfl⟩
    exact ⟨_, rfl, Below.refl _ _, by rw [e]; exact OwnL.none0 _ _⟩
  | some ad => exact made_any ad n c l w hn hl (OwnN.readAt hh)
set_option maxRecDepth 100000 in
/-- a tune that is valid comes back; else none and the code -/
theorem checked_yes (q : Option Addr) (l c : Nat) (A P : Nat → Int) (code : Int) (w : World) (hl : l ≤ 1000000000) (hA : I16 A) (hP : I8 P) (hh : NoteAt w q l A P) (hv : vTune l A P = true) :
    Calls Tryz.prog 66 #[.slice q l c, .int .i64 code] w fun e w' => e = .returned (.tuple #[.slice q l c, .int .i64 0]) ∧ Below w.heap.size w w' := by
  have hcon := validTune_any q l c A P w hl hA hP hh
  rw [hv] at hcon
  clear hh
  go_enter Tryz.func66, Tryz.ntmps66
  go_wp2_with (go_at_call 105; refine hcon.mono ?_; rintro e w2 ⟨rfl, hb⟩; have HB := Lib.hid hb; clear hb hcon)
  refine bodyPost_ret (v := .tuple #[.slice q l c, .int .i64 0]) (by simp [results, Tryz.results66, go_sem]) rfl ⟨rfl, HB.out⟩
theorem checked_no (q : Option Addr) (l c : Nat) (A P : Nat → Int) (code : Int) (w : World) (hl : l ≤ 1000000000) (hA : I16 A) (hP : I8 P) (hh : NoteAt w q l A P) (hv : vTune l A P = false) :
    Calls Tryz.prog 66 #[.slice q l c, .int .i64 code] w fun e w' => e = .returned (.tuple #[.slice none 0 0, .int .i64 code]) ∧ Below w.heap.size w w' := by
  have hcon := validTune_any q l c A P w hl hA hP hh
  rw [hv] at hcon
  clear hh
  go_enter Tryz.func66, Tryz.ntmps66
  go_wp2_with (go_at_call 105; refine hcon.mono ?_; rintro e w2 ⟨rfl, hb⟩; have HB := Lib.hid hb; clear hb hcon)
  refine bodyPost_ret (v := .tuple #[.slice none 0 0, .int .i64 code]) (by simp [results, Tryz.results66, go_sem]) rfl ⟨rfl, HB.out⟩
end Go.Proofs.YteffaghcjpeblaaGreat
