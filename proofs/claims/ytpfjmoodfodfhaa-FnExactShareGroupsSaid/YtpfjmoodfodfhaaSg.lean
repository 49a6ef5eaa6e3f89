/- ShareGroups: what is laid down; drums of one's own. No conditions. -/
import Derived.Test.YtpfjmoodfodfhaaCs
import Derived.Test.YtpfjmoodfodfhaaOwnG
import Derived.Test.YtpfjmoodfodfhaaOwnI
import Derived.Outline
namespace Go.Proofs.Ytpfjmoodfodfhaa
open Go.RowKit
set_option linter.unusedVariables false
set_option linter.unusedSimpArgs false

/-! ### drums of one's own -/
def encD (D : Nat → Nat) : List Value := (dc D).toList
theorem encD_len (D : Nat → Nat) : (encD D).length = 96 := by unfold encD; rw [Array.length_toList, dc_size]
theorem encD_one (D : Nat → Nat) : ∀ u ∈ encD D, u.oneCell' = true := by
  intro u hu
  have := dc_one D
  rw [Array.all_eq_true_iff_forall_mem] at this
  exact this u (by simpa [encD] using hu)
theorem encD_get (D : Nat → Nat) (k : Nat) (h : k < 96) : (encD D)[k]? = some (.int .u32 (D k)) := by unfold encD; rw [Array.getElem?_toList]; exact dc_get D k h
theorem encD_arr (D : Nat → Nat) : (encD D).toArray = dc D := by unfold encD; exact Array.toArray_toList
abbrev D0 : Nat → Nat := fun _ => 0
/-- v owns these drums -/
def OwnD (w : World) (base : Nat) (v : Value) (l : List (Nat → Nat)) : Prop := OwnL 71 96 encD w base v l
section
variable {w w' : World} {base : Nat} {v : Value} {l : List (Nat → Nat)}
theorem OwnD.lt (h : OwnD w base v l) : ∀ k, v.ownBlock = some k → base ≤ k ∧ k < w.heap.size := OwnL.lt h
theorem OwnD.below (h : OwnD w base v l) (hb : Below w.heap.size w w') : OwnD w' base v l := OwnL.below h hb
theorem OwnD.alloc (h : OwnD w base v l) (o : Obj) : OwnD (w.alloc o) base v l := OwnL.alloc h o
theorem OwnD.mono {base' : Nat} (h : OwnD w base v l) (hb : base' ≤ base) : OwnD w base' v l := OwnL.mono h hb
theorem OwnD.nil (w : World) (base : Nat) (hb : base ≤ w.heap.size) : OwnD (w.alloc (.cells #[] 71)) base (.slice (some ⟨w.heap.size, 0, none⟩) 0 0) [] := OwnL.nil w base hb
theorem kp_OwnD (h : OwnD w base v l) : Kp w (fun V => OwnD V base v l) := kp_OwnL h
theorem OwnD.form (h : OwnD w base v l) : ∃ b c, v = .slice b l.length c := OwnL.form h
theorem OwnD.cells {b : Option Addr} {n c : Nat} (h : OwnD w base (.slice b n c) l) (hn : 0 < l.length) : ∃ g, b = some ⟨g, 0, none⟩ ∧ base ≤ g ∧ g < w.heap.size ∧ ∀ i, i < l.length → DrumCells w g (i * 96) (l.getD i D0) := by
  obtain ⟨g, rfl, hb, hg, hc⟩ := OwnL.cells encD_len h hn
  refine ⟨g, rfl, hb, hg, fun i hi k hk => ?_⟩
  have := hc i _ (List.getElem?_eq_getElem hi) k hk
  rw [encD_get _ k hk] at this
  rw [this]; simp [List.getD, List.getElem?_eq_getElem hi]
theorem OwnD.readAt {b : Option Addr} {n c : Nat} (h : OwnD w base (.slice b n c) l) : DrumsAt w b l.length (fun i => l.getD i D0) := fun hn => by
  obtain ⟨g, rfl, _, hg, hc⟩ := OwnD.cells h hn
  exact ⟨g, 0, rfl, hg, fun i hi => by rw [Nat.zero_add]; exact hc i hi⟩
/-- the j-th is stored anew -/
theorem OwnD.set {g n c : Nat} (h : OwnD w base (.slice (some ⟨g, 0, none⟩) n c) l) {j : Nat} (hj : j < l.length) (E : Nat → Nat) : OwnD (w.setCells g (j * 96) (dc E).toList) base (.slice (some ⟨g, 0, none⟩) n c) (l.set j E) ∧ w.there g (j * 96) 96 ∧
    ∃ N f f', BlkAt w 71 g N f ∧ j * 96 + (dc E).toList.length ≤ N ∧ BlkAt (w.setCells g (j * 96) (dc E).toList) 71 g N f' := by
  have hcell := (OwnD.cells h (by omega)).choose_spec.2.2.2
  have heq := (OwnD.cells h (by omega)).choose_spec.1
  injection heq with heq
  injection heq with heq
  rw [← heq] at hcell
  clear heq
  obtain ⟨hl, h0 | ⟨g', cap, cur, he, hg, hb, hc, hm, hs, ht⟩⟩ := h
  · obtain ⟨h1, h2⟩ := h0; omega
  · injection he with e1 e2 e3
    injection e1 with e1
    injection e1 with e1
    subst e1; subst e2; subst e3
    obtain ⟨f, hf⟩ := cf_of cur
    have hblk : BlkAt w 71 g (c * 96) f := by unfold BlkAt; rw [hb, ← hs, ← hf]
    have hlen : (dc E).toList.length = 96 := by rw [Array.length_toList, dc_size]
    have hle : j * 96 + 96 ≤ l.length * 96 := by rw [← Nat.succ_mul]; exact Nat.mul_le_mul_right _ hj
    have hle2 : l.length * 96 ≤ c * 96 := Nat.mul_le_mul_right _ hc
    obtain ⟨f', hf'⟩ := blk_setCells (dc E).toList hblk (o := j * 96) (by omega)
    have hth := there_part hblk.there (j * 96) 96 (by omega)
    refine ⟨?_, hth, c * 96, f, f', hblk, by omega, hf'⟩
    have hd := own_done (w := w.setCells g (j * 96) (dc E).toList) (base := base) (e := 71) (n := l.length) (size := 96) (cap := c) (f := f') hg hf' hc hm (cf_size _ _) (fun x hx => cf_get _ _ _ (by omega))
    unfold OwnD OwnL
    rw [List.length_set]
    rw [← flat_mks encD 96 encD_len (by omega) (l.set j E) f' (fun i x hi k hk => ?_), List.length_set]
    · exact hd
    · have hil : i < l.length := by have := (List.getElem?_eq_some_iff.1 hi).1; simpa using this
      have hle3 : i * 96 + 96 ≤ l.length * 96 := by rw [← Nat.succ_mul]; exact Nat.mul_le_mul_right _ hil
      have hfc := hf'.cell (i * 96 + k) (by omega)
      rw [encD_get x k hk, ← hfc]
      clear hfc hd hf' hblk hb hf ht hs
      by_cases e : i = j
      · subst e
        rw [List.getElem?_set_self hil] at hi
        have hi2 := Option.some.inj hi
        rw [← hi2]
        exact (drum_same E hth k hk).symm
      · rw [List.getElem?_set_ne (by omega)] at hi
        have hx : l.getD i D0 = x := by simp [List.getD, hi]
        have hap : i * 96 + 96 ≤ j * 96 ∨ j * 96 + 96 ≤ i * 96 := by omega
        have h5 := hcell i hil
        rw [hx] at h5
        exact (drum_apart h5 g (j * 96) E (Or.inr hap) k hk).symm
end
/-- a slice of another type keeps while cells are stored -/
theorem own_setCells {base T T2 sz n : Nat} {v : Value} {xs : List Value} {g N : Nat} (hne : T2 ≠ T) (vs : List Value) : ∀ {o : Nat} {w : World} {f : Nat → Value}, w.ownsRow base T sz v n xs → BlkAt w T2 g N f → o + vs.length ≤ N → (w.setCells g o vs).ownsRow base T sz v n xs := by
  induction vs with
  | nil => intro o w f h _ _; exact h
  | cons x r ih =>
    intro o w f h hb hl
    rw [World.setCells]
    exact ih (own_set h hb hne x) (hb.setCell o x (by simp at hl; omega)) (by simp at hl ⊢; omega)
theorem ex_store_drum_mid {o : Oper} {a : Act} {w : World} (x y : Operand) (ho : o.op = .store 71 x y) (g p : Nat) (E : Nat → Nat) (hx : a.eval x = .pointer (some ⟨g, p, none⟩)) (hy : a.eval y = .agg (dc E)) (ht : w.there g p 96) :
    (execOp a.eval o).run Try.prog w = .ok .skip (w.setCells g p (dc E).toList) := by
  unfold execOp
  simp only [ho, hx, hy, Sem.run_bind, run_storeAt_mid w g p 71 (dc E) (by rw [dc_size]; exact ht) (by rw [dc_size]; exact size_drum) (dc_one E), Result.andThen_ok]
  rfl
/-! ### the groups -/
/-- the union of a group -/
def uniL (L : Nat → Nat → Nat) (g : List Nat) : Nat → Nat := unionTo (fun t => L (g.getD t 0)) g.length
theorem unionTo_congr {L L' : Nat → Nat → Nat} : ∀ (m : Nat), (∀ t, t < m → L t = L' t) → unionTo L m = unionTo L' m := by
  intro m
  induction m with
  | zero => intro _; rw [unionTo_zero, unionTo_zero]
  | succ m ih => intro h; rw [unionTo_succ, unionTo_succ, ih (fun t ht => h t (by omega)), h m (by omega)]
theorem uniL_def (L : Nat → Nat → Nat) (g : List Nat) : uniL L g = unionTo (fun t => L (g.getD t 0)) g.length := rfl
theorem uniL_nil (L : Nat → Nat → Nat) : uniL L [] = D0 := unionTo_zero _
theorem uniL_snoc (L : Nat → Nat → Nat) (g : List Nat) (i : Nat) : uniL L (g ++ [i]) = fun k => uniL L g k ||| L i k := by
  unfold uniL
  rw [List.length_append, List.length_singleton, unionTo_succ]
  rw [unionTo_congr (L' := fun t => L (g.getD t 0)) g.length (fun t ht => by simp [List.getD, List.getElem?_append_left ht])]
  funext k
  simp [List.getD]
theorem uniL_32 {L : Nat → Nat → Nat} (h : L32 L) (g : List Nat) : D32 (uniL L g) := unionTo_32 (fun i => h _) _
theorem union_two (D E : Nat → Nat) : unionTo (twoL D E) 2 = fun k => D k ||| E k := by
  rw [unionTo_succ, unionTo_succ, unionTo_zero]
  funext k
  simp [twoL]
section
variable (k : Nat) (R : Nat → Int) (n : Nat) (L : Nat → Nat → Nat)
/-- the drum i fits into the group -/
def fit (g : List Nat) (i : Nat) : Bool := freeB k R n (uniL L (g ++ [i]))
def jOf (gs : List (List Nat)) (i : Nat) : Nat := gs.findIdx fun g => fit k R n L g i
def more (gs : List (List Nat)) (j : Nat) : List (List Nat) := if j < gs.length then gs else gs ++ [[]]
def grp (gs : List (List Nat)) (j i : Nat) : List (List Nat) := (more gs j).set j ((more gs j).getD j [] ++ [i])
def sg : Nat → List (List Nat) × List Int
  | 0 => ([], [])
  | i + 1 => (grp (sg i).1 (jOf k R n L (sg i).1 i) i, (sg i).2 ++ [(jOf k R n L (sg i).1 i : Int)])
end
theorem fit_def (k : Nat) (R : Nat → Int) (n : Nat) (L : Nat → Nat → Nat) (g : List Nat) (i : Nat) : fit k R n L g i = freeB k R n (uniL L (g ++ [i])) := rfl
theorem jOf_le (k : Nat) (R : Nat → Int) (n : Nat) (L : Nat → Nat → Nat) (gs : List (List Nat)) (i : Nat) : jOf k R n L gs i ≤ gs.length := List.findIdx_le_length
theorem jOf_none {k : Nat} {R : Nat → Int} {n : Nat} {L : Nat → Nat → Nat} {gs : List (List Nat)} {i : Nat} (h : ∀ t, t < gs.length → fit k R n L (gs.getD t []) i = false) : jOf k R n L gs i = gs.length := by
  unfold jOf
  rw [List.findIdx_eq_length]
  intro g hg
  obtain ⟨t, ht, rfl⟩ := List.getElem_of_mem hg
  have := h t ht
  simpa [List.getD, List.getElem?_eq_getElem ht] using this
theorem jOf_at {k : Nat} {R : Nat → Int} {n : Nat} {L : Nat → Nat → Nat} {gs : List (List Nat)} {i j : Nat} (hj : j < gs.length) (h1 : fit k R n L (gs.getD j []) i = true) (h : ∀ t, t < j → fit k R n L (gs.getD t []) i = false) : jOf k R n L gs i = j := by
  unfold jOf
  rw [List.findIdx_eq hj]
  refine ⟨by simpa [List.getD, List.getElem?_eq_getElem hj] using h1, fun t ht => ?_⟩
  have hlt : t < gs.length := by omega
  have := h t ht
  simpa [List.getD, List.getElem?_eq_getElem hlt] using this
theorem more_in {gs : List (List Nat)} {j : Nat} (h : j < gs.length) : more gs j = gs := if_pos h
theorem more_new {gs : List (List Nat)} {j : Nat} (h : ¬ j < gs.length) : more gs j = gs ++ [[]] := if_neg h
theorem more_lt {gs : List (List Nat)} {j : Nat} (h : j ≤ gs.length) : j < (more gs j).length := by
  unfold more
  split
  · assumption
  · rw [List.length_append, List.length_singleton]; omega
theorem more_le (gs : List (List Nat)) (j : Nat) : (more gs j).length ≤ gs.length + 1 := by
  unfold more
  split
  · omega
  · rw [List.length_append, List.length_singleton]; omega
theorem grp_def (gs : List (List Nat)) (j i : Nat) : grp gs j i = (more gs j).set j ((more gs j).getD j [] ++ [i]) := rfl
theorem grp_len (gs : List (List Nat)) (j i : Nat) : (grp gs j i).length = (more gs j).length := by rw [grp_def, List.length_set]
theorem sg_zero (k : Nat) (R : Nat → Int) (n : Nat) (L : Nat → Nat → Nat) : sg k R n L 0 = ([], []) := rfl
theorem sg_succ (k : Nat) (R : Nat → Int) (n : Nat) (L : Nat → Nat → Nat) (i : Nat) : sg k R n L (i + 1) = (grp (sg k R n L i).1 (jOf k R n L (sg k R n L i).1 i) i, (sg k R n L i).2 ++ [(jOf k R n L (sg k R n L i).1 i : Int)]) := rfl
theorem sg_len1 (k : Nat) (R : Nat → Int) (n : Nat) (L : Nat → Nat → Nat) (i : Nat) : (sg k R n L i).1.length ≤ i := by
  induction i with
  | zero => exact Nat.le_refl _
  | succ i ih => rw [sg_succ]; dsimp only; rw [grp_len]; have := more_le (sg k R n L i).1 (jOf k R n L (sg k R n L i).1 i); omega
theorem sg_len2 (k : Nat) (R : Nat → Int) (n : Nat) (L : Nat → Nat → Nat) (i : Nat) : (sg k R n L i).2.length = i := by
  induction i with
  | zero => rfl
  | succ i ih => rw [sg_succ]; dsimp only; rw [List.length_append, ih]; rfl
theorem more_glen {gs : List (List Nat)} {B : Nat} (h : ∀ x, (gs.getD x []).length ≤ B) (j : Nat) : ∀ x, ((more gs j).getD x []).length ≤ B := by
  intro x
  unfold more
  split
  · exact h x
  · rw [List.getD_eq_getElem?_getD, List.getElem?_append]
    split
    · have := h x; rwa [List.getD_eq_getElem?_getD] at this
    · rcases Nat.eq_zero_or_pos (x - gs.length) with h0 | h0
      · rw [h0]; simp
      · rw [List.getElem?_eq_none (by simp; omega)]; simp
/-- no group is long -/
theorem sg_glen (k : Nat) (R : Nat → Int) (n : Nat) (L : Nat → Nat → Nat) (i : Nat) : ∀ x, ((sg k R n L i).1.getD x []).length ≤ i := by
  induction i with
  | zero => intro x; rw [sg_zero]; simp
  | succ i ih =>
    intro x
    rw [sg_succ]
    dsimp only
    rw [grp_def]
    have hm := more_glen ih (jOf k R n L (sg k R n L i).1 i)
    generalize jOf k R n L (sg k R n L i).1 i = j at hm ⊢
    generalize more (sg k R n L i).1 j = g2 at hm ⊢
    rw [List.getD_eq_getElem?_getD, List.getElem?_set]
    split
    · split
      · have := hm j; rw [List.getD_eq_getElem?_getD] at this; simp; omega
      · simp
    · have := hm x; rw [List.getD_eq_getElem?_getD] at this; omega
theorem grp_uni (L : Nat → Nat → Nat) (gs : List (List Nat)) (j i : Nat) : (grp gs j i).map (uniL L) = ((more gs j).map (uniL L)).set j (fun k => uniL L ((more gs j).getD j []) k ||| L i k) := by
  rw [grp_def, List.map_set, uniL_snoc]
/-- the groups, their number, the code -/
def sgV (s : Int) (n : Nat) (P R : Nat → Int) (m : Nat) (L : Nat → Nat → Nat) : List Int := if lcode (okAll s n P R m L) m = 0 then (sg s.toNat R n L m).2 else []
def sgN (s : Int) (n : Nat) (P R : Nat → Int) (m : Nat) (L : Nat → Nat → Nat) : Int := if lcode (okAll s n P R m L) m = 0 then ((sg s.toNat R n L m).1.length : Int) else 0
def sgC (s : Int) (n : Nat) (P R : Nat → Int) (m : Nat) (L : Nat → Nat → Nat) : Int := lcode (okAll s n P R m L) m
section
variable {s : Int} {n : Nat} {P R : Nat → Int} {m : Nat} {L : Nat → Nat → Nat}
theorem sgC_def : sgC s n P R m L = lcode (okAll s n P R m L) m := rfl
theorem sg_no (h : ¬ lcode (okAll s n P R m L) m = 0) : sgV s n P R m L = [] ∧ sgN s n P R m L = 0 ∧ sgC s n P R m L = lcode (okAll s n P R m L) m := ⟨if_neg h, if_neg h, rfl⟩
theorem sg_yes (h : lcode (okAll s n P R m L) m = 0) : sgV s n P R m L = (sg s.toNat R n L m).2 ∧ sgN s n P R m L = ((sg s.toNat R n L m).1.length : Int) ∧ sgC s n P R m L = 0 := ⟨if_pos h, if_pos h, h⟩
theorem sgV_len : (sgV s n P R m L).length ≤ 1000000 := by
  unfold sgV
  split
  · rename_i h
    have := lcode_zero h
    rw [sg_len2]; omega
  · simp
end
attribute [irreducible] uniL fit jOf more grp sg sgV sgN sgC encD OwnD
end Go.Proofs.Ytpfjmoodfodfhaa
