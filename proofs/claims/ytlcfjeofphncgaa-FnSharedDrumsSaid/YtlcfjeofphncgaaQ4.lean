/- Texts of this claim, put together in their order of building. No conditions. -/
import Derived.Outline
import Derived.ChangeKeysEq
import Derived.Deep.RegionWith
import Derived.Test.YtlcfjeofphncgaaQ3
namespace Go.Proofs.Ytlcfjeofphncgaa
open Go.RowKit
set_option linter.unusedVariables false
set_option linter.unusedSimpArgs false

/-! ### drums of one's own -/
def encD (D : Nat → Nat) : List Value := (dc D).toList
theorem encD_len (D : Nat → Nat) : (encD D).length = 96 := by unfold encD; rw [Array.length_toList, dc_size]
theorem encD_one (D : Nat → Nat) : ∀ u ∈ encD D, u.oneCell' = true := by
  intro u hu
  have := dc_one D
  rw [Array.all_eq_true_iff_forall_mem] at this
  exact this u (by simpa [encD] using hu)
theorem encD_get (D : Nat → Nat) (k : Nat) (h : k < 96) : (encD D)[k]? = some (.int .u32 (D k)) := by unfold encD; rw [Array.getElem?_toList]; exact dc_get D k h
theorem encD_arr (D : Nat → Nat) : (encD D).toArray = dc D := by unfold encD; exact Array.toArray_toList
abbrev D0 : Nat → Nat := fun _ => 0
/-- v owns these drums -/
def OwnD (w : World) (base : Nat) (v : Value) (l : List (Nat → Nat)) : Prop := OwnL 33 96 encD w base v l
section
variable {w w' : World} {base : Nat} {v : Value} {l : List (Nat → Nat)}
theorem OwnD.lt (h : OwnD w base v l) : ∀ k, v.ownBlock = some k → base ≤ k ∧ k < w.heap.size := OwnL.lt h
theorem OwnD.below (h : OwnD w base v l) (hb : Below w.heap.size w w') : OwnD w' base v l := OwnL.below h hb
theorem OwnD.alloc (h : OwnD w base v l) (o : Obj) : OwnD (w.alloc o) base v l := OwnL.alloc h o
theorem OwnD.mono {base' : Nat} (h : OwnD w base v l) (hb : base' ≤ base) : OwnD w base' v l := OwnL.mono h hb
theorem OwnD.nil (w : World) (base : Nat) (hb : base ≤ w.heap.size) : OwnD (w.alloc (.cells #[] 33)) base (.slice (some ⟨w.heap.size, 0, none⟩) 0 0) [] := OwnL.nil w base hb
theorem kp_OwnD (h : OwnD w base v l) : Kp w (fun V => OwnD V base v l) := kp_OwnL h
theorem OwnD.form (h : OwnD w base v l) : ∃ b c, v = .slice b l.length c := OwnL.form h
theorem OwnD.cells {b : Option Addr} {n c : Nat} (h : OwnD w base (.slice b n c) l) (hn : 0 < l.length) : ∃ g, b = some ⟨g, 0, none⟩ ∧ base ≤ g ∧ g < w.heap.size ∧ ∀ i, i < l.length → DrumCells w g (i * 96) (l.getD i D0) := by
  obtain ⟨g, rfl, hb, hg, hc⟩ := OwnL.cells encD_len h hn
  refine ⟨g, rfl, hb, hg, fun i hi k hk => ?_⟩
  have := hc i _ (List.getElem?_eq_getElem hi) k hk
  rw [encD_get _ k hk] at this
  rw [this]; simp [List.getD, List.getElem?_eq_getElem hi]
theorem OwnD.readAt {b : Option Addr} {n c : Nat} (h : OwnD w base (.slice b n c) l) : DrumsAt w b l.length (fun i => l.getD i D0) := fun hn => by
  obtain ⟨g, rfl, _, hg, hc⟩ := OwnD.cells h hn
  exact ⟨g, 0, rfl, hg, fun i hi => by rw [Nat.zero_add]; exact hc i hi⟩
/-- the j-th is stored anew -/
theorem OwnD.set {g n c : Nat} (h : OwnD w base (.slice (some ⟨g, 0, none⟩) n c) l) {j : Nat} (hj : j < l.length) (E : Nat → Nat) : OwnD (w.setCells g (j * 96) (dc E).toList) base (.slice (some ⟨g, 0, none⟩) n c) (l.set j E) ∧ w.there g (j * 96) 96 ∧
    ∃ N f f', BlkAt w 33 g N f ∧ j * 96 + (dc E).toList.length ≤ N ∧ BlkAt (w.setCells g (j * 96) (dc E).toList) 33 g N f' := by
  have hcell := (OwnD.cells h (by omega)).choose_spec.2.2.2
  have heq := (OwnD.cells h (by omega)).choose_spec.1
  injection heq with heq
  injection heq with heq
  rw [← heq] at hcell
  clear heq
  obtain ⟨hl, h0 | ⟨g', cap, cur, he, hg, hb, hc, hm, hs, ht⟩⟩ := h
  · obtain ⟨h1, h2⟩ := h0; omega
  · injection he with e1 e2 e3
    injection e1 with e1
    injection e1 with e1
    subst e1; subst e2; subst e3
    obtain ⟨f, hf⟩ := cf_of cur
    have hblk : BlkAt w 33 g (c * 96) f := by unfold BlkAt; rw [hb, ← hs, ← hf]
    have hlen : (dc E).toList.length = 96 := by rw [Array.length_toList, dc_size]
    have hle : j * 96 + 96 ≤ l.length * 96 := by rw [← Nat.succ_mul]; exact Nat.mul_le_mul_right _ hj
    have hle2 : l.length * 96 ≤ c * 96 := Nat.mul_le_mul_right _ hc
    obtain ⟨f', hf'⟩ := blk_setCells (dc E).toList hblk (o := j * 96) (by omega)
    have hth := there_part hblk.there (j * 96) 96 (by omega)
    refine ⟨?_, hth, c * 96, f, f', hblk, by omega, hf'⟩
    have hd := own_done (w := w.setCells g (j * 96) (dc E).toList) (base := base) (e := 33) (n := l.length) (size := 96) (cap := c) (f := f') hg hf' hc hm (cf_size _ _) (fun x hx => cf_get _ _ _ (by omega))
    unfold OwnD OwnL
    rw [List.length_set]
    rw [← flat_mks encD 96 encD_len (by omega) (l.set j E) f' (fun i x hi k hk => ?_), List.length_set]
    · exact hd
    · have hil : i < l.length := by have := (List.getElem?_eq_some_iff.1 hi).1; simpa using this
      have hle3 : i * 96 + 96 ≤ l.length * 96 := by rw [← Nat.succ_mul]; exact Nat.mul_le_mul_right _ hil
      have hfc := hf'.cell (i * 96 + k) (by omega)
      rw [encD_get x k hk, ← hfc]
      clear hfc hd hf' hblk hb hf ht hs
      by_cases e : i = j
      · subst e
        rw [List.getElem?_set_self hil] at hi
        have hi2 := Option.some.inj hi
        rw [← hi2]
        exact (drum_same E hth k hk).symm
      · rw [List.getElem?_set_ne (by omega)] at hi
        have hx : l.getD i D0 = x := by simp [List.getD, hi]
        have hap : i * 96 + 96 ≤ j * 96 ∨ j * 96 + 96 ≤ i * 96 := by omega
        have h5 := hcell i hil
        rw [hx] at h5
        exact (drum_apart h5 g (j * 96) E (Or.inr hap) k hk).symm
end
/-- a slice of another type keeps while cells are stored -/
theorem own_setCells {base T T2 sz n : Nat} {v : Value} {xs : List Value} {g N : Nat} (hne : T2 ≠ T) (vs : List Value) : ∀ {o : Nat} {w : World} {f : Nat → Value}, w.ownsRow base T sz v n xs → BlkAt w T2 g N f → o + vs.length ≤ N → (w.setCells g o vs).ownsRow base T sz v n xs := by
  induction vs with
  | nil => intro o w f h _ _; exact h
  | cons x r ih =>
    intro o w f h hb hl
    rw [World.setCells]
    exact ih (own_set h hb hne x) (hb.setCell o x (by simp at hl; omega)) (by simp at hl ⊢; omega)
theorem ex_store_drum_mid {o : Oper} {a : Act} {w : World} (x y : Operand) (ho : o.op = .store 33 x y) (g p : Nat) (E : Nat → Nat) (hx : a.eval x = .pointer (some ⟨g, p, none⟩)) (hy : a.eval y = .agg (dc E)) (ht : w.there g p 96) :
    (execOp a.eval o).run Try.prog w = .ok .skip (w.setCells g p (dc E).toList) := by
  unfold execOp
  simp only [ho, hx, hy, Sem.run_bind, run_storeAt_mid w g p 33 (dc E) (by rw [dc_size]; exact ht) (by rw [dc_size]; exact size_drum) (dc_one E), Result.andThen_ok]
  rfl
/-! ### the groups -/
/-- the union of a group -/
def uniL (L : Nat → Nat → Nat) (g : List Nat) : Nat → Nat := unionTo (fun t => L (g.getD t 0)) g.length
theorem unionTo_congr {L L' : Nat → Nat → Nat} : ∀ (m : Nat), (∀ t, t < m → L t = L' t) → unionTo L m = unionTo L' m := by
  intro m
  induction m with
  | zero => intro _; rw [unionTo_zero, unionTo_zero]
  | succ m ih => intro h; rw [unionTo_succ, unionTo_succ, ih (fun t ht => h t (by omega)), h m (by omega)]
theorem uniL_def (L : Nat → Nat → Nat) (g : List Nat) : uniL L g = unionTo (fun t => L (g.getD t 0)) g.length := rfl
theorem uniL_nil (L : Nat → Nat → Nat) : uniL L [] = D0 := unionTo_zero _
theorem uniL_snoc (L : Nat → Nat → Nat) (g : List Nat) (i : Nat) : uniL L (g ++ [i]) = fun k => uniL L g k ||| L i k := by
  unfold uniL
  rw [List.length_append, List.length_singleton, unionTo_succ]
  rw [unionTo_congr (L' := fun t => L (g.getD t 0)) g.length (fun t ht => by simp [List.getD, List.getElem?_append_left ht])]
  funext k
  simp [List.getD]
theorem uniL_32 {L : Nat → Nat → Nat} (h : L32 L) (g : List Nat) : D32 (uniL L g) := unionTo_32 (fun i => h _) _
theorem union_two (D E : Nat → Nat) : unionTo (twoL D E) 2 = fun k => D k ||| E k := by
  rw [unionTo_succ, unionTo_succ, unionTo_zero]
  funext k
  simp [twoL]
section
variable (k : Nat) (R : Nat → Int) (n : Nat) (L : Nat → Nat → Nat)
/-- the drum i fits into the group -/
def fit (g : List Nat) (i : Nat) : Bool := freeB k R n (uniL L (g ++ [i]))
def jOf (gs : List (List Nat)) (i : Nat) : Nat := gs.findIdx fun g => fit k R n L g i
def more (gs : List (List Nat)) (j : Nat) : List (List Nat) := if j < gs.length then gs else gs ++ [[]]
def grp (gs : List (List Nat)) (j i : Nat) : List (List Nat) := (more gs j).set j ((more gs j).getD j [] ++ [i])
def sg : Nat → List (List Nat) × List Int
  | 0 => ([], [])
  | i + 1 => (grp (sg i).1 (jOf k R n L (sg i).1 i) i, (sg i).2 ++ [(jOf k R n L (sg i).1 i : Int)])
end
theorem fit_def (k : Nat) (R : Nat → Int) (n : Nat) (L : Nat → Nat → Nat) (g : List Nat) (i : Nat) : fit k R n L g i = freeB k R n (uniL L (g ++ [i])) := rfl
theorem jOf_le (k : Nat) (R : Nat → Int) (n : Nat) (L : Nat → Nat → Nat) (gs : List (List Nat)) (i : Nat) : jOf k R n L gs i ≤ gs.length := List.findIdx_le_length
theorem jOf_none {k : Nat} {R : Nat → Int} {n : Nat} {L : Nat → Nat → Nat} {gs : List (List Nat)} {i : Nat} (h : ∀ t, t < gs.length → fit k R n L (gs.getD t []) i = false) : jOf k R n L gs i = gs.length := by
  unfold jOf
  rw [List.findIdx_eq_length]
  intro g hg
  obtain ⟨t, ht, rfl⟩ := List.getElem_of_mem hg
  have := h t ht
  simpa [List.getD, List.getElem?_eq_getElem ht] using this
theorem jOf_at {k : Nat} {R : Nat → Int} {n : Nat} {L : Nat → Nat → Nat} {gs : List (List Nat)} {i j : Nat} (hj : j < gs.length) (h1 : fit k R n L (gs.getD j []) i = true) (h : ∀ t, t < j → fit k R n L (gs.getD t []) i = false) : jOf k R n L gs i = j := by
  unfold jOf
  rw [List.findIdx_eq hj]
  refine ⟨by simpa [List.getD, List.getElem?_eq_getElem hj] using h1, fun t ht => ?_⟩
  have hlt : t < gs.length := by omega
  have := h t ht
  simpa [List.getD, List.getElem?_eq_getElem hlt] using this
theorem more_in {gs : List (List Nat)} {j : Nat} (h : j < gs.length) : more gs j = gs := if_pos h
theorem more_new {gs : List (List Nat)} {j : Nat} (h : ¬ j < gs.length) : more gs j = gs ++ [[]] := if_neg h
theorem more_lt {gs : List (List Nat)} {j : Nat} (h : j ≤ gs.length) : j < (more gs j).length := by
  unfold more
  split
  · assumption
  · rw [List.length_append, List.length_singleton]; omega
theorem more_le (gs : List (List Nat)) (j : Nat) : (more gs j).length ≤ gs.length + 1 := by
  unfold more
  split
  · omega
  · rw [List.length_append, List.length_singleton]; omega
theorem grp_def (gs : List (List Nat)) (j i : Nat) : grp gs j i = (more gs j).set j ((more gs j).getD j [] ++ [i]) := rfl
theorem grp_len (gs : List (List Nat)) (j i : Nat) : (grp gs j i).length = (more gs j).length := by rw [grp_def, List.length_set]
theorem sg_zero (k : Nat) (R : Nat → Int) (n : Nat) (L : Nat → Nat → Nat) : sg k R n L 0 = ([], []) := rfl
theorem sg_succ (k : Nat) (R : Nat → Int) (n : Nat) (L : Nat → Nat → Nat) (i : Nat) : sg k R n L (i + 1) = (grp (sg k R n L i).1 (jOf k R n L (sg k R n L i).1 i) i, (sg k R n L i).2 ++ [(jOf k R n L (sg k R n L i).1 i : Int)]) := rfl
theorem sg_len1 (k : Nat) (R : Nat → Int) (n : Nat) (L : Nat → Nat → Nat) (i : Nat) : (sg k R n L i).1.length ≤ i := by
  induction i with
  | zero => exact Nat.le_refl _
  | succ i ih => rw [sg_succ]; dsimp only; rw [grp_len]; have := more_le (sg k R n L i).1 (jOf k R n L (sg k R n L i).1 i); omega
theorem sg_len2 (k : Nat) (R : Nat → Int) (n : Nat) (L : Nat → Nat → Nat) (i : Nat) : (sg k R n L i).2.length = i := by
  induction i with
  | zero => rfl
  | succ i ih => rw [sg_succ]; dsimp only; rw [List.length_append, ih]; rfl
theorem more_glen {gs : List (List Nat)} {B : Nat} (h : ∀ x, (gs.getD x []).length ≤ B) (j : Nat) : ∀ x, ((more gs j).getD x []).length ≤ B := by
  intro x
  unfold more
  split
  · exact h x
  · rw [List.getD_eq_getElem?_getD, List.getElem?_append]
    split
    · have := h x; rwa [List.getD_eq_getElem?_getD] at this
    · rcases Nat.eq_zero_or_pos (x - gs.length) with h0 | h0
      · rw [h0]; simp
      · rw [List.getElem?_eq_none (by simp; omega)]; simp
/-- no group is long -/
theorem sg_glen (k : Nat) (R : Nat → Int) (n : Nat) (L : Nat → Nat → Nat) (i : Nat) : ∀ x, ((sg k R n L i).1.getD x []).length ≤ i := by
  induction i with
  | zero => intro x; rw [sg_zero]; simp
  | succ i ih =>
    intro x
    rw [sg_succ]
    dsimp only
    rw [grp_def]
    have hm := more_glen ih (jOf k R n L (sg k R n L i).1 i)
    generalize jOf k R n L (sg k R n L i).1 i = j at hm ⊢
    generalize more (sg k R n L i).1 j = g2 at hm ⊢
    rw [List.getD_eq_getElem?_getD, List.getElem?_set]
    split
    · split
      · have := hm j; rw [List.getD_eq_getElem?_getD] at this; simp; omega
      · simp
    · have := hm x; rw [List.getD_eq_getElem?_getD] at this; omega
theorem grp_uni (L : Nat → Nat → Nat) (gs : List (List Nat)) (j i : Nat) : (grp gs j i).map (uniL L) = ((more gs j).map (uniL L)).set j (fun k => uniL L ((more gs j).getD j []) k ||| L i k) := by
  rw [grp_def, List.map_set, uniL_snoc]
/-- the groups, their number, the code -/
def sgV (s : Int) (n : Nat) (P R : Nat → Int) (m : Nat) (L : Nat → Nat → Nat) : List Int := if lcode (okAll s n P R m L) m = 0 then (sg s.toNat R n L m).2 else []
def sgN (s : Int) (n : Nat) (P R : Nat → Int) (m : Nat) (L : Nat → Nat → Nat) : Int := if lcode (okAll s n P R m L) m = 0 then ((sg s.toNat R n L m).1.length : Int) else 0
def sgC (s : Int) (n : Nat) (P R : Nat → Int) (m : Nat) (L : Nat → Nat → Nat) : Int := lcode (okAll s n P R m L) m
section
variable {s : Int} {n : Nat} {P R : Nat → Int} {m : Nat} {L : Nat → Nat → Nat}
theorem sgC_def : sgC s n P R m L = lcode (okAll s n P R m L) m := rfl
theorem sg_no (h : ¬ lcode (okAll s n P R m L) m = 0) : sgV s n P R m L = [] ∧ sgN s n P R m L = 0 ∧ sgC s n P R m L = lcode (okAll s n P R m L) m := ⟨if_neg h, if_neg h, rfl⟩
theorem sg_yes (h : lcode (okAll s n P R m L) m = 0) : sgV s n P R m L = (sg s.toNat R n L m).2 ∧ sgN s n P R m L = ((sg s.toNat R n L m).1.length : Int) ∧ sgC s n P R m L = 0 := ⟨if_pos h, if_pos h, h⟩
theorem sgV_len : (sgV s n P R m L).length ≤ 1000000 := by
  unfold sgV
  split
  · rename_i h
    have := lcode_zero h
    rw [sg_len2]; omega
  · simp
end
attribute [irreducible] uniL fit jOf more grp sg sgV sgN sgC encD OwnD
end Go.Proofs.Ytlcfjeofphncgaa
namespace Go.Proofs.Ytlcfjeofphncgaa
open Go.RowKit
set_option linter.unusedVariables false
set_option linter.unusedSimpArgs false

/-- the greater one -/
def mxN (a b : Nat) : Nat := if a < b then b else a
theorem mxN_lt {a b : Nat} (h : a < b) : mxN a b = b := if_pos h
theorem mxN_ge {a b : Nat} (h : ¬ a < b) : mxN a b = a := if_neg h
theorem mxN_le {a b M : Nat} (ha : a ≤ M) (hb : b ≤ M) : mxN a b ≤ M := by unfold mxN; split <;> assumption
theorem mxN_max (a b : Nat) : mxN a b = max a b := by unfold mxN; split <;> omega
attribute [irreducible] mxN
/-- the most pins that one of the first i drums has -/
def mostTo (L : Nat → Nat → Nat) : Nat → Nat
  | 0 => 0
  | i + 1 => mxN (mostTo L i) (cnt (L i))
theorem mostTo_zero (L : Nat → Nat → Nat) : mostTo L 0 = 0 := rfl
theorem mostTo_succ (L : Nat → Nat → Nat) (i : Nat) : mostTo L (i + 1) = mxN (mostTo L i) (cnt (L i)) := rfl
theorem mostTo_le (L : Nat → Nat → Nat) (i : Nat) : mostTo L i ≤ 3072 := by
  induction i with
  | zero => simp [mostTo]
  | succ i ih => rw [mostTo_succ]; exact mxN_le ih (cnt_le _)
attribute [irreducible] mostTo
def pnRes (s : Int) (n : Nat) (P R : Nat → Int) (m : Nat) (L : Nat → Nat → Nat) : Nat := if lcode (okAll s n P R m L) m = 0 then mostTo L m else 0
theorem pnRes_yes {s : Int} {n : Nat} {P R : Nat → Int} {m : Nat} {L : Nat → Nat → Nat} (h : lcode (okAll s n P R m L) m = 0) : pnRes s n P R m L = mostTo L m := if_pos h
theorem pnRes_no {s : Int} {n : Nat} {P R : Nat → Int} {m : Nat} {L : Nat → Nat → Nat} (h : ¬ lcode (okAll s n P R m L) m = 0) : pnRes s n P R m L = 0 := if_neg h
attribute [irreducible] pnRes

set_option maxRecDepth 100000 in
theorem implPinsNeeded_any (s : Int) (a : Option Addr) (n c : Nat) (P R : Nat → Int) (b : Option Addr) (m d : Nat) (L : Nat → Nat → Nat) (w : World) (hs : -32768 ≤ s ∧ s ≤ 32767) (hn : n ≤ 1048576) (hP : I8 P) (hR : I8 R) (hh : HamAt w a n P R) (hm : m ≤ 1048576) (hL : L32 L) (hl : DrumsAt w b m L) :
    Calls Try.prog 12 #[.agg #[.int .i16 s, .slice a n c], .slice b m d] w fun e w' => e = .returned (.tuple #[.int .i64 (pnRes s n P R m L : Nat), .int .i64 (lcode (okAll s n P R m L) m)]) ∧ Below w.heap.size w w' := by
  have HP := Lib.hid hP; have HR := Lib.hid hR; have HL := Lib.hid hL
  clear hP hR hL
  have KB := Kp.base w
  have KH := kp_ham hh; have KL := kp_drums hl; clear hh hl
  replace KB := KB.alloc (.cells #[.int .i16 s, .slice a n c] 27)
  replace KH := KH.alloc (.cells #[.int .i16 s, .slice a n c] 27)
  replace KL := KL.alloc (.cells #[.int .i16 s, .slice a n c] 27)
  have KF := kp_new1 w #[.int .i16 s, .slice a n c] 27 (g := w.heap.size) (by simp)
  have HZ := Lib.hid (show (w.alloc (.cells #[.int .i16 s, .slice a n c] 27)).heap.size = w.heap.size + 1 by simp)
  go_enter Try.func12, Try.ntmps12
  go_wp2_with (with_reducible refine load_iframe rfl _ rfl w.heap.size rfl _ s a n c KF.here ?_)
  generalize (w.alloc (.cells #[.int .i16 s, .slice a n c] 27)) = W at KB KH KL KF HZ ⊢
  refine (listCode_any s a n c P R b m d L W hs hn HP.out HR.out KH.here hm KL.here).mono ?_
  rintro e w1 ⟨rfl, hb1⟩
  replace KB := KB.on hb1
  replace KL := KL.on hb1
  obtain ⟨x, hx⟩ : ∃ x, lcode (okAll s n P R m L) m = x := ⟨_, rfl⟩
  rw [hx]
  have HX := Lib.hid hx
  by_cases h0 : x = 0
  · have hr := Lib.hid (pnRes_yes (hx.trans h0))
    clear hx hb1
    subst h0
    go_wp2
    go_loopw [7, 18] (fun t i w' => Below w1.heap.size w1 w' ∧ ∃ k : Nat, k ≤ m ∧ i = .int .i64 k ∧ t = .int .i64 (mostTo L k : Nat)) (fun _ i _ => m - (intOf i).toNat)
    case atStart => exact ⟨Below.refl _ _, 0, by omega, rfl, by rw [mostTo_zero]; rfl⟩
    case round =>
      obtain ⟨hb, k, hk, rfl, rfl⟩ := hrel
      replace KB := KB.on hb
      replace KL := KL.on hb
      by_cases hlt : k < m
      · have hx := DrumsAt.get KL.here (show 0 < m by omega)
        obtain ⟨g, off, rfl, hg, hc⟩ := hx
        have HC := Lib.hid (hc k hlt); clear hc
        have hle := mostTo_le L k
        have hcl := cnt_le (L k)
        have hst := Lib.hid (mostTo_succ L k)
        have hmx := Lib.hid (mxN_max (mostTo L k) (cnt (L k)))
        go_wp2_with (first | (with_reducible refine load_drum_mid rfl _ rfl g (off + k * 96) rfl (L k) HC.out ?_) | (with_reducible refine copy_drum rfl rfl rfl _ _ rfl (L k) rfl rfl ?_; intro V hb2 hz2 hg2; have HG2 := Lib.hid hg2; have HB2 := Lib.hid hb2; clear hz2 hg2 hb2) | (with_reducible refine load_drum rfl _ rfl wr.heap.size rfl _ (L k) HG2.out ?_) | (go_at_call 39; refine (count_any (L k) (HL.out k) _).mono ?_; rintro e w2 ⟨rfl, hb3⟩))
        go_roundw
        case rel => exact ⟨hb.trans ((HB2.out.trans (hb3.mono HB2.out.size)).mono hb.size), k + 1, by omega, by go_num, by rw [hst.out, hmx.out]; congr 1; omega⟩
        case measure => simp [intOf]; omega
      · have hkm : k = m := by omega
        subst hkm
        go_wp2
        go_ret2
        exact ⟨by rw [hr.out, HX.out]; rfl, KB.here⟩
  · have hr := Lib.hid (pnRes_no (s := s) (n := n) (P := P) (R := R) (m := m) (L := L) (by rw [hx]; exact h0))
    clear hx hb1
    go_wp2
    go_ret2
    exact ⟨by rw [hr.out, HX.out]; rfl, KB.here⟩
end Go.Proofs.Ytlcfjeofphncgaa
namespace Go.Proofs.Ytlcfjeofphncgaa
open Go.RowKit
set_option linter.unusedVariables false
set_option linter.unusedSimpArgs false

/-- the pins that drum 0 and all of the first i drums have -/
def interTo (L : Nat → Nat → Nat) : Nat → Nat → Nat
  | 0 => L 0
  | i + 1 => fun k => interTo L i k &&& L i k
theorem interTo_zero (L : Nat → Nat → Nat) : interTo L 0 = L 0 := rfl
theorem interTo_succ (L : Nat → Nat → Nat) (i : Nat) : interTo L (i + 1) = fun k => interTo L i k &&& L i k := rfl
theorem interTo_one (L : Nat → Nat → Nat) : interTo L 1 = L 0 := by
  rw [interTo_succ]; funext k; rw [interTo_zero, Nat.and_self]
theorem interTo_32 {L : Nat → Nat → Nat} (h : L32 L) (i : Nat) : D32 (interTo L i) := by
  induction i with
  | zero => rw [interTo_zero]; exact h 0
  | succ i ih => intro j; rw [interTo_succ]; exact and_lt32 (h i j)
attribute [irreducible] interTo
def shRes (s : Int) (n : Nat) (P R : Nat → Int) (m : Nat) (L : Nat → Nat → Nat) : Nat → Nat := if scode (okAll s n P R m L) m (-1) = 0 then interTo L m else fun _ => 0
theorem shRes_yes {s : Int} {n : Nat} {P R : Nat → Int} {m : Nat} {L : Nat → Nat → Nat} (h : scode (okAll s n P R m L) m (-1) = 0) : shRes s n P R m L = interTo L m := if_pos h
theorem shRes_no {s : Int} {n : Nat} {P R : Nat → Int} {m : Nat} {L : Nat → Nat → Nat} (h : ¬ scode (okAll s n P R m L) m (-1) = 0) : shRes s n P R m L = fun _ => 0 := if_neg h
attribute [irreducible] shRes
theorem firstL_scode (ok : Bool) (m : Nat) (f : Int) : firstL [lcode ok m, unl (inB f (-1) ((m : Int) - 1)) 2, unl (decide (0 < m)) 6] = scode ok m f := by
  by_cases h : lcode ok m = 0
  · rw [firstL_zero _ h]
    by_cases h1 : -1 ≤ f ∧ f ≤ (m : Int) - 1
    · rw [inB_true h1, firstL_zero _ (unl_true 2)]
      by_cases h2 : m = 0
      · rw [decide_eq_false (by omega), firstL_at _ (by rw [unl_false]; simp), unl_false, scode_none f h h1 h2]
      · rw [decide_eq_true (by omega), firstL_zero _ (unl_true 6), firstL_nil, scode_ok f h h1 h2]
    · rw [inB_false h1, firstL_at _ (by rw [unl_false]; simp), unl_false, scode_range f h h1]
  · rw [firstL_at _ h, scode_bad f h]
set_option maxRecDepth 100000 in
theorem startCode_any (s : Int) (a : Option Addr) (n c : Nat) (P R : Nat → Int) (b : Option Addr) (m d : Nat) (L : Nat → Nat → Nat) (f : Int) (w : World) (hs : -32768 ≤ s ∧ s ≤ 32767) (hn : n ≤ 1048576) (hP : I8 P) (hR : I8 R) (hh : HamAt w a n P R) (hm : m ≤ 1048576) (hl : DrumsAt w b m L) :
    Calls Try.prog 33 #[.agg #[.int .i16 s, .slice a n c], .slice b m d, .int .i64 f] w fun e w' => e = .returned (.int .i64 (scode (okAll s n P R m L) m f)) ∧ Below w.heap.size w w' := by
  have HP := Lib.hid hP; have HR := Lib.hid hR
  clear hP hR
  have KB := Kp.base w
  have KH := kp_ham hh; have KL := kp_drums hl; clear hh hl
  replace KB := KB.alloc (.cells #[.int .i16 s, .slice a n c] 27)
  replace KH := KH.alloc (.cells #[.int .i16 s, .slice a n c] 27)
  replace KL := KL.alloc (.cells #[.int .i16 s, .slice a n c] 27)
  have KF := kp_new1 w #[.int .i16 s, .slice a n c] 27 (g := w.heap.size) (by simp)
  have HZ := Lib.hid (show (w.alloc (.cells #[.int .i16 s, .slice a n c] 27)).heap.size = w.heap.size + 1 by simp)
  go_enter Try.func33, Try.ntmps33
  go_wp2_with (with_reducible refine load_iframe rfl _ rfl w.heap.size rfl _ s a n c KF.here ?_)
  generalize (w.alloc (.cells #[.int .i16 s, .slice a n c] 27)) = W at KB KH KL KF HZ ⊢
  refine (listCode_any s a n c P R b m d L W hs hn HP.out HR.out KH.here hm KL.here).mono ?_
  rintro e w1 ⟨rfl, hb1⟩
  replace KB := KB.on hb1
  clear hb1
  obtain ⟨x, hx⟩ : ∃ x, lcode (okAll s n P R m L) m = x := ⟨_, rfl⟩
  have hF := firstL_scode (okAll s n P R m L) m f
  rw [hx] at hF ⊢
  have HF := Lib.hid hF; clear hF hx
  have q1 := i64_id (x := (m : Int) - 1) (by omega)
  go_wp2_with (first | (go_at_call 43; refine (sizeDrum_any _ _ _ _ (by omega)).mono ?_; rintro e w2 ⟨rfl, rfl⟩) | (go_at_call 60; refine (within_any _ _ _ _).mono ?_; rintro e w2 ⟨rfl, rfl⟩) | (go_at_call 54; refine (unless_any _ _ _).mono ?_; rintro e w2 ⟨rfl, rfl⟩) | (go_at_call 52; refine (firstOf_any [x, unl (inB f (-1) ((m : Int) - 1)) 2, unl (decide (0 < m)) 6] w1.heap.size 2 _ (by simp) (heap_alloc_new w1 _)).mono ?_; rintro e w2 ⟨rfl, rfl⟩))
  go_ret
  exact ⟨ret_int HF.out, (KB.alloc _).here⟩
set_option maxRecDepth 100000 in
theorem l05First_any (gf : Nat) (s : Int) (a : Option Addr) (n c : Nat) (P R : Nat → Int) (b : Option Addr) (m d : Nat) (L : Nat → Nat → Nat) (f : Int) (w : World) (hs : -32768 ≤ s ∧ s ≤ 32767) (hn : n ≤ 1048576) (hP : I8 P) (hR : I8 R) (hf : w.heap[gf]? = some (.cells #[.int .i16 s, .slice a n c] 27 (0, 0))) (hh : HamAt w a n P R) (hm : m ≤ 1048576) (hl : DrumsAt w b m L) :
    Calls Try.prog 34 #[.pointer (some ⟨gf, 0, none⟩), .slice b m d, .int .i64 f] w fun e w' => e = .returned (.int .i64 (scode (okAll s n P R m L) m f)) ∧ Below w.heap.size w w' := by
  obtain ⟨x, hx⟩ : ∃ x, lcode (okAll s n P R m L) m = x := ⟨_, rfl⟩
  have HP := Lib.hid hP; have HR := Lib.hid hR; have HF := Lib.hid hf; have HH := Lib.hid hh; have HL := Lib.hid hl
  clear hP hR hf hh hl
  have HX := Lib.hid hx
  have q1 := i64_id (x := (m : Int) - 1) (by omega)
  by_cases h0 : x = 0
  · subst h0
    by_cases h1 : -1 ≤ f ∧ f ≤ (m : Int) - 1
    · have hin := inB_true h1
      by_cases h2 : m = 0
      · have hr := Lib.hid (scode_none f hx h1 h2)
        clear hx
        subst h2
        clear hin
        have hin : inB f (-1) (-1) = true := inB_true (by omega)
        go_enter Try.func34, Try.ntmps34
        go_wp2_with fail
        refine (l05Asked_any gf s a n c P R b 0 d L w hs hn HP.out HR.out HF.out HH.out hm HL.out).mono ?_
        rw [HX.out]
        rintro e w1 ⟨rfl, hb1⟩
        go_wp2_with (go_at_call 65; refine (l00In_any _ _ _ _).mono ?_; rintro e w2 ⟨rfl, rfl⟩)
        go_ret
        exact ⟨ret_int hr.out.symm, hb1⟩
      · have hr := Lib.hid (scode_ok f hx h1 h2)
        clear hx
        go_enter Try.func34, Try.ntmps34
        go_wp2_with fail
        refine (l05Asked_any gf s a n c P R b m d L w hs hn HP.out HR.out HF.out HH.out hm HL.out).mono ?_
        rw [HX.out]
        rintro e w1 ⟨rfl, hb1⟩
        go_wp2_with (go_at_call 65; refine (l00In_any _ _ _ _).mono ?_; rintro e w2 ⟨rfl, rfl⟩)
        go_ret
        exact ⟨ret_int hr.out.symm, hb1⟩
    · have hin := inB_false h1
      have hr := Lib.hid (scode_range f hx h1)
      clear hx
      go_enter Try.func34, Try.ntmps34
      go_wp2_with fail
      refine (l05Asked_any gf s a n c P R b m d L w hs hn HP.out HR.out HF.out HH.out hm HL.out).mono ?_
      rw [HX.out]
      rintro e w1 ⟨rfl, hb1⟩
      go_wp2_with (go_at_call 65; refine (l00In_any _ _ _ _).mono ?_; rintro e w2 ⟨rfl, rfl⟩)
      go_ret
      exact ⟨ret_int hr.out.symm, hb1⟩
  · have hr := Lib.hid (scode_bad f (show ¬ lcode (okAll s n P R m L) m = 0 by rw [hx]; exact h0))
    clear hx
    go_enter Try.func34, Try.ntmps34
    go_wp2_with fail
    refine (l05Asked_any gf s a n c P R b m d L w hs hn HP.out HR.out HF.out HH.out hm HL.out).mono ?_
    rw [HX.out]
    rintro e w1 ⟨rfl, hb1⟩
    go_wp2_with (go_at_call 65; refine (l00In_any _ _ _ _).mono ?_; rintro e w2 ⟨rfl, rfl⟩)
    go_ret
    exact ⟨ret_int (by rw [hr.out, HX.out]), hb1⟩
set_option maxRecDepth 100000 in
theorem implSharedPins_any (s : Int) (a : Option Addr) (n c : Nat) (P R : Nat → Int) (b : Option Addr) (m d : Nat) (L : Nat → Nat → Nat) (w : World) (hs : -32768 ≤ s ∧ s ≤ 32767) (hn : n ≤ 1048576) (hP : I8 P) (hR : I8 R) (hh : HamAt w a n P R) (hm : m ≤ 1048576) (hL : L32 L) (hl : DrumsAt w b m L) :
    Calls Try.prog 8 #[.agg #[.int .i16 s, .slice a n c], .slice b m d] w fun e w' => e = .returned (.tuple #[.agg (dc (shRes s n P R m L)), .int .i64 (scode (okAll s n P R m L) m (-1))]) ∧ Below w.heap.size w w' := by
  have HP := Lib.hid hP; have HR := Lib.hid hR; have HL := Lib.hid hL
  clear hP hR hL
  have KB := Kp.base w
  have KH := kp_ham hh; have KL := kp_drums hl; clear hh hl
  replace KB := KB.alloc (.cells #[.int .i16 s, .slice a n c] 27)
  replace KH := KH.alloc (.cells #[.int .i16 s, .slice a n c] 27)
  replace KL := KL.alloc (.cells #[.int .i16 s, .slice a n c] 27)
  have KF := kp_new1 w #[.int .i16 s, .slice a n c] 27 (g := w.heap.size) (by simp)
  replace KB := KB.alloc (.cells (dc fun _ => 0) 33)
  replace KH := KH.alloc (.cells (dc fun _ => 0) 33)
  replace KL := KL.alloc (.cells (dc fun _ => 0) 33)
  replace KF := KF.alloc (.cells (dc fun _ => 0) 33)
  have K0 := kp_newd (w.alloc (.cells #[.int .i16 s, .slice a n c] 27)) (fun _ => 0) 33 (g := w.heap.size + 1) (by simp)
  have HZ := Lib.hid (show ((w.alloc (.cells #[.int .i16 s, .slice a n c] 27)).alloc (.cells (dc fun _ => 0) 33)).heap.size = w.heap.size + 1 + 1 by simp)
  go_enter Try.func8, Try.ntmps8
  go_wp2_with (first | (with_reducible refine load_iframe rfl _ rfl w.heap.size rfl _ s a n c KF.here ?_) | (with_reducible refine alloc_drum ?_ ?_ ?_; with_reducible rfl; with_reducible rfl))
  generalize ((w.alloc (.cells #[.int .i16 s, .slice a n c] 27)).alloc (.cells (dc fun _ => 0) 33)) = W0 at KB KH KL KF K0 HZ ⊢
  have hz0 := HZ.out
  clear HZ
  refine (startCode_any s a n c P R b m d L (-1) W0 hs hn HP.out HR.out KH.here hm KL.here).mono ?_
  rintro e w1 ⟨rfl, hb1⟩
  have hz1 : w.heap.size + 1 + 1 ≤ w1.heap.size := by have := hb1.size; omega
  replace KB := KB.on hb1
  replace KH := KH.on hb1
  replace KL := KL.on hb1
  replace KF := KF.on hb1
  replace K0 := K0.on hb1
  obtain ⟨x, hx⟩ : ∃ x, scode (okAll s n P R m L) m (-1) = x := ⟨_, rfl⟩
  rw [hx]
  have HX := Lib.hid hx
  by_cases h0 : x = 0
  · have hr := Lib.hid (shRes_yes (hx.trans h0))
    have hm0 := (scode_zero (hx.trans h0)).2.2
    clear hx hb1
    subst h0
    have hx := DrumsAt.get KL.here hm0
    obtain ⟨g, off, rfl, hg, hc⟩ := hx
    have HC0 := Lib.hid (hc 0 hm0); have HCC := Lib.hid hc; clear hc
    rw [Nat.zero_mul, Nat.add_zero] at HC0
    have KR := K0
    go_wp2_with (first | (with_reducible refine load_drum_mid rfl _ rfl g off rfl (L 0) HC0.out ?_) | (with_reducible refine copy_drum rfl rfl rfl _ _ rfl (L 0) rfl rfl ?_; intro W hb hz hgg; replace KB := KB.on hb; replace K0 := K0.on hb; have HG := Lib.hid hgg; have HZ1 := Lib.hid hz; have HBW := Lib.hid hb; clear hb hz hgg))
    have HW0 := Lib.hid KB.here
    have HR0 := Lib.hid K0.here
    clear KB K0 KR
    go_loopw [24] (fun i w' => Below w1.heap.size W w' ∧ ∃ k : Nat, k ≤ m ∧ 0 ≤ k ∧ i = .int .i64 k ∧ w1.heap.size < w'.heap.size ∧ DrumAt w' 33 w1.heap.size (interTo L k)) (fun i _ => m - (intOf i).toNat)
    case atStart => exact ⟨Below.refl _ _, 0, by omega, by omega, rfl, by have := HZ1.out; omega, by rw [interTo_zero]; exact HG.out⟩
    case round =>
      clear HG
      obtain ⟨hb, k, hk, hk1, rfl, hsz, hgg⟩ := hrel
      have HA := Lib.hid hgg; clear hgg
      have hb1 : Below w1.heap.size w1 wr := HBW.out.trans hb
      by_cases hlt : k < m
      · have HC := Lib.hid ((HCC.out k hlt).below hb1 hg)
        have hgr : g < wr.heap.size := by omega
        have hk' : (k : Int) < m := by omega
        go_wp2_with (first | (with_reducible refine load_drum_mid rfl _ rfl g (off + k * 96) rfl (L k) HC.out ?_) | (with_reducible refine copy_drum rfl rfl rfl _ _ rfl (L k) rfl rfl ?_; intro V hb2 hz2 hg2; have HG2 := Lib.hid hg2; have HB2 := Lib.hid hb2; have HZ2 := Lib.hid hz2; clear hz2 hg2 hb2) | (with_reducible refine load_drum rfl _ rfl wr.heap.size rfl _ (L k) HG2.out ?_))
        have hz2 := HZ2.out
        have HA2 := Lib.hid (HA.out.below HB2.out hsz)
        have HBV := Lib.hid (hb.trans (HB2.out.mono (by omega)))
        clear HA HG2 HB2
        go_loopw [29] (fun i w' => Below w1.heap.size W w' ∧ ∃ j : Nat, j ≤ 96 ∧ i = .int .i64 j ∧ w1.heap.size < w'.heap.size ∧ DrumAt w' 33 w1.heap.size (mixD (fun x => interTo L k x &&& L k x) (interTo L k) j)) (fun i _ => 96 - (intOf i).toNat)
        case atStart => exact ⟨HBV.out, 0, by omega, rfl, by omega, by rw [mixD_zero]; exact HA2.out⟩
        case round =>
          clear HBV HA2 hz2 HZ2
          obtain ⟨hb3, j, hj, rfl, hsz3, hg3⟩ := hrel
          have HG3 := Lib.hid hg3; clear hg3
          by_cases hlj : j < 96
          · have hix := index_drum (L k) j hlj
            have c0 := HG3.out.cell j hlj
            rw [mixD_at] at c0
            have hf := HG3.out.frozen j
            have hbit := bits_and_u32 (interTo_32 HL.out k j) (HL.out k j)
            go_wp2
            go_roundw
            case rel =>
              have h3 := HG3.out.setCell j (interTo L k j &&& L k j) hlj
              rw [mixD_upd (fun x => interTo L k x &&& L k x)] at h3
              exact ⟨hb3.setCell (by simp) _, j + 1, by omega, by go_num, by simp; omega, h3⟩
            case measure => simp [intOf]; omega
          · have hj96 : j = 96 := by omega
            subst hj96
            have h3 := HG3.out.congr (mixD_full _ _)
            rw [← interTo_succ] at h3
            have H3 := Lib.hid h3; clear h3
            go_wp2
            go_roundw
            case rel => exact ⟨hb3, k + 1, by omega, by omega, by go_num, hsz3, H3.out⟩
            case measure => simp [intOf]; omega
      · have hkm : k = m := by omega
        subst hkm
        have h0 := HR0.out.below hb (by omega)
        have h0' := DrumAt.setRow h0 (interTo L k)
        have h1 := HA.out
        have hbe := HW0.out.trans (hb.mono (by omega))
        go_wp2_with (first | (with_reducible refine load_drum rfl _ rfl w1.heap.size rfl _ (interTo L k) h1 ?_) | (with_reducible refine store_drum rfl _ _ rfl (w.heap.size + 1) (interTo L k) rfl rfl _ _ h0 ?_))
        refine bodyPost_ret (results_drum2 rfl _ _ (w.heap.size + 1) _ (interTo L k) (.int .i64 0) rfl h0' rfl) rfl ⟨by rw [hr.out, HX.out], below_setRow hbe (by omega) _⟩
  · have hr := Lib.hid (shRes_no (s := s) (n := n) (P := P) (R := R) (m := m) (L := L) (by rw [hx]; exact h0))
    clear hx hb1
    have h1 := K0.here
    have h1' := DrumAt.setRow h1 (fun _ => 0)
    go_wp2_with (first | (with_reducible refine build_drum rfl rfl ?_) | (with_reducible refine store_drum rfl _ _ rfl (w.heap.size + 1) (fun _ => 0) rfl rfl _ _ h1 ?_))
    refine bodyPost_ret (results_drum2 rfl _ _ (w.heap.size + 1) _ (fun _ => 0) (.int .i64 x) rfl h1' rfl) rfl ⟨by rw [hr.out, HX.out], below_setRow KB.here (by omega) _⟩
set_option maxRecDepth 100000 in
theorem specSharedPins_any (s : Int) (a : Option Addr) (n c : Nat) (P R : Nat → Int) (b : Option Addr) (m d : Nat) (L : Nat → Nat → Nat) (w : World) (hs : -32768 ≤ s ∧ s ≤ 32767) (hn : n ≤ 1048576) (hP : I8 P) (hR : I8 R) (hh : HamAt w a n P R) (hm : m ≤ 1048576) (hL : L32 L) (hl : DrumsAt w b m L) :
    Calls Try.prog 9 #[.agg #[.int .i16 s, .slice a n c], .slice b m d] w fun e w' => e = .returned (.tuple #[.agg (dc (shRes s n P R m L)), .int .i64 (scode (okAll s n P R m L) m (-1))]) ∧ Below w.heap.size w w' := by
  have HP := Lib.hid hP; have HR := Lib.hid hR; have HL := Lib.hid hL
  clear hP hR hL
  have KB := Kp.base w
  have KH := kp_ham hh; have KL := kp_drums hl; clear hh hl
  replace KB := KB.alloc (.cells #[.int .i16 s, .slice a n c] 27)
  replace KH := KH.alloc (.cells #[.int .i16 s, .slice a n c] 27)
  replace KL := KL.alloc (.cells #[.int .i16 s, .slice a n c] 27)
  have KF := kp_new1 w #[.int .i16 s, .slice a n c] 27 (g := w.heap.size) (by simp)
  replace KB := KB.alloc (.cells (dc fun _ => 0) 33)
  replace KH := KH.alloc (.cells (dc fun _ => 0) 33)
  replace KL := KL.alloc (.cells (dc fun _ => 0) 33)
  replace KF := KF.alloc (.cells (dc fun _ => 0) 33)
  have K0 := kp_newd (w.alloc (.cells #[.int .i16 s, .slice a n c] 27)) (fun _ => 0) 33 (g := w.heap.size + 1) (by simp)
  have HZ := Lib.hid (show ((w.alloc (.cells #[.int .i16 s, .slice a n c] 27)).alloc (.cells (dc fun _ => 0) 33)).heap.size = w.heap.size + 1 + 1 by simp)
  go_enter Try.func9, Try.ntmps9
  go_wp2_with (first | (with_reducible refine load_iframe rfl _ rfl w.heap.size rfl _ s a n c KF.here ?_) | (with_reducible refine alloc_drum ?_ ?_ ?_; with_reducible rfl; with_reducible rfl))
  generalize ((w.alloc (.cells #[.int .i16 s, .slice a n c] 27)).alloc (.cells (dc fun _ => 0) 33)) = W0 at KB KH KL KF K0 HZ ⊢
  have hz0 := HZ.out
  clear HZ
  refine (l05First_any w.heap.size s a n c P R b m d L (-1) W0 hs hn HP.out HR.out KF.here KH.here hm KL.here).mono ?_
  rintro e w1 ⟨rfl, hb1⟩
  have hz1 : w.heap.size + 1 + 1 ≤ w1.heap.size := by have := hb1.size; omega
  replace KB := KB.on hb1
  replace KH := KH.on hb1
  replace KL := KL.on hb1
  replace KF := KF.on hb1
  replace K0 := K0.on hb1
  obtain ⟨x, hx⟩ : ∃ x, scode (okAll s n P R m L) m (-1) = x := ⟨_, rfl⟩
  rw [hx]
  have HX := Lib.hid hx
  by_cases h0 : x = 0
  · have hr := Lib.hid (shRes_yes (hx.trans h0))
    have hm0 := (scode_zero (hx.trans h0)).2.2
    clear hx hb1
    subst h0
    have hx := DrumsAt.get KL.here hm0
    obtain ⟨g, off, rfl, hg, hc⟩ := hx
    have HC0 := Lib.hid (hc 0 hm0); have HCC := Lib.hid hc; clear hc
    rw [Nat.zero_mul, Nat.add_zero] at HC0
    have KR := K0
    go_wp2_with (first | (with_reducible refine load_drum_mid rfl _ rfl g off rfl (L 0) HC0.out ?_) | (with_reducible refine copy_drum rfl rfl rfl _ _ rfl (L 0) rfl rfl ?_; intro W hb hz hgg; replace KB := KB.on hb; replace K0 := K0.on hb; have HG := Lib.hid hgg; have HZ1 := Lib.hid hz; have HBW := Lib.hid hb; clear hb hz hgg))
    have HW0 := Lib.hid KB.here
    have HR0 := Lib.hid K0.here
    clear KB K0 KR
    go_loopw [8] (fun i w' => Below w1.heap.size W w' ∧ ∃ k : Nat, k ≤ m ∧ 1 ≤ k ∧ i = .int .i64 k ∧ w1.heap.size < w'.heap.size ∧ DrumAt w' 33 w1.heap.size (interTo L k)) (fun i _ => m - (intOf i).toNat)
    case atStart => exact ⟨Below.refl _ _, 1, by omega, by omega, rfl, by have := HZ1.out; omega, by rw [interTo_one]; exact HG.out⟩
    case round =>
      clear HG
      obtain ⟨hb, k, hk, hk1, rfl, hsz, hgg⟩ := hrel
      have HA := Lib.hid hgg; clear hgg
      have hb1 : Below w1.heap.size w1 wr := HBW.out.trans hb
      by_cases hlt : k < m
      · have HC := Lib.hid ((HCC.out k hlt).below hb1 hg)
        have hgr : g < wr.heap.size := by omega
        have hk' : (k : Int) < m := by omega
        have HBV := Lib.hid hb; clear hb hb1
        go_wp2
        go_loopw [9] (fun i w' => Below w1.heap.size W w' ∧ ∃ j : Nat, j ≤ 96 ∧ i = .int .i64 j ∧ w1.heap.size < w'.heap.size ∧ DrumAt w' 33 w1.heap.size (mixD (fun x => interTo L k x &&& L k x) (interTo L k) j)) (fun i _ => 96 - (intOf i).toNat)
        case atStart => exact ⟨HBV.out, 0, by omega, rfl, by omega, by rw [mixD_zero]; exact HA.out⟩
        case round =>
          clear HBV HA HC
          obtain ⟨hb3, j, hj, rfl, hsz3, hg3⟩ := hrel
          have HG3 := Lib.hid hg3; clear hg3
          by_cases hlj : j < 96
          · have c0 := HG3.out.cell j hlj
            rw [mixD_at] at c0
            have hf := HG3.out.frozen j
            have c1 := ((HCC.out k hlt).below (HBW.out.trans hb3) hg) j hlj
            have hbit := bits_and_u32 (interTo_32 HL.out k j) (HL.out k j)
            have hj' : (j : Int) < 96 := by omega
            go_wp2
            go_still_tail 12, (by kernel_rfl)
            go_wp2
            go_roundw
            case rel =>
              have h3 := HG3.out.setCell j (interTo L k j &&& L k j) hlj
              rw [mixD_upd (fun x => interTo L k x &&& L k x)] at h3
              exact ⟨(hb3.setCell (by simp) _).drew, j + 1, by omega, by go_num, by simp; omega, h3⟩
            case measure => simp [intOf]; omega
          · have hj96 : j = 96 := by omega
            subst hj96
            have h3 := HG3.out.congr (mixD_full _ _)
            rw [← interTo_succ] at h3
            have H3 := Lib.hid h3; clear h3
            go_wp2
            go_roundw
            case rel => exact ⟨hb3, k + 1, by omega, by omega, by go_num, hsz3, H3.out⟩
            case measure => simp [intOf]; omega
      · have hkm : k = m := by omega
        subst hkm
        have h0 := HR0.out.below hb (by omega)
        have h0' := DrumAt.setRow h0 (interTo L k)
        have h1 := HA.out
        have hbe := HW0.out.trans (hb.mono (by omega))
        go_wp2_with (first | (with_reducible refine load_drum rfl _ rfl w1.heap.size rfl _ (interTo L k) h1 ?_) | (with_reducible refine store_drum rfl _ _ rfl (w.heap.size + 1) (interTo L k) rfl rfl _ _ h0 ?_))
        refine bodyPost_ret (results_drum2 rfl _ _ (w.heap.size + 1) _ (interTo L k) (.int .i64 0) rfl h0' rfl) rfl ⟨by rw [hr.out, HX.out], below_setRow hbe (by omega) _⟩
  · have hr := Lib.hid (shRes_no (s := s) (n := n) (P := P) (R := R) (m := m) (L := L) (by rw [hx]; exact h0))
    clear hx hb1
    have h1 := K0.here
    have h1' := DrumAt.setRow h1 (fun _ => 0)
    go_wp2_with (first | (with_reducible refine build_drum rfl rfl ?_) | (with_reducible refine store_drum rfl _ _ rfl (w.heap.size + 1) (fun _ => 0) rfl rfl _ _ h1 ?_))
    refine bodyPost_ret (results_drum2 rfl _ _ (w.heap.size + 1) _ (fun _ => 0) (.int .i64 x) rfl h1' rfl) rfl ⟨by rw [hr.out, HX.out], below_setRow KB.here (by omega) _⟩
end Go.Proofs.Ytlcfjeofphncgaa
namespace Go.Proofs.Ytlcfjeofphncgaa
open Go.RowKit
set_option linter.unusedVariables false
set_option linter.unusedSimpArgs false

/-! ### pins -/
theorem hasPin_bit (D : Nat → Nat) (k t : Nat) : hasPin D k t = (D k).testBit t := by unfold hasPin; rfl
/-- E has all pins of D -/
def subD (D E : Nat → Nat) : Prop := ∀ k t, hasPin D k t = true → hasPin E k t = true
theorem nxt_first {D : Nat → Nat} {m k t : Nat} : nxt D m k t = m ∨ (1 ≤ nxt D m k t ∧ nxt D m k t < m ∧ hasPin D ((k + nxt D m k t) % m) t = true ∧ ∀ j, 1 ≤ j → j < nxt D m k t → hasPin D ((k + j) % m) t = false) := by
  by_cases h : ∃ f, 1 ≤ f ∧ f < m ∧ hasPin D ((k + f) % m) t = true
  · right
    obtain ⟨f, h1, h2, h3⟩ := h
    have : ∀ g, 1 ≤ g → g < m → hasPin D ((k + g) % m) t = true → (1 ≤ nxt D m k t ∧ nxt D m k t < m ∧ hasPin D ((k + nxt D m k t) % m) t = true ∧ ∀ j, 1 ≤ j → j < nxt D m k t → hasPin D ((k + j) % m) t = false) := by
      intro g
      induction g using Nat.strongRecOn with
      | _ g ih =>
        intro a1 a2 a3
        by_cases hx : ∃ j, 1 ≤ j ∧ j < g ∧ hasPin D ((k + j) % m) t = true
        · obtain ⟨j, b1, b2, b3⟩ := hx; exact ih j b2 b1 (by omega) b3
        · have hno : ∀ j, 1 ≤ j → j < g → hasPin D ((k + j) % m) t = false := fun j b1 b2 => by
            cases hh : hasPin D ((k + j) % m) t
            · rfl
            · exact absurd ⟨j, b1, b2, hh⟩ hx
          rw [nxt_at a1 a2 a3 hno]
          exact ⟨a1, a2, a3, hno⟩
    exact this f h1 h2 h3
  · left
    exact nxt_none fun j b1 b2 => by
      cases hh : hasPin D ((k + j) % m) t
      · rfl
      · exact absurd ⟨j, b1, b2, hh⟩ h
theorem nxt_mono {D E : Nat → Nat} (h : subD D E) (m k t : Nat) : nxt E m k t ≤ nxt D m k t := by
  rcases nxt_first (D := D) (m := m) (k := k) (t := t) with e | ⟨h1, h2, h3, h4⟩
  · rw [e]; exact nxt_le _ _ _ _
  · rcases nxt_first (D := E) (m := m) (k := k) (t := t) with e | ⟨g1, g2, g3, g4⟩
    · exfalso
      have h5 := h _ _ h3
      have : nxt E m k t ≤ nxt D m k t ∨ nxt D m k t < nxt E m k t := by omega
      have h6 : ∀ f, 1 ≤ f → f < m → hasPin E ((k + f) % m) t = true → nxt E m k t < m := by
        intro f a1 a2 a3
        rcases nxt_first (D := E) (m := m) (k := k) (t := t) with e2 | e2
        · exfalso
          have : ∀ g, 1 ≤ g → g < m → hasPin E ((k + g) % m) t = true → False := by
            intro g
            induction g using Nat.strongRecOn with
            | _ g ih =>
              intro b1 b2 b3
              by_cases hx : ∃ j, 1 ≤ j ∧ j < g ∧ hasPin E ((k + j) % m) t = true
              · obtain ⟨j, c1, c2, c3⟩ := hx; exact ih j c2 c1 (by omega) c3
              · have := nxt_at b1 b2 b3 fun j c1 c2 => by
                  cases hh : hasPin E ((k + j) % m) t
                  · rfl
                  · exact absurd ⟨j, c1, c2, hh⟩ hx
                omega
          exact this f a1 a2 a3
        · exact e2.2.1
      have := h6 _ h1 h2 h5
      omega
    · apply Classical.byContradiction
      intro hc
      have := g4 (nxt D m k t) h1 (by omega)
      rw [h _ _ h3] at this
      cases this
theorem clB_iff {m : Nat} {R : Nat → Int} {D : Nat → Nat} {k t : Nat} : clB m R D k t = true ↔ hasPin D k t = true ∧ (nxt D m k t : Int) < R t := by
  cases h : hasPin D k t
  · rw [clB_no h]; simp
  · rw [clB_pin h]; simp
theorem clB_mono {D E : Nat → Nat} (h : subD D E) {m : Nat} {R : Nat → Int} {k t : Nat} (hc : clB m R D k t = true) : clB m R E k t = true := by
  rw [clB_iff] at hc ⊢
  have := nxt_mono h m k t
  exact ⟨h _ _ hc.1, by omega⟩
theorem plL_empty {p : Nat → Nat → Bool} {n : Nat} (hn : 0 < n) : ∀ j, (plL p n j).length = 0 ↔ ∀ i, i < j → p (i / n) (i % n) = false := by
  intro j
  induction j with
  | zero => simp [plL_zero]
  | succ j ih =>
    have hj : j / n * n + j % n = j := by rw [Nat.mul_comm]; exact Nat.div_add_mod j n
    have hy := plL_yes (p := p) (k := j / n) (Nat.mod_lt j hn)
    have hx := plL_no (p := p) (k := j / n) (Nat.mod_lt j hn)
    rw [hj] at hy hx
    cases h : p (j / n) (j % n)
    · rw [hx h, ih]
      constructor
      · intro h1 i hi
        by_cases e : i = j
        · rw [e]; exact h
        · exact h1 i (by omega)
      · intro h1 i hi; exact h1 i (by omega)
    · rw [hy h, List.length_append, List.length_singleton]
      constructor
      · intro h1; omega
      · intro h1; have := h1 j (Nat.lt_succ_self _); rw [h] at this; cases this
theorem freeB_iff {m : Nat} {R : Nat → Int} {n : Nat} {D : Nat → Nat} : freeB m R n D = true ↔ ∀ i, i < m * n → clB m R D (i / n) (i % n) = false := by
  rw [freeB_def, decide_eq_true_iff]
  rcases Nat.eq_zero_or_pos n with h | h
  · subst h; simp [plL_zero]
  · exact plL_empty h _
/-- fewer pins, fewer clashes -/
theorem freeB_mono {D E : Nat → Nat} (h : subD D E) {m : Nat} {R : Nat → Int} {n : Nat} (hf : freeB m R n E = true) : freeB m R n D = true := by
  rw [freeB_iff] at hf ⊢
  intro i hi
  cases hc : clB m R D (i / n) (i % n)
  · rfl
  · have := hf i hi
    rw [clB_mono h hc] at this
    cases this
/-! ### unions -/
theorem unionTo_bit (L : Nat → Nat → Nat) (m k b : Nat) : (unionTo L m k).testBit b = true ↔ ∃ i, i < m ∧ (L i k).testBit b = true := by
  induction m with
  | zero => rw [unionTo_zero]; simp
  | succ m ih =>
    rw [unionTo_succ, Nat.testBit_or, Bool.or_eq_true, ih]
    constructor
    · rintro (⟨i, h1, h2⟩ | h)
      · exact ⟨i, by omega, h2⟩
      · exact ⟨m, by omega, h⟩
    · rintro ⟨i, h1, h2⟩
      by_cases e : i = m
      · subst e; exact .inr h2
      · exact .inl ⟨i, by omega, h2⟩
theorem interTo_bit (L : Nat → Nat → Nat) {m : Nat} (k b : Nat) (h : (interTo L m k).testBit b = true) : ∀ i, i < m → (L i k).testBit b = true := by
  induction m with
  | zero => intro i hi; omega
  | succ m ih =>
    rw [interTo_succ, Nat.testBit_and, Bool.and_eq_true] at h
    intro i hi
    by_cases e : i = m
    · subst e; exact h.2
    · exact ih h.1 i (by omega)
theorem andn_zero {a b : Nat} (h : ∀ i, a.testBit i = true → b.testBit i = true) : andn a b = 0 := by
  apply Nat.eq_of_testBit_eq
  intro i
  rw [andn_testBit, Nat.zero_testBit]
  cases ha : a.testBit i
  · rfl
  · rw [h i ha]; rfl
theorem shared_in (L : Nat → Nat → Nat) {m i : Nat} (hi : i < m) (k : Nat) : andn (interTo L m k) (L i k) = 0 := andn_zero fun b hb => interTo_bit L k b hb i hi
theorem in_union (L : Nat → Nat → Nat) {m i : Nat} (hi : i < m) (k : Nat) : andn (L i k) (unionTo L m k) = 0 := andn_zero fun b hb => (unionTo_bit L m k b).2 ⟨i, hi, hb⟩
theorem uniL_pin (L : Nat → Nat → Nat) (g : List Nat) (k b : Nat) : hasPin (uniL L g) k b = true ↔ ∃ t, t ∈ g ∧ hasPin (L t) k b = true := by
  rw [hasPin_bit, uniL_def, unionTo_bit]
  constructor
  · rintro ⟨i, hi, h⟩
    rw [List.getD, List.getElem?_eq_getElem hi, Option.getD_some] at h
    exact ⟨g[i], List.getElem_mem hi, by rw [hasPin_bit]; exact h⟩
  · rintro ⟨t, ht, h⟩
    obtain ⟨i, hi, e⟩ := List.getElem_of_mem ht
    refine ⟨i, hi, ?_⟩
    rw [List.getD, List.getElem?_eq_getElem hi, Option.getD_some, e, ← hasPin_bit]
    exact h
theorem two_pin (D E : Nat → Nat) (k b : Nat) : hasPin (unionTo (twoL D E) 2) k b = true ↔ hasPin D k b = true ∨ hasPin E k b = true := by
  rw [union_two, hasPin_bit, hasPin_bit, hasPin_bit, Nat.testBit_or, Bool.or_eq_true]
/-! ### groups -/
/-- those below i that have the number g -/
def gsel (Z : Nat → Int) (g i : Nat) : List Nat := (List.range i).filter fun t => decide (Z t = (g : Int))
theorem gsel_zero (Z : Nat → Int) (g : Nat) : gsel Z g 0 = [] := rfl
theorem gsel_yes {Z : Nat → Int} {g i : Nat} (h : Z i = g) : gsel Z g (i + 1) = gsel Z g i ++ [i] := by unfold gsel; rw [List.range_succ, List.filter_append]; simp [h]
theorem gsel_no {Z : Nat → Int} {g i : Nat} (h : ¬ Z i = g) : gsel Z g (i + 1) = gsel Z g i := by unfold gsel; rw [List.range_succ, List.filter_append]; simp [h]
theorem gsel_mem {Z : Nat → Int} {g i t : Nat} : t ∈ gsel Z g i ↔ t < i ∧ Z t = g := by unfold gsel; simp
theorem gsel_len (Z : Nat → Int) (g i : Nat) : (gsel Z g i).length ≤ i := by
  unfold gsel; exact Nat.le_trans (List.length_filter_le _ _) (by simp)
theorem gsel_congr {Z Y : Nat → Int} {g i : Nat} (h : ∀ t, t < i → Z t = Y t) : gsel Z g i = gsel Y g i := by
  unfold gsel
  apply List.filter_congr
  intro t ht
  rw [h t (by simpa using ht)]
attribute [irreducible] gsel
structure SgI (k : Nat) (R : Nat → Int) (n : Nat) (L : Nat → Nat → Nat) (i : Nat) (gs : List (List Nat)) (cs : List Int) : Prop where
  len : cs.length = i
  rng : ∀ t, t < i → 0 ≤ cs.getD t 0 ∧ cs.getD t 0 < gs.length
  sel : ∀ g, g < gs.length → gs.getD g [] = gsel (fun t => cs.getD t 0) g i
  some : ∀ g, g < gs.length → 0 < (gs.getD g []).length
  free : ∀ g, g < gs.length → 1 < (gs.getD g []).length → freeB k R n (uniL L (gs.getD g [])) = true
theorem cs_snoc {cs : List Int} {x : Int} {t : Nat} (h : t < cs.length) : (cs ++ [x]).getD t 0 = cs.getD t 0 := by simp [List.getD, List.getElem?_append_left h]
theorem cs_last {cs : List Int} {x : Int} : (cs ++ [x]).getD cs.length 0 = x := by simp [List.getD]
theorem gs_set {gs : List (List Nat)} {j g : Nat} {x : List Nat} (hj : j < gs.length) : (gs.set j x).getD g [] = if g = j then x else gs.getD g [] := by
  rw [List.getD, List.getElem?_set, List.getD]
  by_cases e : g = j
  · subst e; simp [hj]
  · rw [if_neg (fun h => e h.symm), if_neg e]
theorem jOf_fit {k : Nat} {R : Nat → Int} {n : Nat} {L : Nat → Nat → Nat} {gs : List (List Nat)} {i : Nat} (h : jOf k R n L gs i < gs.length) : fit k R n L (gs.getD (jOf k R n L gs i) []) i = true := by
  have := List.findIdx_getElem (xs := gs) (p := fun g => fit k R n L g i) (w := by unfold jOf at h; exact h)
  rw [List.getD, List.getElem?_eq_getElem h, Option.getD_some]
  unfold jOf
  exact this
theorem sg_inv (k : Nat) (R : Nat → Int) (n : Nat) (L : Nat → Nat → Nat) (i : Nat) : SgI k R n L i (sg k R n L i).1 (sg k R n L i).2 := by
  induction i with
  | zero => rw [sg_zero]; exact ⟨rfl, fun t h => absurd h (Nat.not_lt_zero _), fun g h => absurd h (by simp), fun g h => absurd h (by simp), fun g h => absurd h (by simp)⟩
  | succ i ih =>
    rw [sg_succ]
    dsimp only
    have hle := jOf_le k R n L (sg k R n L i).1 i
    have hfit := fun h => jOf_fit (k := k) (R := R) (n := n) (L := L) (gs := (sg k R n L i).1) (i := i) h
    generalize jOf k R n L (sg k R n L i).1 i = j at hle hfit ⊢
    generalize (sg k R n L i).1 = gs at ih hle hfit ⊢
    generalize (sg k R n L i).2 = cs at ih ⊢
    obtain ⟨h1, h2, h3, h4, h5⟩ := ih
    have hsel : ∀ g, gsel (fun t => (cs ++ [(j : Int)]).getD t 0) g (i + 1) = if g = j then gsel (fun t => cs.getD t 0) g i ++ [i] else gsel (fun t => cs.getD t 0) g i := by
      intro g
      have hc : gsel (fun t => (cs ++ [(j : Int)]).getD t 0) g i = gsel (fun t => cs.getD t 0) g i := gsel_congr fun t ht => cs_snoc (by omega)
      have hl : (cs ++ [(j : Int)]).getD i 0 = j := by rw [← h1]; exact cs_last
      by_cases e : g = j
      · rw [if_pos e, gsel_yes (by rw [hl, e]), hc]
      · rw [if_neg e, gsel_no (by rw [hl]; omega), hc]
    by_cases hj : j < gs.length
    · rw [grp_def, more_in hj]
      refine ⟨by simp [h1], fun t ht => ?_, fun g hg => ?_, fun g hg => ?_, fun g hg hlen => ?_⟩
      · rw [List.length_set]
        by_cases e : t = i
        · rw [e, ← h1, cs_last]; omega
        · rw [cs_snoc (by omega)]; exact h2 t (by omega)
      · rw [List.length_set] at hg
        rw [gs_set hj, hsel]
        by_cases e : g = j
        · rw [if_pos e, if_pos e, e, h3 j hj]
        · rw [if_neg e, if_neg e, h3 g hg]
      · rw [List.length_set] at hg
        rw [gs_set hj]
        split
        · simp
        · exact h4 g hg
      · rw [List.length_set] at hg
        rw [gs_set hj] at hlen ⊢
        by_cases e : g = j
        · rw [if_pos e]
          have := hfit hj
          rwa [fit_def] at this
        · rw [if_neg e] at hlen ⊢
          exact h5 g hg hlen
    · have hjl : j = gs.length := by omega
      subst hjl
      rw [grp_def, more_new hj]
      have hlt : gs.length < (gs ++ [([] : List Nat)]).length := by simp
      have hget : ∀ g, g < gs.length → (gs ++ [([] : List Nat)]).getD g [] = gs.getD g [] := fun g hg => by simp [List.getD, List.getElem?_append_left hg]
      have hlast : (gs ++ [([] : List Nat)]).getD gs.length [] = [] := by simp [List.getD]
      have hnone : gsel (fun t => cs.getD t 0) gs.length i = [] := by
        rcases hx : gsel (fun t => cs.getD t 0) gs.length i with _ | ⟨t, r⟩
        · rfl
        · have ht : t ∈ gsel (fun t => cs.getD t 0) gs.length i := by rw [hx]; exact List.mem_cons_self
          have h6 := gsel_mem.1 ht
          have h7 := h2 t h6.1
          have h8 : cs.getD t 0 = (gs.length : Int) := h6.2
          omega
      refine ⟨by simp [h1], fun t ht => ?_, fun g hg => ?_, fun g hg => ?_, fun g hg hlen => ?_⟩
      · rw [List.length_set, List.length_append, List.length_singleton]
        by_cases e : t = i
        · rw [e, ← h1, cs_last]; omega
        · rw [cs_snoc (by omega)]; have := h2 t (by omega); omega
      · rw [List.length_set, List.length_append, List.length_singleton] at hg
        rw [gs_set hlt, hsel]
        by_cases e : g = gs.length
        · rw [if_pos e, if_pos e, e, hlast, hnone]
        · rw [if_neg e, if_neg e, hget g (by omega), h3 g (by omega)]
      · rw [List.length_set, List.length_append, List.length_singleton] at hg
        rw [gs_set hlt]
        split
        · simp
        · rw [hget g (by omega)]; exact h4 g (by omega)
      · rw [List.length_set, List.length_append, List.length_singleton] at hg
        rw [gs_set hlt] at hlen ⊢
        by_cases e : g = gs.length
        · rw [if_pos e, hlast] at hlen; simp at hlen
        · rw [if_neg e, hget g (by omega)] at hlen ⊢
          exact h5 g (by omega) hlen
/-- two of a group can share -/
theorem sg_share {k : Nat} {R : Nat → Int} {n : Nat} {L : Nat → Nat → Nat} {m i j : Nat} (hi : i < m) (hj : j < i) (he : (sg k R n L m).2.getD j 0 = (sg k R n L m).2.getD i 0) : freeB k R n (unionTo (twoL (L j) (L i)) 2) = true := by
  obtain ⟨h1, h2, h3, h4, h5⟩ := sg_inv k R n L m
  have hr := h2 i hi
  obtain ⟨g, hg⟩ : ∃ g : Nat, (sg k R n L m).2.getD i 0 = g := ⟨((sg k R n L m).2.getD i 0).toNat, by omega⟩
  have hgl : g < (sg k R n L m).1.length := by omega
  have hmi : i ∈ (sg k R n L m).1.getD g [] := by rw [h3 g hgl]; exact gsel_mem.2 ⟨hi, hg⟩
  have hmj : j ∈ (sg k R n L m).1.getD g [] := by rw [h3 g hgl]; exact gsel_mem.2 ⟨by omega, he.trans hg⟩
  have hlen : 1 < ((sg k R n L m).1.getD g []).length := by
    generalize (sg k R n L m).1.getD g [] = l at hmi hmj
    rcases l with _ | ⟨a, _ | ⟨b, r⟩⟩
    · simp at hmi
    · simp at hmi hmj; omega
    · simp
  refine freeB_mono (fun q b hq => ?_) (h5 g hgl hlen)
  rw [two_pin] at hq
  rw [uniL_pin]
  rcases hq with hq | hq
  · exact ⟨j, hmj, hq⟩
  · exact ⟨i, hmi, hq⟩
/-- what shares is free alone -/
theorem share_alone {k : Nat} {R : Nat → Int} {n : Nat} {D E : Nat → Nat} (h : freeB k R n (unionTo (twoL D E) 2) = true) : freeB k R n E = true :=
  freeB_mono (fun q b hq => (two_pin D E q b).2 (.inr hq)) h
end Go.Proofs.Ytlcfjeofphncgaa
namespace Go.Proofs.Ytlcfjeofphncgaa
open Go.RowKit
set_option linter.unusedVariables false
set_option linter.unusedSimpArgs false

theorem eq_itemsD (d : Nat) (D : Nat → Nat) (w : World) : ∀ is : List Nat, (∀ i ∈ is, i < 96) → (Op.eqItems (d + 1) 31 1 (dc D) (dc D) is).run Try.prog w = .ok true w
  | [], _ => by simp [Op.eqItems]
  | i :: is, h => by
    have hi := h i (by simp)
    have hp : (part 31 (dc D) (i * 1)).run Try.prog w = .ok (.int .u32 (D i)) w := by
      have ha : (isAgg 31).run Try.prog w = .ok false w := by kernel_rfl
      simp only [part, Sem.run_bind, ha, Result.andThen_ok, Nat.mul_one, dc_get D i hi]
      rfl
    have ih := eq_itemsD d D w is (fun j hj => h j (by simp [hj]))
    have he := run_equalIn_int (P := Try.prog) (w := w) d 31 .u32 .u32 (D i) (D i) Try.underlying31
    simp only [Op.eqItems, Sem.run_bind, hp, Result.andThen_ok, he]
    simp [ih]
theorem cells_u32 : Try.prog.cellsOf 31 = 1 := by kernel_rfl
theorem run_eq_drum (D : Nat → Nat) (w : World) : (Op.equalIn 10000 33 (.agg (dc D)) (.agg (dc D))).run Try.prog w = .ok true w := by
  obtain ⟨i, hi⟩ := info_of_underlying (P := Try.prog) Try.underlying31
  rw [show (10000 : Nat) = 9999 + 1 from rfl, run_equalIn_array w 9999 (dc D) (dc D) und_drum hi, cells_u32, show (9999 : Nat) = 9998 + 1 from rfl, eq_itemsD 9998 D w _ (fun i hi => by simpa using hi)]
theorem guard_drum : Try.prog.eqGuardType Try.prog.depth 33 = false := by kernel_rfl
section
variable {ops : Array Oper} {rest : List Oper} {o : Oper} {a : Act} {w : World} {Q : Exit → Act → World → Prop}
theorem neq_drumG (x y : Operand) (ho : o.op = .binOp .neq 33 x y 33) (D : Nat → Nat) (hx : a.eval x = .agg (dc D)) (hy : a.eval y = .agg (dc D)) (hw : Region.wanted o (yielded ops a.tmps) = true)
    (h : wpList Try.prog ops Q rest (a.put o.dst (.bool false)) w) : wpList Try.prog ops Q (o :: rest) a w := by
  refine wpList_step fun K hK => ?_
  rw [if_pos hw]
  have he := run_eq_drum D w
  have hg := guard_drum
  unfold Oper.wp
  have e : (execOp a.eval o).run Try.prog w = .ok (.value (.bool false)) w := by
    unfold execOp
    simp only [ho, hx, hy]
    simp [go_sem, he, hg]
  rw [e]
  exact hK _ _ h
theorem max_run (A : Array TypeId) (ty : TypeId) (p q : Int) (w : World) : (Builtin.max_ A ty #[.int .i64 p, .int .i64 q]).run Try.prog w = .ok (.int .i64 (if p < q then q else p)) w := by
  by_cases h : p < q
  · rw [if_pos h]
    have h2 : ¬ q ≤ p := by omega
    simp [go_sem, Builtin.max_, Builtin.max2, h, h2]
  · rw [if_neg h]
    have h2 : q ≤ p := by omega
    simp [go_sem, Builtin.max_, Builtin.max2, h, h2]
theorem max_arm (hgd : o.guard = none) (x y : Nat) (ho : o.op = .call { callee := .builtin .max, args := #[.tmp x, .tmp y], argTypes := #[2, 2] }) (p q z : Int) (hx : a.tmps[x]?.getD undef = .int .i64 p) (hy : a.tmps[y]?.getD undef = .int .i64 q) (hz : (if p < q then q else p) = z)
    (h : wpList Try.prog ops Q rest (a.put o.dst (.int .i64 z)) w) : wpList Try.prog ops Q (o :: rest) a w := by
  refine wpList_plain hgd fun K hK => ?_
  unfold Oper.wp
  have e : (execOp a.eval o).run Try.prog w = .ok (.value (.int .i64 z)) w := by
    have hr := max_run #[2, 2] o.type p q w
    rw [hz] at hr
    unfold execOp
    simp only [ho]
    simp [go_sem, hx, hy, hr]
  rw [e]
  exact hK _ _ h
theorem load_GfV {v : Value} (he : (execOp a.eval o).run Try.prog w = .ok (.value v) w) (hw : Region.wanted o (yielded ops a.tmps) = true) (h : wpList Try.prog ops Q rest (a.put o.dst v) w) : wpList Try.prog ops Q (o :: rest) a w := by
  refine wpList_step fun K hK => ?_
  rw [if_pos hw]
  unfold Oper.wp
  rw [he]
  exact hK _ _ h
end
end Go.Proofs.Ytlcfjeofphncgaa
namespace Go.Proofs.Ytlcfjeofphncgaa
open Go.RowKit
set_option linter.unusedVariables false
set_option linter.unusedSimpArgs false

theorem div_lt {a n : Nat} (h : a / 2 ^ n = 0) : a < 2 ^ n := by
  rcases Nat.lt_or_ge a (2 ^ n) with h3 | h3
  · exact h3
  · have := Nat.div_pos h3 (Nat.two_pow_pos n); omega
theorem vDrum_union {s : Int} {n : Nat} {L : Nat → Nat → Nat} : ∀ m, (∀ i, i < m → vDrum s n (L i) = true) → vDrum s n (unionTo L m) = true := by
  intro m
  induction m with
  | zero => intro _; rw [unionTo_zero]; exact vDrum_iff.2 fun k _ => by simp
  | succ m ih =>
    intro h
    have h1 := vDrum_iff.1 (ih fun i hi => h i (by omega))
    have h2 := vDrum_iff.1 (h m (Nat.lt_succ_self _))
    rw [unionTo_succ]
    refine vDrum_iff.2 fun k hk => ?_
    have a1 := h1 k hk
    have a2 := h2 k hk
    refine ⟨Nat.div_eq_of_lt (Nat.or_lt_two_pow (div_lt a1.1) (div_lt a2.1)), fun hs => ?_⟩
    rw [a1.2 hs, a2.2 hs]; rfl
theorem map_getD {α β : Type} (f : α → β) (l : List α) (a : α) (b : β) {i : Nat} (h : i < l.length) : (l.map f).getD i b = f (l.getD i a) := by
  rw [List.getD, List.getElem?_map, List.getElem?_eq_getElem h, List.getD, List.getElem?_eq_getElem h]; rfl
section
variable {k : Nat} {R : Nat → Int} {n : Nat} {L : Nat → Nat → Nat} {l g : Nat}
/-- the drums of a group -/
def gdr (L : Nat → Nat → Nat) (cs : List Int) (g i : Nat) : List (Nat → Nat) := (gsel (fun t => cs.getD t 0) g i).map L
theorem gdr_zero (cs : List Int) : gdr L cs g 0 = [] := by unfold gdr; rw [gsel_zero]; rfl
theorem gdr_yes {cs : List Int} {i : Nat} (h : cs.getD i 0 = (g : Int)) : gdr L cs g (i + 1) = gdr L cs g i ++ [L i] := by unfold gdr; rw [gsel_yes h, List.map_append]; rfl
theorem gdr_no {cs : List Int} {i : Nat} (h : ¬ cs.getD i 0 = (g : Int)) : gdr L cs g (i + 1) = gdr L cs g i := by unfold gdr; rw [gsel_no h]
theorem gdr_len (cs : List Int) (i : Nat) : (gdr L cs g i).length ≤ i := by unfold gdr; rw [List.length_map]; exact gsel_len _ _ _
theorem gdr_get {cs : List Int} {i j : Nat} (hj : j < (gdr L cs g i).length) : ∃ t, t < i ∧ (gdr L cs g i).getD j D0 = L t := by
  unfold gdr at hj ⊢
  rw [List.length_map] at hj
  have hm := gsel_mem.1 (List.getElem_mem hj)
  refine ⟨_, hm.1, ?_⟩
  rw [map_getD L _ 0 D0 hj, List.getD, List.getElem?_eq_getElem hj]; rfl
theorem gdr_32 {cs : List Int} {i : Nat} (h : L32 L) : L32 (fun j => (gdr L cs g i).getD j D0) := by
  intro j
  show D32 ((gdr L cs g i).getD j D0)
  by_cases hj : j < (gdr L cs g i).length
  · obtain ⟨t, _, e⟩ := gdr_get hj
    rw [e]; exact h t
  · rw [List.getD, List.getElem?_eq_none (Nat.le_of_not_lt hj)]; intro k; simp
theorem gdr_uni (cs : List Int) (i : Nat) : unionTo (fun j => (gdr L cs g i).getD j D0) (gdr L cs g i).length = uniL L (gsel (fun t => cs.getD t 0) g i) := by
  rw [uniL_def]
  have e : (gdr L cs g i).length = (gsel (fun t => cs.getD t 0) g i).length := by unfold gdr; exact List.length_map _
  rw [e]
  refine unionTo_congr _ fun t ht => ?_
  unfold gdr
  exact map_getD L _ 0 D0 ht
theorem gdr_facts (hg : g < (sg k R n L l).1.length) : 0 < (gdr L (sg k R n L l).2 g l).length ∧ (1 < (gdr L (sg k R n L l).2 g l).length → freeB k R n (unionTo (fun j => (gdr L (sg k R n L l).2 g l).getD j D0) (gdr L (sg k R n L l).2 g l).length) = true) := by
  obtain ⟨h1, h2, h3, h4, h5⟩ := sg_inv k R n L l
  have e : (gdr L (sg k R n L l).2 g l).length = ((sg k R n L l).1.getD g []).length := by unfold gdr; rw [List.length_map, ← h3 g hg]
  have hu := gdr_uni (L := L) (g := g) (sg k R n L l).2 l
  rw [← h3 g hg] at hu
  rw [hu, e]
  exact ⟨h4 g hg, h5 g hg⟩
theorem sg_rng {t : Nat} (h : t < l) : 0 ≤ (sg k R n L l).2.getD t 0 ∧ (sg k R n L l).2.getD t 0 < ((sg k R n L l).1.length : Int) := (sg_inv k R n L l).rng t h
end
attribute [irreducible] gdr
end Go.Proofs.Ytlcfjeofphncgaa
namespace Go.Proofs.Ytlcfjeofphncgaa
open Go.RowKit
set_option linter.unusedVariables false
set_option linter.unusedSimpArgs false

/-- a slice at the address a reads as n notes -/
def NoteAt (w : World) (a : Option Addr) (n : Nat) (P R : Nat → Int) : Prop :=
  0 < n → ∃ g off, a = some ⟨g, off, none⟩ ∧ g < w.heap.size ∧
    ∀ i, i < n → w.cell? ⟨g, off + i * 2, none⟩ = some (.int .i16 (P i)) ∧ w.cell? ⟨g, off + i * 2 + 1, none⟩ = some (.int .i8 (R i))
theorem NoteAt.get {w : World} {a : Option Addr} {n : Nat} {P R : Nat → Int} (h : NoteAt w a n P R) (hn : 0 < n) : ∃ g off, a = some ⟨g, off, none⟩ ∧ g < w.heap.size ∧
    ∀ i, i < n → w.cell? ⟨g, off + i * 2, none⟩ = some (.int .i16 (P i)) ∧ w.cell? ⟨g, off + i * 2 + 1, none⟩ = some (.int .i8 (R i)) := h hn
theorem NoteAt.below {w w' : World} {a : Option Addr} {n : Nat} {P R : Nat → Int} (h : NoteAt w a n P R) (hb : Below w.heap.size w w') : NoteAt w' a n P R := by
  intro hn
  obtain ⟨g, off, rfl, hg, hc⟩ := h hn
  refine ⟨g, off, rfl, Nat.lt_of_lt_of_le hg hb.size, fun i hi => ?_⟩
  rw [hb.cell (p := ⟨g, off + i * 2, none⟩) hg, hb.cell (p := ⟨g, off + i * 2 + 1, none⟩) hg]
  exact hc i hi


theorem kp_note {w : World} {a : Option Addr} {n : Nat} {P R : Nat → Int} (h : NoteAt w a n P R) : Kp w (fun V => NoteAt V a n P R) := Kp.mk fun _ hb => h.below hb
/-- a slice that came in, at the address a, reads as n notes -/
def NoteIn (w : World) (a : Option Addr) (n : Nat) (P R : Nat → Int) : Prop :=
  0 < n → ∃ ad, a = some ad ∧ ad.block < w.heap.size ∧
    ∀ i, i < n → w.cell? (ad.add (i * 2)) = some (.int .i16 (P i)) ∧ w.cell? ⟨(ad.add (i * 2)).block, (ad.add (i * 2)).off + 1, none⟩ = some (.int .i8 (R i))

theorem NoteIn.get {w : World} {a : Option Addr} {n : Nat} {P R : Nat → Int} (h : NoteIn w a n P R) (hn : 0 < n) : ∃ ad, a = some ad ∧ ad.block < w.heap.size ∧
    ∀ i, i < n → w.cell? (ad.add (i * 2)) = some (.int .i16 (P i)) ∧ w.cell? ⟨(ad.add (i * 2)).block, (ad.add (i * 2)).off + 1, none⟩ = some (.int .i8 (R i)) := h hn
theorem NoteIn.below {w w' : World} {a : Option Addr} {n : Nat} {P R : Nat → Int} (h : NoteIn w a n P R) (hb : Below w.heap.size w w') : NoteIn w' a n P R := by
  intro hn
  obtain ⟨ad, rfl, hg, hc⟩ := h hn
  refine ⟨ad, rfl, Nat.lt_of_lt_of_le hg hb.size, fun i hi => ?_⟩
  rw [hb.cell (p := ad.add (i * 2)) (by rw [add_block]; exact hg), hb.cell (p := ⟨(ad.add (i * 2)).block, (ad.add (i * 2)).off + 1, none⟩) (by rw [add_block]; exact hg)]
  exact hc i hi
/-- a block bears n notes -/
def NoteF (n : Nat) (P R : Nat → Int) (f : Nat → Value) : Prop := ∀ i, i < n → f (i * 2) = .int .i16 (P i) ∧ f (i * 2 + 1) = .int .i8 (R i)
theorem NoteF.at {w : World} {T g n : Nat} {P R : Nat → Int} {f : Nat → Value} (h : NoteF n P R f) (hb : BlkAt w T g (n * 2) f) : NoteAt w (some ⟨g, 0, none⟩) n P R := fun _ =>
  ⟨g, 0, rfl, hb.lt, fun i hi => by
    rw [Nat.zero_add, hb.cell (i * 2) (by omega), hb.cell (i * 2 + 1) (by omega), (h i hi).1, (h i hi).2]
    exact ⟨rfl, rfl⟩⟩
theorem NoteF.step {k : Nat} {P R : Nat → Int} {f : Nat → Value} (h : NoteF k P R f) : NoteF (k + 1) P R (updV (updV f (k * 2) (.int .i16 (P k))) (k * 2 + 1) (.int .i8 (R k))) := by
  intro i hi
  by_cases e : i = k
  · subst e
    rw [updV_other _ _ _ (by omega), updV_same, updV_same]
    exact ⟨rfl, rfl⟩
  · rw [updV_other _ _ _ (by omega), updV_other _ _ _ (by omega), updV_other _ _ _ (by omega), updV_other _ _ _ (by omega)]
    exact h i (by omega)

theorem kp_noteIn {w : World} {a : Option Addr} {n : Nat} {P R : Nat → Int} (h : NoteIn w a n P R) : Kp w (fun V => NoteIn V a n P R) := Kp.mk fun _ hb => h.below hb
end Go.Proofs.Ytlcfjeofphncgaa
namespace Go.Proofs.Ytlcfjeofphncgaa
open Go.RowKit
set_option linter.unusedVariables false
set_option linter.unusedSimpArgs false

/-- there may be such a note -/
def noteB (a p : Int) : Bool := inB a 0 199 && inB p 0 47
theorem noteB_def (a p : Int) : noteB a p = (inB a 0 199 && inB p 0 47) := rfl
theorem noteB_iff {a p : Int} : noteB a p = true ↔ (0 ≤ a ∧ a ≤ 199) ∧ 0 ≤ p ∧ p ≤ 47 := by unfold noteB; rw [Bool.and_eq_true, inB_iff, inB_iff]
attribute [irreducible] noteB
/-- a note comes before another -/
def befB (a p b q : Int) : Bool := decide (a < b) || (decide (a = b) && decide (p < q))
theorem befB_def (a p b q : Int) : befB a p b q = (decide (a < b) || (decide (a = b) && decide (p < q))) := rfl
theorem befB_iff {a p b q : Int} : befB a p b q = true ↔ a < b ∨ a = b ∧ p < q := by unfold befB; simp
attribute [irreducible] befB
/-- how two notes compare -/
def cmpN (a p b q : Int) : Int := if a < b then -1 else if b < a then 1 else if p < q then -1 else if q < p then 1 else 0
def cmp1 (a b : Int) : Int := if a < b then -1 else if b < a then 1 else 0
theorem cmp1_def (a b : Int) : cmp1 a b = if a < b then -1 else if b < a then 1 else 0 := rfl
theorem cmp1_lt {a b : Int} (h : a < b) : cmp1 a b = -1 := if_pos h
theorem cmp1_gt {a b : Int} (h : b < a) : cmp1 a b = 1 := by unfold cmp1; rw [if_neg (by omega), if_pos h]
theorem cmp1_eq (a : Int) : cmp1 a a = 0 := by unfold cmp1; rw [if_neg (by omega), if_neg (by omega)]
theorem cmpN_first {a b : Int} (p q : Int) (h : ¬ cmp1 a b = 0) : cmpN a p b q = cmp1 a b := by
  unfold cmpN; unfold cmp1 at h ⊢
  by_cases h1 : a < b
  · rw [if_pos h1, if_pos h1]
  · rw [if_neg h1] at h ⊢
    by_cases h2 : b < a
    · rw [if_pos h2, if_neg h1, if_pos h2]
    · rw [if_neg h2] at h; exact absurd rfl h
theorem cmpN_second {a b : Int} (p q : Int) (h : cmp1 a b = 0) : cmpN a p b q = cmp1 p q := by
  unfold cmpN; unfold cmp1 at h ⊢
  by_cases h1 : a < b
  · rw [if_pos h1] at h; omega
  · rw [if_neg h1] at h ⊢
    by_cases h2 : b < a
    · rw [if_pos h2] at h; omega
    · rw [if_neg h2]
theorem cmpN_neg (a p b q : Int) : cmpN a p b q < 0 ↔ befB a p b q = true := by
  rw [befB_iff]; unfold cmpN
  by_cases h1 : a < b
  · rw [if_pos h1]; simp [h1]
  · rw [if_neg h1]
    by_cases h2 : b < a
    · rw [if_pos h2]; constructor <;> intro h <;> omega
    · rw [if_neg h2]
      by_cases h3 : p < q
      · rw [if_pos h3]; constructor <;> intro h <;> omega
      · rw [if_neg h3]; by_cases h4 : q < p
        · rw [if_pos h4]; constructor <;> intro h <;> omega
        · rw [if_neg h4]; constructor <;> intro h <;> omega
attribute [irreducible] cmpN cmp1
/-- a note is wrong where it stands -/
def tbad (A P : Nat → Int) (i : Nat) : Bool := !noteB (A i) (P i) || (decide (0 < i) && !befB (A (i - 1)) (P (i - 1)) (A i) (P i))
theorem tbad_note {A P : Nat → Int} {i : Nat} (h : noteB (A i) (P i) = false) : tbad A P i = true := by unfold tbad; rw [h]; rfl
theorem tbad_zero {A P : Nat → Int} (h : noteB (A 0) (P 0) = true) : tbad A P 0 = false := by unfold tbad; rw [h]; rfl
theorem tbad_bef {A P : Nat → Int} {i : Nat} (hi : 0 < i) (h : noteB (A i) (P i) = true) : tbad A P i = !befB (A (i - 1)) (P (i - 1)) (A i) (P i) := by unfold tbad; rw [h, decide_eq_true hi]; rfl
theorem tbad_no {A P : Nat → Int} {i : Nat} (h : tbad A P i = false) : noteB (A i) (P i) = true ∧ (0 < i → befB (A (i - 1)) (P (i - 1)) (A i) (P i) = true) := by
  unfold tbad at h
  rw [Bool.or_eq_false_iff, Bool.and_eq_false_iff] at h
  obtain ⟨h1, h2⟩ := h
  refine ⟨by simpa using h1, fun h0 => ?_⟩
  rcases h2 with h2 | h2
  · simp at h2; omega
  · simpa using h2
attribute [irreducible] tbad
/-- a tune is valid -/
def vTune (n : Nat) (A P : Nat → Int) : Bool := !anyB (tbad A P) n && decide ((n : Int) ≤ 120)
theorem vTune_bad {n : Nat} {A P : Nat → Int} {i : Nat} (hi : i < n) (h : tbad A P i = true) : vTune n A P = false := by unfold vTune; rw [anyB_iff.2 ⟨i, hi, h⟩]; rfl
theorem vTune_good {n : Nat} {A P : Nat → Int} (h : ∀ i, i < n → tbad A P i = false) : vTune n A P = decide ((n : Int) ≤ 120) := by unfold vTune; rw [anyB_false h]; rfl
theorem vTune_facts {n : Nat} {A P : Nat → Int} (h : vTune n A P = true) : n ≤ 120 ∧ (∀ i, i < n → (0 ≤ A i ∧ A i ≤ 199) ∧ 0 ≤ P i ∧ P i ≤ 47) ∧ ∀ i, i + 1 < n → befB (A i) (P i) (A (i + 1)) (P (i + 1)) = true := by
  unfold vTune at h
  rw [Bool.and_eq_true] at h
  obtain ⟨h1, h2⟩ := h
  have hno : ∀ i, i < n → tbad A P i = false := fun i hi => by
    cases hh : tbad A P i
    · rfl
    · rw [anyB_iff.2 ⟨i, hi, hh⟩] at h1; cases h1
  refine ⟨by simp at h2; omega, fun i hi => noteB_iff.1 (tbad_no (hno i hi)).1, fun i hi => ?_⟩
  have := (tbad_no (hno (i + 1) hi)).2 (by omega)
  rwa [Nat.add_sub_cancel] at this
attribute [irreducible] vTune
/-- how long a tune is -/
def tLen (n : Nat) (A : Nat → Int) : Int := if n = 0 then 0 else A (n - 1) + 1
theorem tLen_zero (A : Nat → Int) : tLen 0 A = 0 := rfl
theorem tLen_pos {n : Nat} (A : Nat → Int) (h : 0 < n) : tLen n A = A (n - 1) + 1 := by unfold tLen; rw [if_neg (by omega)]
attribute [irreducible] tLen
end Go.Proofs.Ytlcfjeofphncgaa
namespace Go.Proofs.Ytlcfjeofphncgaa
open Go.RowKit
set_option linter.unusedVariables false
set_option linter.unusedSimpArgs false

/-- an operation that is not wanted is passed by -/
theorem skip_val {P : Program} {md : Region.Mode} {ops : Array Oper} {Q : Exit → Act → World → Prop} {S : World → Prop} {fuel : Nat} {listed : Array Bool} {a : Act} {w : World} (i : Nat) {oi : Oper} (hi : ops[i]? = some oi) (hs : Region.noSelect ops = true) (hf : Region.free md ops listed i = true) (hr : (Region.ready md ops listed).contains i = true)
    (hQ : ∀ c a w, Q (.panic c) (a.put oi.dst undef) w → Q (.panic c) a w) (hw : Region.wanted oi (yielded ops a.tmps) = false) (hS : S w)
    (h : wpAnyH P md ops Q S fuel (listed.setIfInBounds i true) (a.put oi.dst undef) w) : wpAnyH P md ops Q S (fuel + 1) listed a w :=
  wpAnyH_take hi hs hf hr hQ (.inr ⟨hw, rfl⟩) hS h
theorem kp_cell {w : World} {p : Addr} {v : Value} (h : w.cell? p = some v) (hp : p.block < w.heap.size) : Kp w (fun V => V.cell? p = some v) := Kp.mk fun _ hb => (hb.cell (p := p) hp).trans h
end Go.Proofs.Ytlcfjeofphncgaa
namespace Go.Proofs.Ytlcfjeofphncgaa
open Go.RowKit
set_option linter.unusedVariables false
set_option linter.unusedSimpArgs false

/-- tunes that lie side by side -/
def TuneSAt (w : World) (b : Option Addr) (m : Nat) (a : Nat → Option Addr) (n c : Nat → Nat) (A P : Nat → Nat → Int) : Prop :=
  0 < m → ∃ g off, b = some ⟨g, off, none⟩ ∧ g < w.heap.size ∧ ∀ i, i < m → w.cell? ⟨g, off + i, none⟩ = some (.slice (a i) (n i) (c i)) ∧ NoteAt w (a i) (n i) (A i) (P i)
theorem TuneSAt.get {w : World} {b : Option Addr} {m : Nat} {a : Nat → Option Addr} {n c : Nat → Nat} {A P : Nat → Nat → Int} (h : TuneSAt w b m a n c A P) (hm : 0 < m) :
    ∃ g off, b = some ⟨g, off, none⟩ ∧ g < w.heap.size ∧ ∀ i, i < m → w.cell? ⟨g, off + i, none⟩ = some (.slice (a i) (n i) (c i)) ∧ NoteAt w (a i) (n i) (A i) (P i) := h hm
theorem TuneSAt.below {w w' : World} {b : Option Addr} {m : Nat} {a : Nat → Option Addr} {n c : Nat → Nat} {A P : Nat → Nat → Int} (h : TuneSAt w b m a n c A P) (hb : Below w.heap.size w w') : TuneSAt w' b m a n c A P := by
  intro hm
  obtain ⟨g, off, rfl, hg, hc⟩ := h hm
  refine ⟨g, off, rfl, Nat.lt_of_lt_of_le hg hb.size, fun i hi => ⟨?_, (hc i hi).2.below hb⟩⟩
  rw [hb.cell (p := ⟨g, off + i, none⟩) hg]
  exact (hc i hi).1
theorem kp_tunes {w : World} {b : Option Addr} {m : Nat} {a : Nat → Option Addr} {n c : Nat → Nat} {A P : Nat → Nat → Int} (h : TuneSAt w b m a n c A P) : Kp w (fun V => TuneSAt V b m a n c A P) := Kp.mk fun _ hb => h.below hb
/-- all tunes are valid -/
def tAll (m : Nat) (n : Nat → Nat) (A P : Nat → Nat → Int) : Bool := !anyB (fun i => !vTune (n i) (A i) (P i)) m
theorem tAll_iff {m : Nat} {n : Nat → Nat} {A P : Nat → Nat → Int} : tAll m n A P = true ↔ ∀ i, i < m → vTune (n i) (A i) (P i) = true := by
  unfold tAll
  constructor
  · intro h i hi
    cases hv : vTune (n i) (A i) (P i)
    · rw [anyB_iff.2 ⟨i, hi, by simp only [hv]; rfl⟩] at h; cases h
    · rfl
  · intro h
    rw [anyB_false fun i hi => by simp only [h i hi]; rfl]; rfl
theorem tAll_not (m : Nat) (n : Nat → Nat) (A P : Nat → Nat → Int) : anyB (fun i => !vTune (n i) (A i) (P i)) m = !tAll m n A P := by unfold tAll; rw [Bool.not_not]
theorem tAll_one (n : Nat) (A P : Nat → Int) : tAll 1 (fun _ => n) (fun _ => A) (fun _ => P) = vTune n A P := by
  rw [Bool.eq_iff_iff, tAll_iff]
  exact ⟨fun h => h 0 (by omega), fun h i _ => h⟩
attribute [irreducible] tAll
/-- the code of a frame, drums, a tune and a budget -/
def toC (ok v : Bool) (s len budget : Int) : Int := if ok && v then unl (decide (len ≤ s) && inB budget 0 20000) 2 else 1
theorem toC_no {ok v : Bool} {s len budget : Int} (h : (ok && v) = false) : toC ok v s len budget = 1 := by unfold toC; rw [h]; rfl
theorem toC_yes {s len budget : Int} : toC true true s len budget = unl (decide (len ≤ s) && inB budget 0 20000) 2 := rfl
theorem toC_zero {ok v : Bool} {s len budget : Int} (h : toC ok v s len budget = 0) : ok = true ∧ v = true ∧ len ≤ s ∧ 0 ≤ budget ∧ budget ≤ 20000 := by
  cases ok
  · rw [toC_no rfl] at h; exact absurd h (by decide)
  · cases v
    · rw [toC_no rfl] at h; exact absurd h (by decide)
    · rw [toC_yes] at h
      by_cases h1 : len ≤ s
      · rw [decide_eq_true h1, Bool.true_and] at h
        cases h2 : inB budget 0 20000
        · rw [h2, unl_false] at h; exact absurd h (by decide)
        · exact ⟨rfl, rfl, h1, inB_iff.1 h2⟩
      · rw [decide_eq_false h1, Bool.false_and, unl_false] at h; exact absurd h (by decide)
theorem firstL_to (ok v : Bool) : firstL [unl ok 1, unl v 1] = unl (ok && v) 1 := by
  cases ok
  · rw [firstL_at _ (by rw [unl_false]; simp)]; rfl
  · rw [firstL_zero _ (unl_true 1)]
    cases v
    · rw [firstL_at _ (by rw [unl_false]; simp)]; rfl
    · rw [firstL_zero _ (unl_true 1), firstL_nil, Bool.and_self, unl_true]
attribute [irreducible] toC
theorem okAll_none (s : Int) (n : Nat) (P R : Nat → Int) (L : Nat → Nat → Nat) : okAll s n P R 0 L = vFrame s n P R := by
  rw [Bool.eq_iff_iff, okAll_iff]
  exact ⟨fun h => h.1, fun h => ⟨h, fun i hi => absurd hi (by omega)⟩⟩
theorem drumsNone (w : World) (L : Nat → Nat → Nat) : DrumsAt w none 0 L := fun h => absurd h (by omega)
end Go.Proofs.Ytlcfjeofphncgaa
namespace Go.Proofs.Ytlcfjeofphncgaa
open Go.RowKit
set_option linter.unusedVariables false
set_option linter.unusedSimpArgs false

/-- x is the first of 1 .. m - 1 where p holds, m if there is none -/
def FarI (p : Nat → Bool) (m x : Nat) : Prop := 1 ≤ x ∧ x ≤ m ∧ (∀ j, 1 ≤ j → j < x → p j = false) ∧ (x < m → p x = true)
theorem FarI.le {p : Nat → Bool} {m x r : Nat} (h : FarI p m x) (hr : r ≤ m) : r ≤ x ↔ ∀ j, 1 ≤ j → j < r → p j = false := by
  obtain ⟨h1, h2, h3, h4⟩ := h
  constructor
  · intro hx j hj hjr
    exact h3 j hj (by omega)
  · intro ha
    rcases Nat.lt_or_ge x r with hlt | hge
    · have := ha x h1 hlt
      rw [h4 (by omega)] at this; cases this
    · exact hge
/-- a step is a free place of a track -/
def frP (m : Nat) (R : Nat → Int) (D : Nat → Nat) (k t : Nat) : Prop := hasPin D k t = false ∧ ∀ j : Nat, 1 ≤ j → j < (R t).toNat → hasPin D ((k + j) % m) t = false ∧ hasPin D ((k + m - j) % m) t = false
section
open Classical
noncomputable def frB (m : Nat) (R : Nat → Int) (D : Nat → Nat) (k t : Nat) : Bool := decide (frP m R D k t)
theorem frB_true {m : Nat} {R : Nat → Int} {D : Nat → Nat} {k t : Nat} (h : frP m R D k t) : frB m R D k t = true := by unfold frB; exact decide_eq_true h
theorem frB_false {m : Nat} {R : Nat → Int} {D : Nat → Nat} {k t : Nat} (h : ¬ frP m R D k t) : frB m R D k t = false := by unfold frB; exact decide_eq_false h
theorem frB_iff {m : Nat} {R : Nat → Int} {D : Nat → Nat} {k t : Nat} : frB m R D k t = true ↔ frP m R D k t := by unfold frB; exact decide_eq_true_iff
end
attribute [irreducible] frB
/-- the tracks below j that have a pitch and are free -/
noncomputable def frL (m : Nat) (P R : Nat → Int) (D : Nat → Nat) (k : Nat) (p : Int) : Nat → List Int
  | 0 => []
  | j + 1 => if P j = p ∧ frB m R D k j = true then frL m P R D k p j ++ [(j : Int)] else frL m P R D k p j
section
variable {m : Nat} {P R : Nat → Int} {D : Nat → Nat} {k : Nat} {p : Int} {j : Nat}
theorem frL_zero : frL m P R D k p 0 = [] := rfl
theorem frL_yes (h : P j = p) (h2 : frB m R D k j = true) : frL m P R D k p (j + 1) = frL m P R D k p j ++ [(j : Int)] := if_pos ⟨h, h2⟩
theorem frL_pitch (h : ¬ P j = p) : frL m P R D k p (j + 1) = frL m P R D k p j := if_neg fun h2 => h h2.1
theorem frL_held (h : frB m R D k j = false) : frL m P R D k p (j + 1) = frL m P R D k p j := if_neg fun h2 => by rw [h] at h2; cases h2.2
theorem frL_len (j : Nat) : (frL m P R D k p j).length ≤ j := by
  induction j with
  | zero => simp [frL_zero]
  | succ j ih =>
    by_cases h : P j = p ∧ frB m R D k j = true
    · rw [frL_yes h.1 h.2, List.length_append]; simp; omega
    · rw [show frL m P R D k p (j + 1) = frL m P R D k p j from if_neg h]; omega
theorem frL_mem (j : Nat) : ∀ x ∈ frL m P R D k p j, ∃ t : Nat, x = t ∧ t < j ∧ P t = p ∧ frB m R D k t = true := by
  induction j with
  | zero => intro x hx; rw [frL_zero] at hx; cases hx
  | succ j ih =>
    intro x hx
    by_cases h : P j = p ∧ frB m R D k j = true
    · rw [frL_yes h.1 h.2, List.mem_append] at hx
      rcases hx with hx | hx
      · obtain ⟨t, e, h1, h2⟩ := ih x hx; exact ⟨t, e, by omega, h2⟩
      · rw [List.mem_singleton] at hx; exact ⟨j, hx, by omega, h⟩
    · rw [show frL m P R D k p (j + 1) = frL m P R D k p j from if_neg h] at hx
      obtain ⟨t, e, h1, h2⟩ := ih x hx; exact ⟨t, e, by omega, h2⟩
end
attribute [irreducible] frL
set_option maxRecDepth 100000 in
set_option maxHeartbeats 1000000 in
theorem l02Free_any (gf gd Tf Td : Nat) (m : Nat) (a : Option Addr) (n c : Nat) (P R : Nat → Int) (D : Nat → Nat) (k t : Nat) (w : World) (hm : 2 ≤ m ∧ m ≤ 96) (hk : k < m) (ht : t < n) (hn : n ≤ 24) (hr : 1 ≤ R t ∧ R t ≤ m) (hD : D32 D) (hf : w.heap[gf]? = some (.cells #[.int .i16 (m : Int), .slice a n c] Tf (0, 0))) (hd : DrumAt w Td gd D) (hh : HamAt w a n P R) :
    Calls Try.prog 64 #[.pointer (some ⟨gf, 0, none⟩), .pointer (some ⟨gd, 0, none⟩), .int .i64 (k : Int), .int .i64 (t : Int)] w fun e w' => e = .returned (.bool (frB m R D k t)) ∧ w = w' := by
  have HD := Lib.hid hD; have HDR := Lib.hid hd; clear hD hd
  have f0 := row_cell 0 hf
  have f1 := row_cell 1 hf
  have hx := HamAt.get hh (show 0 < n by omega)
  obtain ⟨g, off, rfl, hg, hc⟩ := hx
  have c1 := (hc t ht).2
  clear hc hh hf
  obtain ⟨r, hrr⟩ : ∃ r : Nat, R t = r := ⟨(R t).toNat, by omega⟩
  have HRR := Lib.hid (show (R t).toNat = r by rw [hrr]; exact Int.toNat_natCast r)
  rw [hrr] at c1 hr
  clear hrr
  have ht' : (t : Int) < n := by omega
  have q0 := i64_id (x := (r : Int)) (by omega)
  have q9 := i64_id (x := (m : Int)) (by omega)
  cases hp : hasPin D k t
  · have HP := Lib.hid hp
    go_enter Try.func64, Try.ntmps64
    go_wp2_with (go_at_call 87; refine (l02Pin_any gd Td D k t _ HD.out (by omega) (by omega) HDR.out).mono ?_; rw [hp]; rintro e w2 ⟨rfl, rfl⟩)
    go_loopw [11] (fun i w' => w = w' ∧ ∃ j : Nat, 1 ≤ j ∧ j ≤ r ∧ i = .int .i64 j ∧ ∀ x, 1 ≤ x → x < j → hasPin D ((k + x) % m) t = false ∧ hasPin D ((k + m - x) % m) t = false) (fun i _ => (r - intOf i).toNat)
    case atStart => exact ⟨rfl, 1, by omega, by omega, rfl, fun x h1 h2 => by omega⟩
    case round =>
      obtain ⟨rfl, j, hj1, hjr, rfl, hno⟩ := hrel
      have HNO := Lib.hid hno; clear hno
      by_cases hlt : j < r
      · have hlt' : (j : Int) < r := by omega
        have hq := Nat.mod_lt (k + j) (show 0 < m by omega)
        have hmod := nmod k j m
        have hmod' := ntmod k j m
        obtain ⟨x, hx⟩ : ∃ x, (k + j) % m = x := ⟨_, rfl⟩
        rw [hx] at hq hmod hmod'
        have HX := Lib.hid hx; clear hx
        have hq2 := Nat.mod_lt (k + m - j) (show 0 < m by omega)
        have he : (k : Int) + (m : Int) - (j : Int) = ((k + m - j : Nat) : Int) := by omega
        have hmod2 : ((k : Int) + (m : Int) - (j : Int)) % (m : Int) = (((k + m - j) % m : Nat) : Int) := by rw [he, ← Int.natCast_emod]
        have hmod2' : ((k : Int) + (m : Int) - (j : Int)).tmod (m : Int) = (((k + m - j) % m : Nat) : Int) := by rw [he, ← Int.ofNat_tmod]
        obtain ⟨y, hy⟩ : ∃ y, (k + m - j) % m = y := ⟨_, rfl⟩
        rw [hy] at hq2 hmod2 hmod2'
        have HY := Lib.hid hy; clear hy he
        have q1 := i64_id (x := (k : Int) + (j : Int)) (by omega)
        have q2 := i64_id (x := (k : Int) + (m : Int)) (by omega)
        have q3 := i64_id (x := (k : Int) + (m : Int) - (j : Int)) (by omega)
        have hm0 : ¬ m = 0 := by omega
        have HC1 := Lib.hid (l02Pin_any gd Td D x t w HD.out (by omega) (by omega) HDR.out)
        have HC2 := Lib.hid (l02Pin_any gd Td D y t w HD.out (by omega) (by omega) HDR.out)
        cases hp1 : hasPin D x t
        · have HP1 := Lib.hid hp1
          rw [hp1] at HC1
          cases hp2 : hasPin D y t
          · have HP2 := Lib.hid hp2
            rw [hp2] at HC2
            go_wp2_with (go_at_call 87; (first | (with_reducible refine HC1.out.mono ?_) | (with_reducible refine HC2.out.mono ?_)); rintro e w2 ⟨rfl, rfl⟩)
            go_roundw
            case rel => exact ⟨trivial, j + 1, by omega, by omega, by go_num, fun z h1 h2 => if e : z = j then by rw [e, HX.out, HY.out]; exact ⟨HP1.out, HP2.out⟩ else HNO.out z h1 (by omega)⟩
            case measure => simp [intOf]; omega
          · have HP2 := Lib.hid hp2
            rw [hp2] at HC2
            go_wp2_with (go_at_call 87; (first | (with_reducible refine HC1.out.mono ?_) | (with_reducible refine HC2.out.mono ?_)); rintro e w2 ⟨rfl, rfl⟩)
            go_ret
            exact ⟨ret_bool (by rw [frB_false (fun h => by have := (h.2 j hj1 (by rw [HRR.out]; exact hlt)).2; rw [HY.out, HP2.out] at this; cases this)]), rfl⟩
        · have HP1 := Lib.hid hp1
          rw [hp1] at HC1
          go_wp2_with (go_at_call 87; with_reducible refine HC1.out.mono ?_; rintro e w2 ⟨rfl, rfl⟩)
          go_ret
          exact ⟨ret_bool (by rw [frB_false (fun h => by have := (h.2 j hj1 (by rw [HRR.out]; exact hlt)).1; rw [HX.out, HP1.out] at this; cases this)]), rfl⟩
      · have hjr2 : j = r := by omega
        subst hjr2
        go_wp2
        go_ret
        exact ⟨ret_bool (by rw [frB_true ⟨HP.out, fun x h1 h2 => HNO.out x h1 (by rw [HRR.out] at h2; exact h2)⟩]), rfl⟩
  · have HP := Lib.hid hp
    go_enter Try.func64, Try.ntmps64
    go_wp2_with (go_at_call 87; refine (l02Pin_any gd Td D k t _ HD.out (by omega) (by omega) HDR.out).mono ?_; rw [hp]; rintro e w2 ⟨rfl, rfl⟩)
    go_ret
    exact ⟨ret_bool (by rw [frB_false (fun h => by have := h.1; rw [HP.out] at this; cases this)]), rfl⟩
end Go.Proofs.Ytlcfjeofphncgaa
namespace Go.Proofs.Ytlcfjeofphncgaa
open Go.RowKit
set_option linter.unusedVariables false
set_option linter.unusedSimpArgs false

/-- how many of the first j places are pins of the track i -/
def btN (D : Nat → Nat) (n : Nat) : Nat → Nat → Int
  | 0, _ => 0
  | j + 1, i => if hasPin D (j / n) (j % n) = true ∧ j % n = i then btN D n j i + 1 else btN D n j i
theorem btN_zero (D : Nat → Nat) (n i : Nat) : btN D n 0 i = 0 := rfl
theorem btN_yes {D : Nat → Nat} {n k t : Nat} (ht : t < n) (h : hasPin D k t = true) : btN D n (k * n + t + 1) t = btN D n (k * n + t) t + 1 := by
  have e : btN D n (k * n + t + 1) t = if hasPin D ((k * n + t) / n) ((k * n + t) % n) = true ∧ (k * n + t) % n = t then btN D n (k * n + t) t + 1 else btN D n (k * n + t) t := rfl
  rw [e, (place_div ht).1, (place_div ht).2, if_pos ⟨h, rfl⟩]
theorem btN_skip {D : Nat → Nat} {n k t i : Nat} (ht : t < n) (h : hasPin D k t = false ∨ i ≠ t) : btN D n (k * n + t + 1) i = btN D n (k * n + t) i := by
  have e : btN D n (k * n + t + 1) i = if hasPin D ((k * n + t) / n) ((k * n + t) % n) = true ∧ (k * n + t) % n = i then btN D n (k * n + t) i + 1 else btN D n (k * n + t) i := rfl
  rw [e, (place_div ht).1, (place_div ht).2, if_neg]
  rintro ⟨h1, h2⟩
  rcases h with h | h
  · rw [h] at h1; cases h1
  · exact h h2.symm
theorem btN_bound (D : Nat → Nat) (n j i : Nat) : 0 ≤ btN D n j i ∧ btN D n j i ≤ j := by
  induction j with
  | zero => rw [btN_zero]; omega
  | succ j ih =>
    have e : btN D n (j + 1) i = if hasPin D (j / n) (j % n) = true ∧ j % n = i then btN D n j i + 1 else btN D n j i := rfl
    rw [e]
    split <;> omega
attribute [irreducible] btN
/-- a track has a pin -/
def usesT (D : Nat → Nat) (t : Nat) : Bool := anyB (fun k => hasPin D k t) 96
theorem usesT_iff {D : Nat → Nat} {t : Nat} : usesT D t = true ↔ ∃ k, k < 96 ∧ hasPin D k t = true := anyB_iff
theorem btN_pos {D : Nat → Nat} {n : Nat} {i : Nat} (hi : i < n) : ∀ s, 0 < btN D n (s * n) i ↔ ∃ k, k < s ∧ hasPin D k i = true := by
  have row : ∀ k t, t ≤ n → btN D n (k * n + t) i = btN D n (k * n) i + (if i < t ∧ hasPin D k i = true then 1 else 0) := by
    intro k t
    induction t with
    | zero => intro _; simp
    | succ t ih =>
      intro ht
      rw [← Nat.add_assoc]
      by_cases e : i = t
      · subst e
        cases h : hasPin D k i
        · rw [btN_skip (by omega) (.inl h), ih (by omega), if_neg (by simp [h]), if_neg (by simp)]
        · rw [btN_yes (by omega) h, ih (by omega), if_neg (by omega), if_pos ⟨by omega, rfl⟩]; omega
      · rw [btN_skip (by omega) (.inr e), ih (by omega)]
        by_cases h2 : i < t
        · by_cases h3 : hasPin D k i = true
          · rw [if_pos ⟨h2, h3⟩, if_pos ⟨by omega, h3⟩]
          · rw [if_neg (fun h => h3 h.2), if_neg (fun h => h3 h.2)]
        · rw [if_neg (fun h => h2 h.1), if_neg (fun h => by omega)]
  intro s
  induction s with
  | zero => rw [Nat.zero_mul, btN_zero]; constructor
            · intro h; omega
            · rintro ⟨k, hk, _⟩; omega
  | succ s ih =>
    rw [Nat.add_mul, Nat.one_mul, row s n (Nat.le_refl _)]
    have hb := btN_bound D n (s * n) i
    constructor
    · intro h
      by_cases h2 : hasPin D s i = true
      · exact ⟨s, by omega, h2⟩
      · rw [if_neg (fun h => h2 h.2)] at h
        obtain ⟨k, hk, hp⟩ := ih.1 (by omega)
        exact ⟨k, by omega, hp⟩
    · rintro ⟨k, hk, hp⟩
      by_cases e : k = s
      · subst e; rw [if_pos ⟨hi, hp⟩]; omega
      · have := ih.2 ⟨k, by omega, hp⟩
        split <;> omega
/-- the tracks without pins, of the first k -/
def spL (D : Nat → Nat) : Nat → List Int
  | 0 => []
  | k + 1 => if usesT D k then spL D k else spL D k ++ [(k : Int)]
theorem spL_zero (D : Nat → Nat) : spL D 0 = [] := rfl
theorem spL_used {D : Nat → Nat} {k : Nat} (h : usesT D k = true) : spL D (k + 1) = spL D k := by
  show (if usesT D k then spL D k else spL D k ++ [(k : Int)]) = _; rw [h]; rfl
theorem spL_spare {D : Nat → Nat} {k : Nat} (h : usesT D k = false) : spL D (k + 1) = spL D k ++ [(k : Int)] := by
  show (if usesT D k then spL D k else spL D k ++ [(k : Int)]) = _; rw [h]; rfl
theorem spL_len (D : Nat → Nat) (k : Nat) : (spL D k).length ≤ k := by
  induction k with
  | zero => simp [spL]
  | succ k ih =>
    cases h : usesT D k
    · rw [spL_spare h]; simp; omega
    · rw [spL_used h]; omega
attribute [irreducible] usesT spL
noncomputable def stV' (s : Int) (n : Nat) (P R : Nat → Int) (D : Nat → Nat) : List Int := if okAll s n P R 1 (fun _ => D) then spL D n else []
theorem stV'_yes {s : Int} {n : Nat} {P R : Nat → Int} {D : Nat → Nat} (h : okAll s n P R 1 (fun _ => D) = true) : stV' s n P R D = spL D n := by unfold stV'; rw [h]; rfl
theorem stV'_no {s : Int} {n : Nat} {P R : Nat → Int} {D : Nat → Nat} (h : okAll s n P R 1 (fun _ => D) = false) : stV' s n P R D = [] := by unfold stV'; rw [h]; rfl
theorem stV'_len {s : Int} {n : Nat} {P R : Nat → Int} {D : Nat → Nat} : (stV' s n P R D).length ≤ 1000000 := by
  cases h : okAll s n P R 1 (fun _ => D)
  · rw [stV'_no h]; simp
  · rw [stV'_yes h]
    have h1 := spL_len D n
    have h2 := (vFrame_iff.1 (okAll_iff.1 h).1).2.1
    omega
attribute [irreducible] stV'
theorem and_bit {x t : Nat} (hx : x < 4294967296) (ht : t < 24) : (bits .and .u32 (x : Int) ((2 ^ t : Nat) : Int) != 0) = decide (x / 2 ^ t % 2 = 1) := by
  have hp := pow24 ht
  have hlt : 2 ^ t < 4294967296 := by omega
  have hpos := Nat.two_pow_pos t
  rw [bits_and_u32 hx hlt, ← Nat.testBit_eq_decide_div_mod_eq]
  have e : x &&& 2 ^ t = if x.testBit t = true then 2 ^ t else 0 := by
    apply Nat.eq_of_testBit_eq
    intro i
    rw [Nat.testBit_and, Nat.testBit_two_pow]
    by_cases h : t = i
    · subst h
      cases x.testBit t <;> simp [Nat.testBit_two_pow]
    · cases x.testBit t <;> simp [h, Nat.testBit_two_pow]
  rw [e]
  generalize 2 ^ t = b at hpos
  cases x.testBit t
  · rfl
  · have hb : ¬ ((b : Int) = 0) := by omega
    simp [hb]
    omega
end Go.Proofs.Ytlcfjeofphncgaa
namespace Go.Proofs.Ytlcfjeofphncgaa
open Go.RowKit
set_option linter.unusedVariables false
set_option linter.unusedSimpArgs false

/-- a drum with one more pin -/
def setP (D : Nat → Nat) (k t : Nat) : Nat → Nat := upd D k (D k ||| 2 ^ t)
theorem setP_32 {D : Nat → Nat} (hD : D32 D) {t : Nat} (ht : t < 24) (k : Nat) : D32 (setP D k t) := by
  intro j
  have hb : 2 ^ t < 4294967296 := by have := pow24 ht; omega
  unfold setP upd
  split
  · exact or_lt32 (hD k) hb
  · exact hD j
theorem putRow_or (x b : Nat) : putRow x b true = x ||| b := by
  rw [putRow_t]
  apply Nat.eq_of_testBit_eq
  intro i
  rw [Nat.testBit_or, Nat.testBit_or, andn_testBit]
  cases x.testBit i <;> cases b.testBit i <;> rfl
theorem put_setP (D : Nat → Nat) (k t : Nat) : upd D k (putRow (D k) (2 ^ t) true) = setP D k t := by rw [putRow_or]; rfl
attribute [irreducible] setP
/-- the drum when i notes have been given their first free tracks -/
noncomputable def grD (m n : Nat) (P R A B : Nat → Int) : Nat → Nat → Nat
  | 0 => fun _ => 0
  | i + 1 => match frL m P R (grD m n P R A B i) (A i).toNat (B i) n with
    | [] => grD m n P R A B i
    | x :: _ => setP (grD m n P R A B i) (A i).toNat x.toNat
/-- how many notes have a track -/
noncomputable def grN (m n : Nat) (P R A B : Nat → Int) : Nat → Nat
  | 0 => 0
  | i + 1 => if grN m n P R A B i = i ∧ frL m P R (grD m n P R A B i) (A i).toNat (B i) n ≠ [] then i + 1 else grN m n P R A B i
section
variable {m n : Nat} {P R A B : Nat → Int} {i l : Nat}
theorem grD_zero : grD m n P R A B 0 = fun _ => 0 := rfl
theorem grD_succ {x : Int} {r : List Int} (h : frL m P R (grD m n P R A B i) (A i).toNat (B i) n = x :: r) : grD m n P R A B (i + 1) = setP (grD m n P R A B i) (A i).toNat x.toNat := by
  show (match frL m P R (grD m n P R A B i) (A i).toNat (B i) n with | [] => grD m n P R A B i | x :: _ => setP (grD m n P R A B i) (A i).toNat x.toNat) = _
  rw [h]
theorem grD_32 (hn : n ≤ 24) (i : Nat) : D32 (grD m n P R A B i) := by
  induction i with
  | zero => rw [grD_zero]; intro k; simp
  | succ i ih =>
    show D32 (match frL m P R (grD m n P R A B i) (A i).toNat (B i) n with | [] => grD m n P R A B i | x :: _ => setP (grD m n P R A B i) (A i).toNat x.toNat)
    cases h : frL m P R (grD m n P R A B i) (A i).toNat (B i) n with
    | nil => exact ih
    | cons x r =>
      obtain ⟨t, e, ht, _⟩ := frL_mem n x (by rw [h]; exact List.mem_cons_self)
      show D32 (setP _ _ x.toNat)
      rw [e, Int.toNat_natCast]
      exact setP_32 ih (by omega) _
theorem grN_zero : grN m n P R A B 0 = 0 := rfl
theorem grN_yes (h : grN m n P R A B i = i) {x : Int} {r : List Int} (h2 : frL m P R (grD m n P R A B i) (A i).toNat (B i) n = x :: r) : grN m n P R A B (i + 1) = i + 1 := if_pos ⟨h, by rw [h2]; simp⟩
theorem grN_no (h2 : frL m P R (grD m n P R A B i) (A i).toNat (B i) n = []) : grN m n P R A B (i + 1) = grN m n P R A B i := if_neg fun h => h.2 h2
theorem grN_le (i : Nat) : grN m n P R A B i ≤ i := by
  induction i with
  | zero => exact Nat.le_refl _
  | succ i ih =>
    by_cases h : grN m n P R A B i = i ∧ frL m P R (grD m n P R A B i) (A i).toNat (B i) n ≠ []
    · rw [show grN m n P R A B (i + 1) = i + 1 from if_pos h]; omega
    · rw [show grN m n P R A B (i + 1) = grN m n P R A B i from if_neg h]; omega
theorem grN_stays (h : grN m n P R A B (i + 1) = i) (d : Nat) : grN m n P R A B (i + 1 + d) = i := by
  induction d with
  | zero => exact h
  | succ d ih =>
    show (if grN m n P R A B (i + 1 + d) = i + 1 + d ∧ _ then _ else _) = _
    rw [if_neg (fun h2 => by rw [ih] at h2; omega)]
    exact ih
theorem grN_stop (hi : i < l) (h : grN m n P R A B i = i) (h2 : frL m P R (grD m n P R A B i) (A i).toNat (B i) n = []) : grN m n P R A B l = i := by
  have h3 := grN_stays (i := i) ((grN_no h2).trans h) (l - (i + 1))
  rwa [show i + 1 + (l - (i + 1)) = l by omega] at h3
end
attribute [irreducible] grD grN
/-- all blocks but one are as they were -/
def KeepX (g : Nat) (w V : World) : Prop := w.heap.size ≤ V.heap.size ∧ ∀ j, j ≠ g → j < w.heap.size → V.heap[j]? = w.heap[j]?
theorem KeepX.of {g : Nat} {w V : World} (h : Below w.heap.size w V) : KeepX g w V := ⟨h.size, fun j _ hj => h.block j hj⟩
theorem KeepX.trans {g : Nat} {w V U : World} (h : KeepX g w V) (h2 : KeepX g V U) : KeepX g w U := ⟨Nat.le_trans h.1 h2.1, fun j hj hl => (h2.2 j hj (Nat.lt_of_lt_of_le hl h.1)).trans (h.2 j hj hl)⟩
theorem KeepX.row {g : Nat} {w V : World} (h : KeepX g w V) {x : Nat} {o : Obj} (hx : w.heap[x]? = some o) (hne : x ≠ g) : V.heap[x]? = some o := (h.2 x hne (Array.getElem?_eq_some_iff.1 hx).1).trans hx
theorem KeepX.cell {g : Nat} {w V : World} (h : KeepX g w V) {p : Addr} {v : Value} (hc : w.cell? p = some v) (hp : p.block < w.heap.size) (hne : p.block ≠ g) : V.cell? p = some v := by
  have e := h.2 p.block hne hp
  unfold World.cell? at hc ⊢
  rw [e]; exact hc
end Go.Proofs.Ytlcfjeofphncgaa
namespace Go.Proofs.Ytlcfjeofphncgaa
open Go.RowKit
set_option linter.unusedVariables false
set_option linter.unusedSimpArgs false

theorem vDrum_zero (s : Int) (n : Nat) : vDrum s n (fun _ => 0) = true := vDrum_iff.2 fun k _ => by simp
theorem vDrum_setP {s : Int} {n : Nat} {D : Nat → Nat} {k t : Nat} (h : vDrum s n D = true) (hk : (k : Int) < s) (ht : t < n) (hk96 : k < 96) : vDrum s n (setP D k t) = true := by
  rw [vDrum_iff] at h ⊢
  intro j hj
  have h1 := h j hj
  unfold setP upd
  by_cases e : j = k
  · subst e
    rw [if_pos rfl]
    refine ⟨?_, fun hs => by omega⟩
    have h2 : D j < 2 ^ n := by
      rcases Nat.lt_or_ge (D j) (2 ^ n) with h3 | h3
      · exact h3
      · have := Nat.div_pos h3 (Nat.two_pow_pos n); omega
    exact Nat.div_eq_of_lt (Nat.or_lt_two_pow h2 (Nat.pow_lt_pow_right (by decide) ht))
  · rw [if_neg e]; exact h1
theorem D32_zero : D32 (fun _ => 0) := fun k => by simp
/-- what was so ahead of a young block is so while that block alone changes -/
theorem kx_of_kp {P : World → Prop} {w1 w2 : World} {g : Nat} (h : Kp w1 P) (hb : Below w1.heap.size w1 w2) (hg : w1.heap.size ≤ g) : Kx g w2 P := Kx.mk fun V hk => h.at (hb.trans (hk.below hg hb.size))
theorem one_any (g : Nat) (a : Option Addr) (n c : Nat) (B : Nat → Int) (K : Nat) (m : Int) (w : World) (hK : K + 2 ≤ 1000000) (hn : n ≤ 1000000000000) (hm : -9223372036854775808 ≤ m ∧ m ≤ 9223372036854775807) (hs : SrcAt w g a n c B K) :
    Calls Try.prog 63 #[.pointer (some ⟨g, 0, none⟩), .int .i64 m] w fun e w' => (∃ b : Bool, e = .returned (.bool b)) ∧ SrcAt w' g a n c B (K + 2) ∧ KeepS g w w' := by
  go_enter Try.func63, Try.ntmps63
  go_wp2_with fail
  refine (pick_any g a n c B K m w hK hn hm hs).mono ?_
  rintro e w2 ⟨⟨v, rfl, hv⟩, hs2, hk2⟩
  have HS := Lib.hid hs2; have HK := Lib.hid hk2; clear hs2 hk2 hv
  go_wp2
  go_ret
  exact ⟨⟨_, rfl⟩, HS.out, HK.out⟩
/-- while it is drawn: the two boxes -/
structure DDS (g g2 g3 : Nat) (w : World) (D : Nat → Nat) (W : World) : Prop where
  k : KeepS g w W
  r2 : DrumAt W 33 g2 (fun _ => 0)
  r3 : DrumAt W 33 g3 D
theorem DDS.kx {g g2 g3 : Nat} {w W : World} {D : Nat → Nat} (h : DDS g g2 g3 w D W) (h2 : g2 ≠ g) (h3 : g3 ≠ g) : Kx g W (DDS g g2 g3 w D) :=
  Kx.mk fun V hb => ⟨h.k.trans hb, hb.row h.r2 h2, hb.row h.r3 h3⟩
theorem DDS.set {g g2 g3 : Nat} {w W : World} {D : Nat → Nat} (h : DDS g g2 g3 w D W) (hw : w.heap.size ≤ g3) (h2 : g2 ≠ g3) (x v : Nat) (hx : x < 96) : DDS g g2 g3 w (upd D x v) (W.setCell ⟨g3, x, none⟩ (.int .u32 v)) :=
  ⟨⟨by simpa using h.k.1, fun j hj hlj => (heap_setCell_other _ _ j _ (show j ≠ g3 from Nat.ne_of_lt (Nat.lt_of_lt_of_le hlj hw))).trans (h.k.2.1 j hj hlj), h.k.2.2.1, h.k.2.2.2.1, h.k.2.2.2.2⟩, (heap_setCell_other _ _ g2 _ h2).trans h.r2, h.r3.setCell x v hx⟩
set_option maxRecDepth 100000 in
set_option maxHeartbeats 2000000 in
theorem drumDrawn_any (g gf : Nat) (m : Nat) (b : Option Addr) (nh hc : Nat) (P R : Nat → Int) (a : Option Addr) (n c : Nat) (B : Nat → Int) (K : Nat) (w : World) (hK : K ≤ 900000) (hn : n ≤ 1000000000000) (hs : SrcAt w g a n c B K) (hm : 4 ≤ m ∧ m ≤ 17) (hnh : 1 ≤ nh ∧ nh ≤ 5) (hv : vFrame (m : Int) nh P R = true)
    (hf : Kx g w (fun V => V.heap[gf]? = some (.cells #[.int .i16 (m : Int), .slice b nh hc] 27 (0, 0)))) (hh : Kx g w (fun V => HamAt V b nh P R)) :
    Calls Try.prog 32 #[.pointer (some ⟨g, 0, none⟩), .pointer (some ⟨gf, 0, none⟩)] w fun e w' => (∃ D, e = .returned (.agg (dc D)) ∧ D32 D ∧ vDrum (m : Int) nh D = true) ∧ SrcAt w' g a n c B (K + 200) ∧ KeepS g w w' := by
  have hgl := hs.lt
  have HV := Lib.hid (vFrame_iff.1 hv).2.2
  have KB := kx_keep g w
  have KF0 := hf; have KH0 := hh
  have HS := Lib.hid (hs.below ((Below.refl _ _).alloc (Nat.le_refl _) (.cells (dc fun _ => 0) 33)))
  have K2 := kx_row (g := g) (DrumAt.new w 33 (fun _ => 0)) (by omega)
  have hsz1 : (w.alloc (.cells (dc fun _ => 0) 33)).heap.size = w.heap.size + 1 := by simp
  replace KB := KB.alloc (.cells (dc fun _ => 0) 33)
  clear hs hf hh hv
  go_enter Try.func32, Try.ntmps32
  go_wp2_with (first | (with_reducible refine new_drum rfl rfl rfl rfl rfl _ _ rfl rfl rfl ?_; intro W2 hbn hsn hrn; have HBN := Lib.hid hbn; have HRN := Lib.hid hrn; clear hbn hsn hrn) | (with_reducible refine alloc_drum ?_ ?_ ?_; with_reducible rfl; with_reducible rfl) | fail)
  have hbn := HBN.out
  have hrn := HRN.out
  rw [hsz1] at hrn
  replace KB := KB.under hbn; replace K2 := K2.under hbn
  have K3 := kx_row (g := g) hrn (by omega)
  have HS2 := Lib.hid (HS.out.below hbn)
  obtain ⟨g3, hg3⟩ : ∃ g3, w.heap.size + 1 = g3 := ⟨_, rfl⟩
  rw [hg3] at K3 ⊢
  have hlt3 : w.heap.size < g3 := by omega
  clear hbn hrn HBN HRN HS hsz1 hg3
  refine (one_any g a n c B K 4 W2 (by omega) hn (by omega) HS2.out).mono ?_
  rintro e w4 ⟨⟨wild, rfl⟩, hs4, hk4⟩
  have HS4 := Lib.hid hs4
  replace KB := KB.on hk4
  replace K2 := K2.on hk4
  replace K3 := K3.on hk4
  clear hs4 hk4 HS2
  go_wp2_with fail
  refine (pick_any g a n c B (K + 2) 12 w4 (by omega) hn (by omega) HS4.out).mono ?_
  rintro e w5 ⟨⟨v2, rfl, hv2⟩, hs5, hk5⟩
  have hv2 := hv2.lt (by omega)
  obtain ⟨m0, rfl⟩ : ∃ m0 : Nat, v2 = m0 := ⟨v2.toNat, by omega⟩
  replace KB := KB.on hk5
  replace K2 := K2.on hk5
  replace K3 := K3.on hk5
  have hdd0 : DDS g w.heap.size g3 w (fun _ => 0) w5 := ⟨KB.here, K2.here, K3.here⟩
  have HDD := Lib.hid hdd0; have HS5 := Lib.hid hs5
  have KK := kx_keep g w5
  clear hdd0 hs5 hk5 HS4 K2 K3 KB
  go_wp2
  go_loopw [7] (fun i W => ∃ (j : Nat) (D : Nat → Nat), i = .int .i64 j ∧ j ≤ m0 ∧ D32 D ∧ vDrum (m : Int) nh D = true ∧ DDS g w.heap.size g3 w D W ∧ SrcAt W g a n c B (K + 4 + 4 * (m0 - j))) (fun i _ => (intOf i).toNat)
  case atStart => exact ⟨m0, _, rfl, Nat.le_refl _, D32_zero, vDrum_zero _ _, HDD.out, HS5.out.more (by omega)⟩
  case round =>
    clear HDD HS5 KK
    obtain ⟨j, D, rfl, hj, hd, hvd, hdd, hsr⟩ := hrel
    have KF := KF0.on hdd.k; have KH := KH0.on hdd.k
    have HD := Lib.hid hd; have HVD := Lib.hid hvd; have HS := Lib.hid hsr
    have KD := hdd.kx (by omega) (by omega)
    clear hd hvd hdd hsr
    by_cases h0 : 0 < j
    · have h0' : (0 : Int) < j := by omega
      have q3 := i64_id (x := (j : Int) - 1) (by omega)
      have q4 := i64_id (x := (m : Int)) (by omega)
      have f0 := row_cell 0 KF.here
      go_wp2_with fail
      refine (pick_any g a n c B _ (m : Int) wr (by omega) hn (by omega) HS.out).mono ?_
      rintro e w6 ⟨⟨v3, rfl, hv3⟩, hs6, hk6⟩
      have hv3 := hv3.lt (by omega)
      obtain ⟨k, rfl⟩ : ∃ k : Nat, v3 = k := ⟨v3.toNat, by omega⟩
      replace KF := KF.on hk6
      replace KH := KH.on hk6
      replace KD := KD.on hk6
      have HS6 := Lib.hid hs6
      clear hs6 hk6 HS f0
      have f1 := row_cell 1 KF.here
      go_wp2_with fail
      refine (pick_any g a n c B _ (nh : Int) w6 (by omega) hn (by omega) HS6.out).mono ?_
      rintro e w7 ⟨⟨v4, rfl, hv4⟩, hs7, hk7⟩
      have hv4 := hv4.lt (by omega)
      obtain ⟨t, rfl⟩ : ∃ t : Nat, v4 = t := ⟨v4.toNat, by omega⟩
      replace KF := KF.on hk7
      replace KH := KH.on hk7
      replace KD := KD.on hk7
      have HS7 := Lib.hid hs7
      clear hs7 hk7 HS6 f1
      have hkm : k < m := by omega
      have htn : t < nh := by omega
      have hham := hamOK_iff.1 (HV.out t htn)
      have hmn := mn_le 20 (m : Int)
      obtain ⟨fb, hfb⟩ : ∃ fb, frB m R D k t = fb := ⟨_, rfl⟩
      have hfree := fun V (hf : V.heap[gf]? = some (.cells #[.int .i16 (m : Int), .slice b nh hc] 27 (0, 0))) (hd : DrumAt V 33 g3 D) (hh : HamAt V b nh P R) => l02Free_any gf g3 27 33 m b nh hc P R D k t V (by omega) hkm htn (by omega) (by omega) HD.out hf hd hh
      rw [hfb] at hfree
      have HFREE := Lib.hid hfree
      clear hfree hfb
      cases wild
      · cases fb
        · have HD7 := Lib.hid KD.here
          go_wp2_with (first | (go_at_call 64; refine (HFREE.out _ KF.here KD.here.r3 KH.here).mono ?_; rintro e w8 ⟨rfl, rfl⟩) | fail)
          go_roundw
          case rel => exact ⟨j - 1, D, by rw [show ((j - 1 : Nat) : Int) = (j : Int) - 1 by omega], by omega, HD.out, HVD.out, HD7.out, HS7.out.more (by omega)⟩
          case measure => simp [intOf]; omega
        · have e0 := KD.here.r3.cell k (by omega)
          have f0 := KD.here.r3.frozen k
          obtain ⟨bb, hbb⟩ : ∃ bb, 2 ^ t = bb := ⟨_, rfl⟩
          have hw := wrap_pow (show t < 24 by omega) hbb.symm
          have hb32 : bb < 4294967296 := by have := pow24 (show t < 24 by omega); omega
          have hor := bits_or_u32 (HD.out k) hb32
          have hu := u64_nat t (by omega)
          have hsp : upd D k (D k ||| bb) = setP D k t := by rw [← hbb]; unfold setP; rfl
          have hdn := KD.here.set (by omega) (by omega) k (D k ||| bb) (by omega)
          rw [hsp] at hdn
          have HDN := Lib.hid hdn
          have HSN := Lib.hid (HS7.out.stay ((Below.refl (g + 1) w7).setCell (p := ⟨g3, k, none⟩) (show g + 1 ≤ g3 by omega) (.int .u32 ((D k ||| bb : Nat) : Int))))
          have h96 : k < 96 := by omega
          have h96' : (k : Int) < 96 := by omega
          have hD2 := Lib.hid (setP_32 HD.out (show t < 24 by omega) k)
          have hV2 := Lib.hid (vDrum_setP HVD.out (show (k : Int) < (m : Int) by omega) htn h96)
          have KF7 := KF; have KH7 := KH
          clear hbb hsp hdn hb32
          go_wp2_with (first | (go_at_call 64; refine (HFREE.out _ KF.here KD.here.r3 KH.here).mono ?_; rintro e w8 ⟨rfl, rfl⟩) | fail)
          go_roundw
          case rel => exact ⟨j - 1, setP D k t, by rw [show ((j - 1 : Nat) : Int) = (j : Int) - 1 by omega], by omega, hD2.out, hV2.out, HDN.out, HSN.out.more (by omega)⟩
          case measure => simp [intOf]; omega
      · clear HFREE
        have e0 := KD.here.r3.cell k (by omega)
        have f0 := KD.here.r3.frozen k
        obtain ⟨bb, hbb⟩ : ∃ bb, 2 ^ t = bb := ⟨_, rfl⟩
        have hw := wrap_pow (show t < 24 by omega) hbb.symm
        have hb32 : bb < 4294967296 := by have := pow24 (show t < 24 by omega); omega
        have hor := bits_or_u32 (HD.out k) hb32
        have hu := u64_nat t (by omega)
        have hsp : upd D k (D k ||| bb) = setP D k t := by rw [← hbb]; unfold setP; rfl
        have hdn := KD.here.set (by omega) (by omega) k (D k ||| bb) (by omega)
        rw [hsp] at hdn
        have HDN := Lib.hid hdn
        have HSN := Lib.hid (HS7.out.stay ((Below.refl (g + 1) w7).setCell (p := ⟨g3, k, none⟩) (show g + 1 ≤ g3 by omega) (.int .u32 ((D k ||| bb : Nat) : Int))))
        have h96 : k < 96 := by omega
        have h96' : (k : Int) < 96 := by omega
        have hD2 := Lib.hid (setP_32 HD.out (show t < 24 by omega) k)
        have hV2 := Lib.hid (vDrum_setP HVD.out (show (k : Int) < (m : Int) by omega) htn h96)
        have KF7 := KF; have KH7 := KH
        clear hbb hsp hdn hb32
        go_wp2_with fail
        go_roundw
        case rel => exact ⟨j - 1, setP D k t, by rw [show ((j - 1 : Nat) : Int) = (j : Int) - 1 by omega], by omega, hD2.out, hV2.out, HDN.out, HSN.out.more (by omega)⟩
        case measure => simp [intOf]; omega
    · have h0' : ¬ (0 : Int) < j := by omega
      have HD7 := Lib.hid KD.here
      have h3 := KD.here.r3
      have h2 := KD.here.r2
      clear KD
      go_wp2_with (first | (with_reducible refine load_drum rfl _ rfl g3 rfl _ D h3 ?_) | (with_reducible refine store_drum rfl _ _ rfl w.heap.size D rfl rfl _ _ h2 ?_) | fail)
      have hbs : Below w.heap.size wr (wr.setRow w.heap.size (dc D)) := below_setRow (Below.refl _ _) (Nat.le_refl _) _
      refine bodyPost_ret (results_drum rfl _ _ w.heap.size _ D rfl (DrumAt.setRow h2 _)) rfl ⟨⟨D, rfl, HD.out, HVD.out⟩, (HS.out.stay (hbs.mono hgl)).more (by omega), HD7.out.k.trans' hbs⟩
end Go.Proofs.Ytlcfjeofphncgaa
