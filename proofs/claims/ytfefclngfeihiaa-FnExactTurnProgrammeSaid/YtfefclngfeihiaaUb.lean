/- Sections are put in order; the place of a section. No conditions. -/
import Derived.Test.YtfefclngfeihiaaUa
import Derived.Test.YtfefclngfeihiaaMd
import Derived.Test.YtfefclngfeihiaaOwnS
import Derived.Outline
namespace Go.Proofs.Ytfefclngfeihiaa
open Go.RowKit
set_option linter.unusedVariables false
set_option linter.unusedSimpArgs false

/-! slices.SortFunc at sections (its laying is printed by the kit's tools, by layg.py). No conditions. -/
open Go.Shelf
def laysSortS_ren : Go.Shelf.Ren := ⟨fun | 6 => 25 | 15 => 46 | 14 => 45 | 28 => 62 | 29 => 63 | 20 => 54 | 21 => 55 | 22 => 56 | 23 => 57 | 24 => 58 | 25 => 59 | 26 => 60 | 27 => 61 | 46 => 69 | 47 => 70 | 48 => 71 | 49 => 72 | 50 => 73 | 57 => 75 | n => n, fun | 22 => 33 | 24 => 55 | 25 => 62 | 3 => 3 | 39 => 85 | 0 => 0 | 53 => 103 | 55 => 105 | 4 => 4 | 46 => 96 | 45 => 95 | 50 => 100 | 5 => 5 | 9 => 9 | 66 => 110 | 70 => 114 | 76 => 117 | 77 => 118 | n => n, fun | n => n⟩
theorem laysSortS : Go.Proofs.SlLaysF0.n6 Try.prog laysSortS_ren := {
  mixed := by kernel_rfl
  f6 := ⟨Try.f25.name, by decide, Try.func25.trans (congrArg some (by kernel_rfl))⟩
  f14 := ⟨Try.f45.name, by decide, Try.func45.trans (congrArg some (by kernel_rfl))⟩
  f15 := Try.func46.trans (congrArg some (by kernel_rfl))
  f20 := ⟨Try.f54.name, by decide, Try.func54.trans (congrArg some (by kernel_rfl))⟩
  f21 := ⟨Try.f55.name, by decide, Try.func55.trans (congrArg some (by kernel_rfl))⟩
  f22 := ⟨Try.f56.name, by decide, Try.func56.trans (congrArg some (by kernel_rfl))⟩
  f23 := ⟨Try.f57.name, by decide, Try.func57.trans (congrArg some (by kernel_rfl))⟩
  f24 := ⟨Try.f58.name, by decide, Try.func58.trans (congrArg some (by kernel_rfl))⟩
  f25 := ⟨Try.f59.name, by decide, Try.func59.trans (congrArg some (by kernel_rfl))⟩
  f26 := ⟨Try.f60.name, by decide, Try.func60.trans (congrArg some (by kernel_rfl))⟩
  f27 := ⟨Try.f61.name, by decide, Try.func61.trans (congrArg some (by kernel_rfl))⟩
  f28 := Try.func62.trans (congrArg some (by kernel_rfl))
  f29 := Try.func63.trans (congrArg some (by kernel_rfl))
  f46 := ⟨Try.f69.name, by decide, Try.func69.trans (congrArg some (by kernel_rfl))⟩
  f47 := Try.func70.trans (congrArg some (by kernel_rfl))
  f48 := Try.func71.trans (congrArg some (by kernel_rfl))
  f49 := ⟨Try.f72.name, by decide, Try.func72.trans (congrArg some (by kernel_rfl))⟩
  f50 := ⟨Try.f73.name, by decide, Try.func73.trans (congrArg some (by kernel_rfl))⟩
  f57 := ⟨Try.f75.name, by decide, Try.func75.trans (congrArg some (by kernel_rfl))⟩
  t0 := Try.underlying0
  a0 := Try.isAgg0
  z0 := Try.sizeOf0
  v0 := Try.zeroValue0
  t3 := Try.underlying3
  a3 := Try.isAgg3
  z3 := Try.sizeOf3
  v3 := Try.zeroValue3
  t4 := Try.underlying4
  a4 := Try.isAgg4
  z4 := Try.sizeOf4
  v4 := Try.zeroValue4
  t5 := Try.underlying5
  a5 := Try.isAgg5
  z5 := Try.sizeOf5
  v5 := Try.zeroValue5
  t9 := Try.underlying9
  a9 := Try.isAgg9
  z9 := Try.sizeOf9
  v9 := Try.zeroValue9
  t22 := Try.underlying33
  a22 := Try.isAgg33
  z22 := Try.sizeOf33
  v22 := Try.zeroValue33
  t25 := Try.underlying62
  a25 := Try.isAgg62
  z25 := Try.sizeOf62
  v25 := Try.zeroValue62
  t39 := Try.underlying85
  a39 := Try.isAgg85
  z39 := Try.sizeOf85
  v39 := Try.zeroValue85
  t45 := Try.underlying95
  a45 := Try.isAgg95
  z45 := Try.sizeOf95
  v45 := Try.zeroValue95
  t46 := Try.underlying96
  a46 := Try.isAgg96
  z46 := Try.sizeOf96
  v46 := Try.zeroValue96
  t50 := Try.underlying100
  a50 := Try.isAgg100
  z50 := Try.sizeOf100
  v50 := Try.zeroValue100
  t53 := Try.underlying103
  a53 := Try.isAgg103
  z53 := Try.sizeOf103
  v53 := Try.zeroValue103
  t55 := Try.underlying105
  a55 := Try.isAgg105
  z55 := Try.sizeOf105
  v55 := Try.zeroValue105
  t66 := Try.underlying110
  a66 := Try.isAgg110
  z66 := Try.sizeOf110
  v66 := Try.zeroValue110
  t70 := Try.underlying114
  a70 := Try.isAgg114
  z70 := Try.sizeOf114
  v70 := Try.zeroValue114
  t76 := Try.underlying117
  a76 := Try.isAgg117
  z76 := Try.sizeOf117
  v76 := Try.zeroValue117
  t77 := Try.underlying118
  a77 := Try.isAgg118
  z77 := Try.sizeOf118
  v77 := Try.zeroValue118 }
set_option maxRecDepth 100000 in
theorem turnCmp_lays (a p b q : Int) (w : World) (ha : -32768 ≤ a ∧ a ≤ 32767) (hb : -32768 ≤ b ∧ b ≤ 32767) :
    Calls Try.prog 26 #[.agg #[.int .i16 a, .int .i16 p], .agg #[.int .i16 b, .int .i16 q]] w fun e w' => e = .returned (.int .i64 (a - b)) ∧ Lays w w' := by
  have q1 := i64_id (x := a) (by omega)
  have q2 := i64_id (x := b) (by omega)
  have q3 := i64_id (x := a - b) (by omega)
  have HLL := Lib.hid (((Lays.refl w).alloc (.cells #[.int .i16 a, .int .i16 p] 55)).alloc (.cells #[.int .i16 b, .int .i16 q] 55))
  go_enter Try.func26, Try.ntmps26
  go_wp2
  go_ret
  exact ⟨rfl, HLL.out⟩
def wS (z : Int × Int) : Int := IntKind.i16.wrap z.1
theorem wS_in (z : Int × Int) : -32768 ≤ wS z ∧ wS z ≤ 32767 := by
  unfold wS
  rw [wrapI16]; omega
theorem wS_id {z : Int × Int} (h : -32768 ≤ z.1 ∧ z.1 ≤ 32767) : wS z = z.1 := by unfold wS; rw [wrapI16]; omega
attribute [irreducible] wS
def encW (z : Int × Int) : List Value := [.int .i16 (wS z), .int .i16 z.2]
theorem encW_len (z : Int × Int) : (encW z).length = 2 := rfl
theorem encW_one (z : Int × Int) : ∀ u ∈ encW z, u.oneCell' = true := by
  intro u hu; simp [encW] at hu; rcases hu with rfl | rfl <;> rfl
theorem encW_eq {l : List (Int × Int)} (h : ∀ z ∈ l, -32768 ≤ z.1 ∧ z.1 ≤ 32767) : l.flatMap encW = l.flatMap encS := by
  induction l with
  | nil => rfl
  | cons z l ih =>
    rw [List.flatMap_cons, List.flatMap_cons, ih fun y hy => h y (List.mem_cons_of_mem _ hy)]
    congr 1
    unfold encW encS
    rw [wS_id (h z List.mem_cons_self)]
theorem OwnS.toW {w : World} {base : Nat} {v : Value} {l : List (Int × Int)} (h : OwnS w base v l) (hr : ∀ z ∈ l, -32768 ≤ z.1 ∧ z.1 ≤ 32767) : OwnL 55 2 encW w base v l := by
  unfold OwnS OwnL at *; rw [encW_eq hr]; exact h
theorem OwnS.ofW {w : World} {base : Nat} {v : Value} {l : List (Int × Int)} (h : OwnL 55 2 encW w base v l) (hr : ∀ z ∈ l, -32768 ≤ z.1 ∧ z.1 ≤ 32767) : OwnS w base v l := by
  unfold OwnS OwnL at *; rw [← encW_eq hr]; exact h
theorem ltOf_wS (x y : Int × Int) : Go.Proofs.ltOf (fun x y : Int × Int => wS x - wS y) x y = true ↔ wS x < wS y := by
  unfold Go.Proofs.ltOf
  rw [decide_eq_true_iff]
  show (wS x - wS y < 0) ↔ _
  omega
theorem wS_swo : Go.Sort.SWO (Go.Proofs.ltOf (fun x y : Int × Int => wS x - wS y)) where
  irrefl := fun x => by
    rw [← Bool.not_eq_true, ltOf_wS]; omega
  trans := fun x y z h h2 => by
    rw [ltOf_wS] at *; omega
  ntrans := fun x y z h h2 => by
    rw [← Bool.not_eq_true, ltOf_wS] at h h2 ⊢; omega
theorem sorted_other {enc : Int × Int → List Value} {sz g q : Nat} {d : Array (Int × Int)} {os : Array Obj} {w : World} {k : Nat} (hk : k ≠ g) (hl : k < w.heap.size) : (sortWorldK enc sz w g 0 q d os).heap[k]? = w.heap[k]? := by
  have hheap : (sortWorldK enc sz w g 0 q d os).heap = (w.heap.modify g (Go.Sort.onCells (Go.Sort.putCells id 0 (Go.Sort.flatK enc sz d)))) ++ os := rfl
  rw [hheap, Array.getElem?_append, if_pos (by rw [Array.size_modify]; exact hl), Array.getElem?_modify, if_neg (fun e => hk e.symm)]
theorem sortSec_own {g base n cap : Nat} {l : List (Int × Int)} {w : World} (hown : OwnS w base (.slice (some ⟨g, 0, none⟩) n cap) l) (hn : n ≤ 1048576) (hr : ∀ z ∈ l, -32768 ≤ z.1 ∧ z.1 ≤ 32767) :
    Calls Try.prog 25 #[.slice (some ⟨g, 0, none⟩) n cap, .func (.func 26) #[] #[]] w fun e w' => e = .returned (.tuple #[]) ∧ ∃ d : Array (Int × Int), d.toList.Perm l ∧ (∀ i j, i < j → j < d.size → ¬ d[j]!.1 < d[i]!.1) ∧
      OwnS w' base (.slice (some ⟨g, 0, none⟩) n cap) d.toList ∧ (∀ B, B ≤ g → Below B w w') ∧ ∀ k, k ≠ g → k < w.heap.size → w'.heap[k]? = w.heap[k]? := by
  have hw := hown.toW hr
  obtain ⟨hnl, hg, cur, hb, _⟩ := OwnL.row encW_len hw
  have hgl : g < w.heap.size := (Array.getElem?_eq_some_iff.1 hb).1
  have hs : l.toArray.size = n := by simp [hnl]
  have hc := AnyQ.slices_SortFunc laysSortS 2 Try.isAgg55 Try.sizeOf55 encW encW_len encW_one (fun x y : Int × Int => wS x - wS y) wS_swo 26 #[] g 0 cap l.toArray w
    (call_enter _ _ Try.func26 (by kernel_rfl) (by kernel_rfl)) (fun m os dk _ x y => turnCmp_lays (wS x) x.2 (wS y) y.2 _ (wS_in x) (wS_in y)) (OwnL.holdsK encW_len hw) hgl (by rw [hs]; omega)
  rw [hs] at hc
  refine Calls.mono hc ?_
  rintro e w' ⟨rfl, d, q, os, hp, hso, rfl⟩
  rw [← hs] at hp
  obtain ⟨h1, h2⟩ := perm_of_permIn hp
  obtain ⟨h3, h4⟩ := OwnL.sorted encW_len hw (d := d) (by rw [h1, hs]) q os
  have h2' : d.toList.Perm l := by simpa using h2
  have hrd : ∀ z ∈ d.toList, -32768 ≤ z.1 ∧ z.1 ≤ 32767 := fun z hz => hr z (h2'.mem_iff.1 hz)
  refine ⟨rfl, d, h2', fun i j hij hj => ?_, OwnS.ofW h3 hrd, h4, fun k hk hl => sorted_other hk hl⟩
  have h5 := hso i j (Nat.zero_le _) hij (by rw [h1, hs] at hj; exact hj)
  rw [← Bool.not_eq_true, ltOf_wS] at h5
  have e1 : d[i]! ∈ d.toList := by rw [getElem!_pos d i (by omega)]; simp
  have e2 : d[j]! ∈ d.toList := by rw [getElem!_pos d j hj]; simp
  rwa [wS_id (hrd _ e1), wS_id (hrd _ e2)] at h5
theorem sortSec_none (c : Nat) (fv : Value) (p : Option Addr) (w : World) :
    Calls Try.prog 25 #[.slice p 0 c, fv] w fun e w' => e = .returned (.tuple #[]) ∧ w' = w := AnyF.slices_SortFunc_none laysSortS p c fv w
theorem OwnS.flat {w : World} {base g n c : Nat} {l : List (Int × Int)} (h : OwnS w base (.slice (some ⟨g, 0, none⟩) n c) l) : ∀ j u, (l.flatMap encS)[j]? = some u → w.cell? ((⟨g, 0, none⟩ : Addr).add j) = some u := by
  unfold OwnS OwnL at h
  intro j u hu
  have hj := (List.getElem?_eq_some_iff.1 hu).1
  rw [flat_len encS 2 encS_len l] at hj
  have e : (⟨g, 0, none⟩ : Addr).add j = ⟨g, j, none⟩ := by unfold Addr.add; split <;> simp_all
  rcases own_at h with ⟨e2, _⟩ | ⟨g', c', e2, _, _, hc⟩
  · cases e2
  · injection e2 with e3 e4 e5
    injection e3 with e3
    injection e3 with e3
    subst e3
    rw [e, hc j hj, hu]
set_option maxRecDepth 100000 in
theorem cloneSec_any (v : Value) (l : List (Int × Int)) (base : Nat) (w : World) (hl : l.length ≤ 500000) (hv : OwnS w base v l) :
    Calls Try.prog 24 #[v] w fun e w' => ∃ u, e = .returned u ∧ Below w.heap.size w w' ∧ OwnS w' w.heap.size u l := by
  rcases hv.2 with ⟨rfl, h0⟩ | ⟨g, cap, cur, rfl, hr⟩
  · have hy : l = [] := List.eq_nil_of_length_eq_zero h0
    subst hy
    have hq : ∀ w : World, (binOp .eql 33 (.slice none 0 0) (.slice none 0 0)).run Try.prog w = .ok (.bool true) w := fun _ => rfl
    go_enter Try.func24, Try.ntmps24
    go_wp2
    go_ret
    exact ⟨_, rfl, Below.refl _ _, OwnL.none0 _ _⟩
  · have hq : ∀ w : World, (binOp .eql 33 (.slice (some ⟨g, 0, none⟩) l.length cap) (.slice none 0 0)).run Try.prog w = .ok (.bool false) w := fun _ => rfl
    clear hr
    have hn0 : OwnS (w.alloc (.cells #[] 55)) w.heap.size (.slice (some ⟨w.heap.size, 0, none⟩) 0 0) [] := OwnL.nil w w.heap.size (Nat.le_refl _)
    have HN := Lib.hid hn0; clear hn0
    have HC := Lib.hid (OwnS.flat (hv.alloc (.cells #[] 55))); clear hv
    have hb0 := Lib.hid (show Below w.heap.size w (w.alloc (.cells #[] 55)) from (Below.refl _ _).alloc (Nat.le_refl _) _)
    go_enter Try.func24, Try.ntmps24
    go_wp2_with (at_builtin; refine append_sections rfl _ _ rfl w.heap.size _ [] rfl HN.out ⟨g, 0, none⟩ l.length cap l rfl rfl HC.out (by simp; omega) (by simp) ?_; intro v2 w2 hown2 hb2; have HO2 := Lib.hid hown2; have HB2 := Lib.hid hb2; clear hown2 hb2)
    go_ret
    exact ⟨_, rfl, hb0.out.trans HB2.out, by have := HO2.out; rwa [List.nil_append] at this⟩
/-- where a section is found -/
def IxS (n : Nat) (P R : Nat → Int) (f t r : Int) : Prop := (∃ k : Nat, k < n ∧ r = k ∧ P k = f ∧ R k = t ∧ ∀ j, j < k → ¬ (P j = f ∧ R j = t)) ∨ (r = -1 ∧ ∀ j, j < n → ¬ (P j = f ∧ R j = t))
theorem IxS.le {n : Nat} {P R : Nat → Int} {f t r : Int} (h : IxS n P R f t r) : -1 ≤ r ∧ r < n := by
  rcases h with ⟨k, hk, rfl, _⟩ | ⟨rfl, _⟩ <;> omega
theorem IxS.at {n : Nat} {P R : Nat → Int} {f t r : Int} (h : IxS n P R f t r) {p : Nat} (hp : p < n) (h1 : P p = f) (h2 : R p = t) (hinj : ∀ i j, i < n → j < n → P i = P j → i = j) : r = p := by
  rcases h with ⟨k, hk, rfl, e1, e2, _⟩ | ⟨_, hno⟩
  · rw [hinj k p hk hp (e1.trans h1.symm)]
  · exact absurd ⟨h1, h2⟩ (hno p hp)
set_option maxRecDepth 100000 in
theorem indexSec_any (b : Option Addr) (n c : Nat) (P R : Nat → Int) (f t : Int) (w : World) (hn : n ≤ 1000) (hh : SecAt w b n P R) :
    Calls Try.prog 27 #[.slice b n c, .agg #[.int .i16 f, .int .i16 t]] w fun e w' => (∃ r : Int, e = .returned (.int .i64 r) ∧ IxS n P R f t r) ∧ Below w.heap.size w w' := by
  have KH := kp_sec hh; clear hh
  have KB := Kp.base w
  replace KB := KB.alloc (.cells #[.int .i16 f, .int .i16 t] 55)
  replace KH := KH.alloc (.cells #[.int .i16 f, .int .i16 t] 55)
  have K0 := kp_new1 w #[.int .i16 f, .int .i16 t] 55 (g := w.heap.size) (by simp)
  have HZ := Lib.hid (show (w.alloc (.cells #[.int .i16 f, .int .i16 t] 55)).heap.size = w.heap.size + 1 by simp)
  go_enter Try.func27, Try.ntmps27
  go_wp2
  generalize (w.alloc (.cells #[.int .i16 f, .int .i16 t] 55)) = W at KB KH K0 HZ ⊢
  clear HZ
  go_loopw [8] (fun i w' => Below W.heap.size W w' ∧ ∃ k : Nat, k ≤ n ∧ i = .int .i64 k ∧ ∀ j, j < k → ¬ (P j = f ∧ R j = t)) (fun i _ => n - (intOf i).toNat)
  case atStart => exact ⟨Below.refl _ _, 0, by omega, rfl, fun j hj => by omega⟩
  case round =>
    obtain ⟨hb, k, hk, rfl, hno⟩ := hrel
    have HNO := Lib.hid hno; clear hno
    replace KB := KB.on hb
    replace KH := KH.on hb
    replace K0 := K0.on hb
    have HB := Lib.hid hb; clear hb
    by_cases hlt : k < n
    · have hk' : (k : Int) < n := by omega
      obtain ⟨g, off, rfl, hg, hc⟩ := SecAt.get KH.here (by omega)
      have c0 := (hc k hlt).1
      have c1 := (hc k hlt).2
      clear hc
      have p0 := row_cell 0 K0.here
      have p1 := row_cell 1 K0.here
      by_cases h1 : P k = f
      · by_cases h2 : R k = t
        · have HF := Lib.hid h1; have HT := Lib.hid h2
          rw [h1] at c0
          rw [h2] at c1
          clear h1 h2
          go_wp2
          go_quiet (fail)
          go_wp2
          go_ret
          exact ⟨⟨k, rfl, .inl ⟨k, hlt, rfl, HF.out, HT.out, HNO.out⟩⟩, below_drewN (KB.here) _⟩
        · have hne : (t == R k) = false := beq_false_of_ne (Ne.symm h2)
          have H2 := Lib.hid h2
          rw [h1] at c0
          clear h1 h2
          go_wp2
          go_quiet (fail)
          go_wp2
          go_roundw
          case rel => exact ⟨below_drewN HB.out _, k + 1, by omega, by go_num, fun j hj => if e : j = k then fun h => H2.out (e ▸ h.2) else HNO.out j (by omega)⟩
          case measure => simp [intOf]; omega
      · have hne : (f == P k) = false := beq_false_of_ne (Ne.symm h1)
        have H1 := Lib.hid h1
        clear h1
        go_wp2
        go_quiet (fail)
        go_wp2
        go_roundw
        case rel => exact ⟨below_drewN HB.out _, k + 1, by omega, by go_num, fun j hj => if e : j = k then fun h => H1.out (e ▸ h.1) else HNO.out j (by omega)⟩
        case measure => simp [intOf]; omega
    · have hkn : k = n := by omega
      subst hkn
      go_wp2
      go_ret
      exact ⟨⟨-1, rfl, .inr ⟨rfl, HNO.out⟩⟩, KB.here⟩
end Go.Proofs.Ytfefclngfeihiaa
