/- UndoChanges, by the reference and by the program. No conditions. -/
import Derived.Test.YtmmneedmhmppoaaOwnC
import Derived.Outline
namespace Go.Proofs.Ytmmneedmhmppoaa
open Go.RowKit
set_option linter.unusedVariables false
set_option linter.unusedSimpArgs false

/-- the last k changes, turned around -/
def unL (n : Nat) (S K : Nat → Int) (U : Nat → Bool) : Nat → List (Int × Int × Bool)
  | 0 => []
  | k + 1 => unL n S K U k ++ [(S (n - 1 - k), K (n - 1 - k), !U (n - 1 - k))]
theorem unL_zero (n : Nat) (S K : Nat → Int) (U : Nat → Bool) : unL n S K U 0 = [] := rfl
theorem unL_succ (n : Nat) (S K : Nat → Int) (U : Nat → Bool) (k : Nat) : unL n S K U (k + 1) = unL n S K U k ++ [(S (n - 1 - k), K (n - 1 - k), !U (n - 1 - k))] := rfl
theorem unL_len (n : Nat) (S K : Nat → Int) (U : Nat → Bool) (k : Nat) : (unL n S K U k).length = k := by
  induction k with
  | zero => rfl
  | succ k ih => rw [unL_succ, List.length_append, ih]; rfl
theorem unL_get (n : Nat) (S K : Nat → Int) (U : Nat → Bool) (k i : Nat) (h : i < k) : (unL n S K U k)[i]? = some (S (n - 1 - i), K (n - 1 - i), !U (n - 1 - i)) := by
  induction k with
  | zero => omega
  | succ k ih =>
    rw [unL_succ]
    by_cases e : i = k
    · subst e; rw [List.getElem?_append_right (by rw [unL_len]; omega), unL_len]; simp
    · rw [List.getElem?_append_left (by rw [unL_len]; omega)]; exact ih (by omega)
attribute [irreducible] unL
noncomputable def unV (n : Nat) (S K : Nat → Int) (U : Nat → Bool) : List (Int × Int × Bool) := if n ≤ 2400 then unL n S K U n else []
def unC (n : Nat) : Int := if n ≤ 2400 then 0 else 3
section
variable {n : Nat} {S K : Nat → Int} {U : Nat → Bool}
theorem un_yes (h : n ≤ 2400) : unV n S K U = unL n S K U n ∧ unC n = 0 := by unfold unV unC; rw [if_pos h, if_pos h]; exact ⟨rfl, rfl⟩
theorem un_no (h : ¬ n ≤ 2400) : unV n S K U = [] ∧ unC n = 3 := by unfold unV unC; rw [if_neg h, if_neg h]; exact ⟨rfl, rfl⟩
theorem unV_len : (unV n S K U).length ≤ 1000000 := by
  by_cases h : n ≤ 2400
  · rw [(un_yes h).1, unL_len]; omega
  · rw [(un_no h).1]; simp
end
attribute [irreducible] unV unC
set_option maxRecDepth 100000 in
theorem specUndoChanges_any (a : Option Addr) (n c : Nat) (S K : Nat → Int) (U : Nat → Bool) (w : World) (hn : n ≤ 1048576) (hS : I16 S) (hK : I8 K) (hh : ChgAt w a n S K U) :
    Calls Try.prog 16 #[.slice a n c] w fun e w' => ∃ v, e = .returned (.tuple #[v, .int .i64 (unC n)]) ∧ Below w.heap.size w w' ∧ OwnC w' w.heap.size v (unV n S K U) := by
  have KB := Kp.base w
  have HC := Lib.hid hh; clear hh
  by_cases hle : n ≤ 2400
  · have hnv := Lib.hid (un_yes (S := S) (K := K) (U := U) hle)
    have hn0 : OwnC (w.alloc (.cells #[] 104)) w.heap.size (.slice (some ⟨w.heap.size, 0, none⟩) 0 0) (unL n S K U 0) := by rw [unL_zero]; exact OwnL.nil w w.heap.size (Nat.le_refl _)
    have HN0 := Lib.hid hn0; clear hn0
    go_enter Try.func16, Try.ntmps16
    go_wp2
    go_loopw [4, 5] (fun v i w' => Below w.heap.size w w' ∧ ∃ k : Nat, k ≤ n ∧ i = .int .i64 ((n : Int) - 1 - k) ∧ OwnC w' w.heap.size v (unL n S K U k)) (fun _ i _ => (intOf i + 1).toNat)
    case atStart => exact ⟨(Below.refl _ _).alloc (Nat.le_refl _) _, 0, by omega, by simp, HN0.out⟩
    case round =>
      clear HN0
      obtain ⟨hb, k, hk, rfl, hown⟩ := hrel
      have HOWN := Lib.hid hown; clear hown
      replace KB := KB.on hb
      by_cases hlt : k < n
      · obtain ⟨x, hx⟩ : ∃ x : Nat, n - 1 - k = x := ⟨_, rfl⟩
        have hxi : (n : Int) - 1 - k = (x : Int) := by omega
        have hy := unL_succ n S K U k
        rw [hx] at hy
        rw [hxi]
        have HX := Lib.hid hxi; have HXN := Lib.hid hx; have HY := Lib.hid hy; clear hxi hx hy
        have hxn : x < n := by have := HXN.out; omega
        have hxn' : (x : Int) < n := by omega
        have hlen := unL_len n S K U k
        have HLEN := Lib.hid hlen; clear hlen
        have hsz := hb.size
        have hx := ChgAt.get HC.out (show 0 < n by omega)
        obtain ⟨g, off, rfl, hg, hc⟩ := hx
        have HO1 := Lib.hid (OwnL.below HOWN.out (below_drew wr))
        have hp : ∀ V, Below w.heap.size w V → V.cell? ⟨g, off + x * 3, none⟩ = some (.int .i16 (S x)) ∧ V.cell? ⟨g, off + x * 3 + 1, none⟩ = some (.int .i8 (K x)) ∧ V.cell? ⟨g, off + x * 3 + 2, none⟩ = some (.bool (U x)) := fun V hV => ⟨(hV.cell (p := ⟨g, off + x * 3, none⟩) hg).trans (hc x hxn).1, (hV.cell (p := ⟨g, off + x * 3 + 1, none⟩) hg).trans (hc x hxn).2.1, (hV.cell (p := ⟨g, off + x * 3 + 2, none⟩) hg).trans (hc x hxn).2.2⟩
        have HPP := Lib.hid hp; clear hp hc HOWN
        have hS := hb.drew
        go_wp2
        refine wp_region_S (fun V => Below w.heap.size w V) (by kernel_rfl) hS ?_
        refine take_val 0 (u4) rfl (by kernel_rfl) (by kernel_rfl) (by kernel_rfl) (fun _ _ _ h => h) rfl (fun V hV => by simp [go_sem]) hS ?_
        simp only [List.getElem_toArray, List.getElem_cons_zero, List.getElem_cons_succ, Act.put, List.setIfInBounds_toArray, List.set_cons_zero, List.set_cons_succ]
        refine take_val 1 (.slice (some ⟨g, off, none⟩) n c) rfl (by kernel_rfl) (by kernel_rfl) (by kernel_rfl) (fun _ _ _ h => h) rfl (fun V hV => by simp [go_sem]) hS ?_
        simp only [List.getElem_toArray, List.getElem_cons_zero, List.getElem_cons_succ, Act.put, List.setIfInBounds_toArray, List.set_cons_zero, List.set_cons_succ]
        refine take_val 2 (.int .i64 (x : Int)) rfl (by kernel_rfl) (by kernel_rfl) (by kernel_rfl) (fun _ _ _ h => h) rfl (fun V hV => by simp [go_sem]) hS ?_
        simp only [List.getElem_toArray, List.getElem_cons_zero, List.getElem_cons_succ, Act.put, List.setIfInBounds_toArray, List.set_cons_zero, List.set_cons_succ]
        refine take_val 3 (.pointer (some ⟨g, off + x * 3, none⟩)) rfl (by kernel_rfl) (by kernel_rfl) (by kernel_rfl) (fun _ _ _ h => h) rfl (fun V hV => by simp [go_sem, hxn, hxn']) hS ?_
        simp only [List.getElem_toArray, List.getElem_cons_zero, List.getElem_cons_succ, Act.put, List.setIfInBounds_toArray, List.set_cons_zero, List.set_cons_succ]
        refine take_val 4 (.pointer (some ⟨g, off + x * 3, none⟩)) rfl (by kernel_rfl) (by kernel_rfl) (by kernel_rfl) (fun _ _ _ h => h) rfl (fun V hV => by simp [go_sem]) hS ?_
        simp only [List.getElem_toArray, List.getElem_cons_zero, List.getElem_cons_succ, Act.put, List.setIfInBounds_toArray, List.set_cons_zero, List.set_cons_succ]
        refine take_val 5 (.int .i16 (S x)) rfl (by kernel_rfl) (by kernel_rfl) (by kernel_rfl) (fun _ _ _ h => h) rfl (fun V hV => by have h := (HPP.out V hV).1; simp [go_sem, h]) hS ?_
        simp only [List.getElem_toArray, List.getElem_cons_zero, List.getElem_cons_succ, Act.put, List.setIfInBounds_toArray, List.set_cons_zero, List.set_cons_succ]
        refine take_val 6 (.slice (some ⟨g, off, none⟩) n c) rfl (by kernel_rfl) (by kernel_rfl) (by kernel_rfl) (fun _ _ _ h => h) rfl (fun V hV => by simp [go_sem]) hS ?_
        simp only [List.getElem_toArray, List.getElem_cons_zero, List.getElem_cons_succ, Act.put, List.setIfInBounds_toArray, List.set_cons_zero, List.set_cons_succ]
        refine take_val 7 (.int .i64 (x : Int)) rfl (by kernel_rfl) (by kernel_rfl) (by kernel_rfl) (fun _ _ _ h => h) rfl (fun V hV => by simp [go_sem]) hS ?_
        simp only [List.getElem_toArray, List.getElem_cons_zero, List.getElem_cons_succ, Act.put, List.setIfInBounds_toArray, List.set_cons_zero, List.set_cons_succ]
        refine take_val 8 (.pointer (some ⟨g, off + x * 3, none⟩)) rfl (by kernel_rfl) (by kernel_rfl) (by kernel_rfl) (fun _ _ _ h => h) rfl (fun V hV => by simp [go_sem, hxn, hxn']) hS ?_
        simp only [List.getElem_toArray, List.getElem_cons_zero, List.getElem_cons_succ, Act.put, List.setIfInBounds_toArray, List.set_cons_zero, List.set_cons_succ]
        refine take_val 9 (.pointer (some ⟨g, off + x * 3 + 1, none⟩)) rfl (by kernel_rfl) (by kernel_rfl) (by kernel_rfl) (fun _ _ _ h => h) rfl (fun V hV => by simp [go_sem]) hS ?_
        simp only [List.getElem_toArray, List.getElem_cons_zero, List.getElem_cons_succ, Act.put, List.setIfInBounds_toArray, List.set_cons_zero, List.set_cons_succ]
        refine take_val 10 (.int .i8 (K x)) rfl (by kernel_rfl) (by kernel_rfl) (by kernel_rfl) (fun _ _ _ h => h) rfl (fun V hV => by have h := (HPP.out V hV).2.1; simp [go_sem, h]) hS ?_
        simp only [List.getElem_toArray, List.getElem_cons_zero, List.getElem_cons_succ, Act.put, List.setIfInBounds_toArray, List.set_cons_zero, List.set_cons_succ]
        refine take_val 11 (.slice (some ⟨g, off, none⟩) n c) rfl (by kernel_rfl) (by kernel_rfl) (by kernel_rfl) (fun _ _ _ h => h) rfl (fun V hV => by simp [go_sem]) hS ?_
        simp only [List.getElem_toArray, List.getElem_cons_zero, List.getElem_cons_succ, Act.put, List.setIfInBounds_toArray, List.set_cons_zero, List.set_cons_succ]
        refine take_val 12 (.int .i64 (x : Int)) rfl (by kernel_rfl) (by kernel_rfl) (by kernel_rfl) (fun _ _ _ h => h) rfl (fun V hV => by simp [go_sem]) hS ?_
        simp only [List.getElem_toArray, List.getElem_cons_zero, List.getElem_cons_succ, Act.put, List.setIfInBounds_toArray, List.set_cons_zero, List.set_cons_succ]
        refine take_val 13 (.pointer (some ⟨g, off + x * 3, none⟩)) rfl (by kernel_rfl) (by kernel_rfl) (by kernel_rfl) (fun _ _ _ h => h) rfl (fun V hV => by simp [go_sem, hxn, hxn']) hS ?_
        simp only [List.getElem_toArray, List.getElem_cons_zero, List.getElem_cons_succ, Act.put, List.setIfInBounds_toArray, List.set_cons_zero, List.set_cons_succ]
        refine take_val 14 (.pointer (some ⟨g, off + x * 3 + 2, none⟩)) rfl (by kernel_rfl) (by kernel_rfl) (by kernel_rfl) (fun _ _ _ h => h) rfl (fun V hV => by simp [go_sem]) hS ?_
        simp only [List.getElem_toArray, List.getElem_cons_zero, List.getElem_cons_succ, Act.put, List.setIfInBounds_toArray, List.set_cons_zero, List.set_cons_succ]
        refine take_val 15 (.bool (U x)) rfl (by kernel_rfl) (by kernel_rfl) (by kernel_rfl) (fun _ _ _ h => h) rfl (fun V hV => by have h := (HPP.out V hV).2.2; simp [go_sem, h]) hS ?_
        simp only [List.getElem_toArray, List.getElem_cons_zero, List.getElem_cons_succ, Act.put, List.setIfInBounds_toArray, List.set_cons_zero, List.set_cons_succ]
        refine take_val 16 (.bool (!U x)) rfl (by kernel_rfl) (by kernel_rfl) (by kernel_rfl) (fun _ _ _ h => h) rfl (fun V hV => by simp [go_sem]) hS ?_
        simp only [List.getElem_toArray, List.getElem_cons_zero, List.getElem_cons_succ, Act.put, List.setIfInBounds_toArray, List.set_cons_zero, List.set_cons_succ]
        refine take_val 17 (.agg #[.int .i16 (S x), .int .i8 (K x), .bool (!U x)]) rfl (by kernel_rfl) (by kernel_rfl) (by kernel_rfl) (fun _ _ _ h => h) rfl (fun V hV => by simp [go_sem]) hS ?_
        simp only [List.getElem_toArray, List.getElem_cons_zero, List.getElem_cons_succ, Act.put, List.setIfInBounds_toArray, List.set_cons_zero, List.set_cons_succ]
        have hbW := hS.alloc hS.size (.cells #[.int .i16 (S x), .int .i8 (K x), .bool (!U x)] 104)
        refine step_val 18 (.slice (some ⟨wr.drew.heap.size, 0, none⟩) 1 1) (wr.drew.alloc (.cells #[.int .i16 (S x), .int .i8 (K x), .bool (!U x)] 104)) (by kernel_rfl) rfl rfl (by simp [go_sem]) hbW ?_
        simp only [List.getElem_toArray, List.getElem_cons_zero, List.getElem_cons_succ, Act.put, List.setIfInBounds_toArray, List.set_cons_zero, List.set_cons_succ]
        refine step_append_changes 19 (by kernel_rfl) rfl rfl _ _ rfl w.heap.size _ (unL n S K U k) rfl (OwnL.alloc HO1.out _) ⟨wr.drew.heap.size, 0, none⟩ 1 1 [(S x, K x, !U x)] rfl rfl (one_cells (heap_alloc_new wr.drew _)) (by rw [HLEN.out]; omega) hbW.size ?_
        intro v2 w2 hown2 hb3
        have hb4 := hbW.trans hb3
        refine ⟨hb4, ?_⟩
        simp only [List.getElem_toArray, List.getElem_cons_zero, List.getElem_cons_succ, Act.put, List.setIfInBounds_toArray, List.set_cons_zero, List.set_cons_succ]
        refine take_val 20 (v2) rfl (by kernel_rfl) (by kernel_rfl) (by kernel_rfl) (fun _ _ _ h => h) rfl (fun V hV => by simp [go_sem]) hb4 ?_
        simp only [List.getElem_toArray, List.getElem_cons_zero, List.getElem_cons_succ, Act.put, List.setIfInBounds_toArray, List.set_cons_zero, List.set_cons_succ]
        have HO2 := Lib.hid hown2; clear hown2 hb3
        refine wpAnyH_done (by kernel_rfl) ?_ _
        go_wp2
        go_roundw
        case rel => exact ⟨hb4, k + 1, by omega, by have := HX.out; congr 1 <;> omega, by rw [HY.out]; exact HO2.out⟩
        case measure => first | (simp [intOf]; done) | (simp [intOf]; omega)
      · have hkn : k = n := by omega
        subst hkn
        go_wp2
        go_ret2
        exact ⟨_, by rw [hnv.out.2]; rfl, KB.here, by rw [hnv.out.1]; exact HOWN.out⟩
  · have hnv := Lib.hid (un_no (S := S) (K := K) (U := U) hle)
    have KN : OwnC (w.alloc (.cells #[] 104)) w.heap.size (.slice (some ⟨w.heap.size, 0, none⟩) 0 0) [] := OwnL.nil w w.heap.size (Nat.le_refl _)
    have HN := Lib.hid KN; clear KN
    go_enter Try.func16, Try.ntmps16
    go_wp2
    go_ret2
    exact ⟨_, by rw [hnv.out.2]; rfl, (KB.alloc _).here, by rw [hnv.out.1]; exact HN.out⟩
/-- n changes as a list -/
def chL (n : Nat) (S K : Nat → Int) (U : Nat → Bool) : List (Int × Int × Bool) := (List.range n).map fun i => (S i, K i, U i)
theorem chL_len (n : Nat) (S K : Nat → Int) (U : Nat → Bool) : (chL n S K U).length = n := by simp [chL]
theorem chL_get (n : Nat) (S K : Nat → Int) (U : Nat → Bool) (i : Nat) (h : i < n) : (chL n S K U)[i]? = some (S i, K i, U i) := by simp [chL, h]
theorem chL_at {n : Nat} {S K : Nat → Int} {U : Nat → Bool} {i : Nat} {x : Int × Int × Bool} (h : (chL n S K U)[i]? = some x) : i < n ∧ x = (S i, K i, U i) := by
  have hi : i < n := by have := (List.getElem?_eq_some_iff.1 h).1; rwa [chL_len] at this
  rw [chL_get _ _ _ _ _ hi] at h
  exact ⟨hi, by simpa using h.symm⟩
attribute [irreducible] chL
theorem ChgAt.flat {w : World} {g off n : Nat} {S K : Nat → Int} {U : Nat → Bool} (h : ∀ i, i < n → w.cell? ⟨g, off + i * 3, none⟩ = some (.int .i16 (S i)) ∧ w.cell? ⟨g, off + i * 3 + 1, none⟩ = some (.int .i8 (K i)) ∧ w.cell? ⟨g, off + i * 3 + 2, none⟩ = some (.bool (U i))) :
    ∀ j u, ((chL n S K U).flatMap encC)[j]? = some u → w.cell? ((⟨g, off, none⟩ : Addr).add j) = some u := by
  intro j u hu
  have hj : j < n * 3 := by have := (List.getElem?_eq_some_iff.1 hu).1; rwa [flat_len encC 3 encC_len, chL_len] at this
  have h1 : j / 3 < n := by omega
  have h2 : j / 3 * 3 + j % 3 = j := by omega
  have e : (⟨g, off, none⟩ : Addr).add j = ⟨g, off + j, none⟩ := by unfold Addr.add; split <;> simp_all
  rw [← h2, flat_get encC 3 encC_len _ _ _ (chL_get n S K U _ h1) _ (by omega)] at hu
  have h3 := h _ h1
  rw [e]
  obtain h4 | h4 | h4 : j % 3 = 0 ∨ j % 3 = 1 ∨ j % 3 = 2 := by omega
  · rw [h4] at hu; rw [show off + j = off + j / 3 * 3 by omega, h3.1]; simpa [encC] using hu
  · rw [h4] at hu; rw [show off + j = off + j / 3 * 3 + 1 by omega, h3.2.1]; simpa [encC] using hu
  · rw [h4] at hu; rw [show off + j = off + j / 3 * 3 + 2 by omega, h3.2.2]; simpa [encC] using hu
set_option maxRecDepth 100000 in
theorem cloneChange_any (a : Option Addr) (n c : Nat) (S K : Nat → Int) (U : Nat → Bool) (w : World) (hn : n ≤ 1048576) (hh : ChgAt w a n S K U) :
    Calls Try.prog 74 #[.slice a n c] w fun e w' => ∃ v, e = .returned v ∧ Below w.heap.size w w' ∧ OwnC w' w.heap.size v (chL n S K U) := by
  cases a with
  | none =>
    have hn0 : n = 0 := by
      by_cases h : n = 0
      · exact h
      · obtain ⟨g, off, e, _⟩ := ChgAt.get hh (show 0 < n by omega)
        exact absurd e (by simp)
    subst hn0
    have hl : chL 0 S K U = [] := by unfold chL; rfl
    rw [hl]; clear hl
    have hq : ∀ w : World, (binOp .eql 24 (.slice none 0 c) (.slice none 0 0)).run Try.prog w = .ok (.bool true) w := fun _ => rfl
    go_enter Try.func74, Try.ntmps74
    go_wp2
    go_ret
    exact ⟨_, rfl, Below.refl _ _, OwnL.none0 _ _⟩
  | some ad =>
    have hc : ∀ j u, ((chL n S K U).flatMap encC)[j]? = some u → (w.alloc (.cells #[] 104)).cell? (ad.add j) = some u := by
      by_cases h0 : 0 < n
      · obtain ⟨g, off, e, hg, hc⟩ := ChgAt.get hh h0
        simp at e; subst e
        have hb : Below w.heap.size w (w.alloc (.cells #[] 104)) := (Below.refl _ _).alloc (Nat.le_refl _) _
        intro j u hu
        have e : (⟨g, off, none⟩ : Addr).add j = ⟨g, off + j, none⟩ := by unfold Addr.add; split <;> simp_all
        have := ChgAt.flat hc j u hu
        rw [e] at this ⊢
        rw [hb.cell (p := ⟨g, off + j, none⟩) hg]; exact this
      · have hn0 : n = 0 := by omega
        subst hn0
        intro j u hu
        have := (List.getElem?_eq_some_iff.1 hu).1
        rw [flat_len encC 3 encC_len, chL_len] at this
        omega
    have HC := Lib.hid hc; clear hc hh
    have hn0 : OwnC (w.alloc (.cells #[] 104)) w.heap.size (.slice (some ⟨w.heap.size, 0, none⟩) 0 0) [] := OwnL.nil w w.heap.size (Nat.le_refl _)
    have HN0 := Lib.hid hn0; clear hn0
    have HL := Lib.hid (chL_len n S K U)
    have hq : ∀ w : World, (binOp .eql 24 (.slice (some ad) n c) (.slice none 0 0)).run Try.prog w = .ok (.bool false) w := fun _ => rfl
    go_enter Try.func74, Try.ntmps74
    go_wp2_with (at_builtin; refine append_changes rfl _ _ rfl w.heap.size _ [] rfl HN0.out ad n c (chL n S K U) HL.out rfl HC.out (by simp; omega) (by simp) ?_; intro v2 w2 hown2 hb2; have HO2 := Lib.hid hown2; have HB2 := Lib.hid hb2; clear hown2 hb2)
    go_ret
    exact ⟨_, rfl, ((Below.refl _ _).alloc (Nat.le_refl _) _).trans HB2.out, HO2.out⟩
/-- where what stands at j came from, k pairs having been exchanged -/
def rvF (n k j : Nat) : Nat := if j < k ∨ n - k ≤ j then n - 1 - j else j
theorem rvF_zero {n j : Nat} (h : j < n) : rvF n 0 j = j := by unfold rvF; rw [if_neg (by omega)]
theorem rvF_in {n k j : Nat} (h : k ≤ j) (h2 : j < n - k) : rvF n k j = j := by unfold rvF; rw [if_neg (by omega)]
theorem rvF_full {n k j : Nat} (hk : n ≤ 2 * k + 1) (hj : j < n) : rvF n k j = n - 1 - j := by
  unfold rvF
  by_cases h : j < k ∨ n - k ≤ j
  · rw [if_pos h]
  · rw [if_neg h]; omega
theorem rvF_swap {n k j : Nat} (hk : 2 * k + 1 < n) (hj : j < n) : rvF n (k + 1) j = if j = k then n - 1 - k else if j = n - 1 - k then k else rvF n k j := by
  unfold rvF
  by_cases e1 : j = k
  · subst e1; rw [if_pos (by omega), if_pos rfl]
  · by_cases e2 : j = n - 1 - k
    · subst e2; rw [if_pos (by omega), if_neg (by omega), if_pos rfl]; omega
    · rw [if_neg e1, if_neg e2]
      by_cases h : j < k ∨ n - k ≤ j
      · rw [if_pos h, if_pos (by omega)]
      · rw [if_neg h, if_neg (by omega)]
attribute [irreducible] rvF
/-- the block g bears n changes at its beginning -/
def ChgRow (w : World) (g cap n : Nat) (S K : Nat → Int) (U : Nat → Bool) : Prop :=
  ∃ cur : Array Value, w.heap[g]? = some (.cells cur 104 (0, 0)) ∧ cur.size = cap * 3 ∧ ∀ i, i < n → cur[i * 3]? = some (.int .i16 (S i)) ∧ cur[i * 3 + 1]? = some (.int .i8 (K i)) ∧ cur[i * 3 + 2]? = some (.bool (U i))
/-- two changes are exchanged -/
theorem rev_swap {n k x cap : Nat} {cur : Array Value} {S K : Nat → Int} {U : Nat → Bool} (hk : 2 * k + 1 < n) (hx : n - 1 - k = x) (hkx : k < x) (hcs : cur.size = cap * 3) (hcap : n ≤ cap)
    (h : ∀ i, i < n → cur[i * 3]? = some (.int .i16 (S (rvF n k i))) ∧ cur[i * 3 + 1]? = some (.int .i8 (K (rvF n k i))) ∧ cur[i * 3 + 2]? = some (.bool (U (rvF n k i)))) :
    ∀ i, i < n → ((((((cur.setIfInBounds (k * 3) (.int .i16 (S x))).setIfInBounds (k * 3 + 1) (.int .i8 (K x))).setIfInBounds (k * 3 + 2) (.bool (U x))).setIfInBounds (x * 3) (.int .i16 (S k))).setIfInBounds (x * 3 + 1) (.int .i8 (K k))).setIfInBounds (x * 3 + 2) (.bool (U k)))[i * 3]? = some (.int .i16 (S (rvF n (k + 1) i))) ∧
      ((((((cur.setIfInBounds (k * 3) (.int .i16 (S x))).setIfInBounds (k * 3 + 1) (.int .i8 (K x))).setIfInBounds (k * 3 + 2) (.bool (U x))).setIfInBounds (x * 3) (.int .i16 (S k))).setIfInBounds (x * 3 + 1) (.int .i8 (K k))).setIfInBounds (x * 3 + 2) (.bool (U k)))[i * 3 + 1]? = some (.int .i8 (K (rvF n (k + 1) i))) ∧
      ((((((cur.setIfInBounds (k * 3) (.int .i16 (S x))).setIfInBounds (k * 3 + 1) (.int .i8 (K x))).setIfInBounds (k * 3 + 2) (.bool (U x))).setIfInBounds (x * 3) (.int .i16 (S k))).setIfInBounds (x * 3 + 1) (.int .i8 (K k))).setIfInBounds (x * 3 + 2) (.bool (U k)))[i * 3 + 2]? = some (.bool (U (rvF n (k + 1) i))) := by
  intro i hi
  have hi3 := h i hi
  have hrv := rvF_swap (n := n) (k := k) (j := i) (by omega) hi
  simp only [Array.getElem?_setIfInBounds, Array.size_setIfInBounds]
  by_cases e1 : i = k
  · subst e1
    rw [if_pos rfl, hx] at hrv
    rw [hrv]
    refine ⟨?_, ?_, ?_⟩
    · rw [if_neg (by omega), if_neg (by omega), if_neg (by omega), if_neg (by omega), if_neg (by omega), if_pos rfl, if_pos (by omega)]
    · rw [if_neg (by omega), if_neg (by omega), if_neg (by omega), if_neg (by omega), if_pos rfl, if_pos (by omega)]
    · rw [if_neg (by omega), if_neg (by omega), if_neg (by omega), if_pos rfl, if_pos (by omega)]
  · by_cases e2 : i = x
    · subst e2
      rw [if_neg e1, if_pos hx.symm] at hrv
      rw [hrv]
      refine ⟨?_, ?_, ?_⟩
      · rw [if_neg (by omega), if_neg (by omega), if_pos rfl, if_pos (by omega)]
      · rw [if_neg (by omega), if_pos rfl, if_pos (by omega)]
      · rw [if_pos rfl, if_pos (by omega)]
    · rw [if_neg e1, if_neg (by omega)] at hrv
      rw [hrv]
      refine ⟨?_, ?_, ?_⟩
      · rw [if_neg (by omega), if_neg (by omega), if_neg (by omega), if_neg (by omega), if_neg (by omega), if_neg (by omega)]; exact hi3.1
      · rw [if_neg (by omega), if_neg (by omega), if_neg (by omega), if_neg (by omega), if_neg (by omega), if_neg (by omega)]; exact hi3.2.1
      · rw [if_neg (by omega), if_neg (by omega), if_neg (by omega), if_neg (by omega), if_neg (by omega), if_neg (by omega)]; exact hi3.2.2
theorem drew_row {W : World} {g : Nat} {o : Option Obj} (h : W.heap[g]? = o) : W.drew.heap[g]? = o := h
theorem grown_drew {w w' : World} {row : Option Nat} (h : w.grownBy w' row) : w.grownBy w'.drew row := ⟨h.os, h.tape, h.output, h.size, h.block⟩
set_option maxRecDepth 100000 in
set_option maxHeartbeats 1000000 in
theorem reverseChange_any (g cap n : Nat) (S K : Nat → Int) (U : Nat → Bool) (w : World) (hn : n ≤ 1048576) (hcap : n ≤ cap) (hh : ChgRow w g cap n S K U) :
    Calls Try.prog 75 #[.slice (some ⟨g, 0, none⟩) n cap] w fun e w' => e = .returned (.tuple #[]) ∧ w.grownBy w' (some g) ∧ ChgRow w' g cap n (fun i => S (n - 1 - i)) (fun i => K (n - 1 - i)) (fun i => U (n - 1 - i)) := by
  have H0 := Lib.hid hh; clear hh
  go_enter Try.func75, Try.ntmps75
  go_wp2
  go_loopw [2, 3] (fun i j w' => w.grownBy w' (some g) ∧ ∃ k : Nat, (n = 0 ∨ 2 * k ≤ n) ∧ i = .int .i64 k ∧ j = .int .i64 ((n : Int) - 1 - k) ∧ ChgRow w' g cap n (fun j => S (rvF n k j)) (fun j => K (rvF n k j)) (fun j => U (rvF n k j))) (fun i j _ => (intOf j - intOf i + 1).toNat)
  case atStart =>
    obtain ⟨cur, hr, hcs, hcc⟩ := H0.out
    exact ⟨grown_refl _ _, 0, by omega, rfl, by simp, cur, hr, hcs, fun i hi => by simp only [rvF_zero hi]; exact hcc i hi⟩
  case round =>
    clear H0
    obtain ⟨hgr, k, hk, rfl, rfl, hrow⟩ := hrel
    have HG := Lib.hid hgr; clear hgr
    by_cases hlt : 2 * k + 1 < n
    · obtain ⟨cur, hr, hcs, hcc⟩ := hrow
      have h1 := hcc k (by omega)
      simp only [rvF_in (n := n) (k := k) (j := k) (Nat.le_refl _) (by omega)] at h1
      obtain ⟨x, hx⟩ : ∃ x : Nat, n - 1 - k = x := ⟨_, rfl⟩
      have h2 := hcc x (by omega)
      simp only [rvF_in (n := n) (k := k) (j := x) (by omega) (by omega)] at h2
      have hxi : (n : Int) - 1 - k = (x : Int) := by omega
      rw [hxi]
      have HJ := Lib.hid (show (x : Int) - 1 = (n : Int) - 1 - ((k + 1 : Nat) : Int) by omega)
      have HX := Lib.hid hx; have HXI := Lib.hid hxi; clear hx hxi
      have hkx : k < x := by have := HX.out; omega
      have hxn : x < n := by have := HX.out; omega
      have HCC := Lib.hid hcc; clear hcc
      have HCS := Lib.hid hcs; clear hcs
      have c0 : wr.cell? ⟨g, k * 3, none⟩ = _ := (row_cell _ hr).trans h1.1
      have c1 : wr.cell? ⟨g, k * 3 + 1, none⟩ = _ := (row_cell _ hr).trans h1.2.1
      have c2 : wr.cell? ⟨g, k * 3 + 2, none⟩ = _ := (row_cell _ hr).trans h1.2.2
      have d0 : wr.cell? ⟨g, x * 3, none⟩ = _ := (row_cell _ hr).trans h2.1
      have d1 : wr.cell? ⟨g, x * 3 + 1, none⟩ = _ := (row_cell _ hr).trans h2.2.1
      have d2 : wr.cell? ⟨g, x * 3 + 2, none⟩ = _ := (row_cell _ hr).trans h2.2.2
      have f0 := frozen_of_row wr g (k * 3) _ _ hr
      have f1 := frozen_of_row wr g (k * 3 + 1) _ _ hr
      have f2 := frozen_of_row wr g (k * 3 + 2) _ _ hr
      have e0 := frozen_of_row wr g (x * 3) _ _ hr
      have e1 := frozen_of_row wr g (x * 3 + 1) _ _ hr
      have e2 := frozen_of_row wr g (x * 3 + 2) _ _ hr
      have HR := Lib.hid hr; clear hr h1 h2
      go_wp2
      go_region
      go_wp2
      go_roundw
      case rel =>
        have hr := HR.out; have hcs := HCS.out; have hx := HX.out; have hxi := HXI.out
        have s0 := heap_setCell_same wr g (k * 3) _ _ (.int .i16 (S x)) hr
        have s1 := heap_setCell_same _ g (k * 3 + 1) _ _ (.int .i8 (K x)) s0
        have s2 := heap_setCell_same _ g (k * 3 + 2) _ _ (.bool (U x)) s1
        have s3 := heap_setCell_same _ g (x * 3) _ _ (.int .i16 (S k)) s2
        have s4 := heap_setCell_same _ g (x * 3 + 1) _ _ (.int .i8 (K k)) s3
        have s5 := heap_setCell_same _ g (x * 3 + 2) _ _ (.bool (U k)) s4
        have hg6 := grown_drew (grown_set (grown_set (grown_set (grown_set (grown_set (grown_set HG.out rfl (k * 3) (.int .i16 (S x))) rfl (k * 3 + 1) (.int .i8 (K x))) rfl (k * 3 + 2) (.bool (U x))) rfl (x * 3) (.int .i16 (S k))) rfl (x * 3 + 1) (.int .i8 (K k))) rfl (x * 3 + 2) (.bool (U k)))
        refine ⟨hg6, k + 1, by omega, by go_num, congrArg (Value.int .i64) HJ.out, _, drew_row s5, by simpa using hcs, fun i hi => ?_⟩
        exact rev_swap (n := n) (by omega) hx hkx hcs (by omega) HCC.out i hi
      case measure => simp [intOf]; omega
    · have HROW := Lib.hid hrow; clear hrow
      go_wp2
      go_end0
      refine ⟨rfl, HG.out, ?_⟩
      obtain ⟨cur, hr, hcs, hcc⟩ := HROW.out
      refine ⟨cur, hr, hcs, fun i hi => ?_⟩
      have h := hcc i hi
      simp only [rvF_full (n := n) (k := k) (j := i) (by omega) hi] at h
      exact h
theorem reverseChange_nil (w : World) :
    Calls Try.prog 75 #[.slice none 0 0] w fun e w' => e = .returned (.tuple #[]) ∧ w = w' := by
  go_enter Try.func75, Try.ntmps75
  go_wp2
  go_loop [2, 3] (fun i j => i = .int .i64 0 ∧ j = .int .i64 (-1)) (fun _ _ => 0)
  case atStart => exact ⟨rfl, rfl⟩
  case round =>
    obtain ⟨rfl, rfl⟩ := hrel
    go_wp2
    go_end0
    exact ⟨rfl, rfl⟩
theorem ChgRow.own {w : World} {g cap n base : Nat} {S K : Nat → Int} {U : Nat → Bool} {l : List (Int × Int × Bool)} (h : ChgRow w g cap n S K U) (hb : base ≤ g) (hn : n ≤ cap) (hc : cap ≤ maxLen) (hl : l.length = n) (he : ∀ i, i < n → l[i]? = some (S i, K i, U i)) :
    OwnC w base (.slice (some ⟨g, 0, none⟩) n cap) l := by
  subst hl
  obtain ⟨cur, hr, hcs, hcc⟩ := h
  have h1 := own_done (w := w) (base := base) (size := 3) (n := l.length) (e := 104) (f := fun x => cur.getD x undef) hb hr hn hc hcs (fun x hx => by simp [Array.getD, show x < cur.size by omega])
  unfold OwnC OwnL
  rw [← flat_mks encC 3 encC_len (by omega) l (fun x => cur.getD x undef) (fun i x hi j hj => ?_)]
  · exact h1
  · have hil : i < l.length := (List.getElem?_eq_some_iff.1 hi).1
    rw [he i hil] at hi
    simp at hi
    subst hi
    obtain ⟨h0, h1, h2⟩ := hcc i hil
    have hg : ∀ y v, cur[y]? = some v → cur.getD y undef = v := fun y v hy => by simp [Array.getD_eq_getD_getElem?, hy]
    obtain rfl | rfl | rfl : j = 0 ∨ j = 1 ∨ j = 2 := by omega
    · rw [Nat.add_zero, hg _ _ h0]; rfl
    · rw [hg _ _ h1]; rfl
    · rw [hg _ _ h2]; rfl
theorem ChgRow.of {w : World} {g cap n : Nat} {S K : Nat → Int} {U : Nat → Bool} {cur : Array Value} (hr : w.heap[g]? = some (.cells cur 104 (0, 0))) (hcs : cur.size = cap * 3) (hn : n ≤ cap) (ht : cur.toList.take (n * 3) = (chL n S K U).flatMap encC) : ChgRow w g cap n S K U := by
  refine ⟨cur, hr, hcs, fun i hi => ?_⟩
  have hg : ∀ j, j < 3 → cur[i * 3 + j]? = (encC (S i, K i, U i))[j]? := fun j hj => by
    rw [← flat_get encC 3 encC_len _ _ _ (chL_get n S K U i hi) j hj, ← ht, List.getElem?_take, if_pos (by omega), Array.getElem?_toList]
  exact ⟨hg 0 (by omega), hg 1 (by omega), hg 2 (by omega)⟩
set_option maxRecDepth 100000 in
set_option maxHeartbeats 1000000 in
theorem implUndoChanges_any (a : Option Addr) (n c : Nat) (S K : Nat → Int) (U : Nat → Bool) (w : World) (hn : n ≤ 1048576) (hS : I16 S) (hK : I8 K) (hh : ChgAt w a n S K U) :
    Calls Try.prog 18 #[.slice a n c] w fun e w' => ∃ v, e = .returned (.tuple #[v, .int .i64 (unC n)]) ∧ Below w.heap.size w w' ∧ OwnC w' w.heap.size v (unV n S K U) := by
  have HH := Lib.hid hh; clear hh
  by_cases hle : n ≤ 2400
  · have hnv := Lib.hid (un_yes (S := S) (K := K) (U := U) hle)
    go_enter Try.func18, Try.ntmps18
    go_wp2_with fail
    refine (cloneChange_any a n c S K U w hn HH.out).mono ?_
    rintro e w1 ⟨v, rfl, hb1, hown⟩
    obtain ⟨hl, h⟩ := hown
    rw [chL_len] at h
    rcases h with ⟨rfl, rfl⟩ | ⟨g, cap, cur, rfl, hg, hr, hc, hm, hcs, ht⟩
    · have HB1 := Lib.hid hb1; clear hb1 hl
      have hul : unL 0 S K U 0 = [] := unL_zero _ _ _ _
      have HU := Lib.hid hul; clear hul
      go_wp2_with fail
      refine (reverseChange_nil w1).mono ?_
      rintro e w2 ⟨rfl, rfl⟩
      go_wp2
      go_loop [15] (fun i => i = .int .i64 0) (fun _ => 0)
      case atStart => rfl
      case round =>
        obtain rfl := hrel
        go_wp2
        go_ret2
        exact ⟨_, by rw [hnv.out.2]; rfl, HB1.out, by rw [hnv.out.1, HU.out]; exact OwnL.none0 _ _⟩
    · have hrow := ChgRow.of (S := S) (K := K) (U := U) hr hcs hc ht
      have HB1 := Lib.hid hb1; have HROW := Lib.hid hrow; have HM := Lib.hid hm
      clear hl hr ht hcs hrow hm
      go_wp2_with fail
      refine (reverseChange_any g cap n S K U w1 hn hc HROW.out).mono ?_
      rintro e w2 ⟨rfl, hg2, hrow2⟩
      have HB2 := Lib.hid (HB1.out.trans (below_grown hg2 hb1.size (fun k hk => by cases hk; exact hg)))
      have HR2 := Lib.hid hrow2
      clear hg2 hrow2 HROW HB1 hb1
      go_wp2
      go_loopw [15] (fun i w' => Below w.heap.size w w' ∧ ∃ k : Nat, k ≤ n ∧ i = .int .i64 k ∧ ChgRow w' g cap n (fun i => S (n - 1 - i)) (fun i => K (n - 1 - i)) (fun i => if i < k then !U (n - 1 - i) else U (n - 1 - i))) (fun i _ => n - (intOf i).toNat)
      case atStart => exact ⟨HB2.out, 0, by omega, rfl, by simpa using HR2.out⟩
      case round =>
        clear HB2 HR2
        obtain ⟨hb, k, hk, rfl, hrow⟩ := hrel
        by_cases hlt : k < n
        · have hk' : (k : Int) < n := by omega
          obtain ⟨cur', hr, hcs, hcc⟩ := hrow
          have h2 := (hcc k hlt).2.2
          simp only [show ¬ k < k by omega, if_false] at h2
          have c0 : wr.cell? ⟨g, k * 3 + 2, none⟩ = _ := (row_cell _ hr).trans h2
          have f0 := frozen_of_row wr g (k * 3 + 2) _ _ hr
          have HCC := Lib.hid hcc; have HR := Lib.hid hr; have HCS := Lib.hid hcs
          clear hcc hr hcs h2
          go_wp2
          go_roundw
          case rel =>
            have hcs := HCS.out
            refine ⟨hb.setCell hg _, k + 1, by omega, by go_num, _, heap_setCell_same wr g (k * 3 + 2) _ _ _ HR.out, by simpa using hcs, fun i hi => ?_⟩
            obtain ⟨h0, h1, h2⟩ := HCC.out i hi
            refine ⟨?_, ?_, ?_⟩
            · rw [Array.getElem?_setIfInBounds, if_neg (by omega)]; exact h0
            · rw [Array.getElem?_setIfInBounds, if_neg (by omega)]; exact h1
            · rw [Array.getElem?_setIfInBounds]
              by_cases e : i = k
              · subst e; rw [if_pos rfl, if_pos (by omega)]; simp only [show i < i + 1 by omega, if_true]
              · rw [if_neg (by omega), h2]
                show some (Value.bool (if i < k then !U (n - 1 - i) else U (n - 1 - i))) = some (Value.bool (if i < k + 1 then !U (n - 1 - i) else U (n - 1 - i)))
                by_cases e2 : i < k
                · rw [if_pos e2, if_pos (by omega)]
                · rw [if_neg e2, if_neg (by omega)]
          case measure => simp [intOf]; omega
        · have hkn : k = n := by omega
          subst hkn
          have HROW := Lib.hid hrow; clear hrow
          go_wp2
          go_ret2
          exact ⟨_, by rw [hnv.out.2]; rfl, hb, by rw [hnv.out.1]; exact ChgRow.own HROW.out hg hc HM.out (unL_len _ _ _ _ _) fun i hi => by rw [unL_get _ _ _ _ _ _ hi, if_pos hi]⟩
  · have hnv := Lib.hid (un_no (S := S) (K := K) (U := U) hle)
    go_enter Try.func18, Try.ntmps18
    go_wp2
    go_ret2
    exact ⟨_, by rw [hnv.out.2]; rfl, Below.refl _ _, by rw [hnv.out.1]; exact OwnL.none0 _ _⟩
end Go.Proofs.Ytmmneedmhmppoaa
