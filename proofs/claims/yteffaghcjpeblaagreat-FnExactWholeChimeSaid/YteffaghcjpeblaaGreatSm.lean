/- The tune of a section, by the reference and by the program. No conditions. -/
import Derived.Test.YteffaghcjpeblaaGreatAg
import Derived.Test.YteffaghcjpeblaaGreatMd
import Derived.Test.YteffaghcjpeblaaGreatTv
import Derived.Test.YteffaghcjpeblaaGreatPl
import Derived.Test.YteffaghcjpeblaaGreatSt
import Derived.Test.YteffaghcjpeblaaGreatVp
import Derived.Test.YteffaghcjpeblaaGreatPc
import Derived.Test.YteffaghcjpeblaaGreatLc
import Derived.Test.YteffaghcjpeblaaGreatWp
import Derived.Outline
namespace Go.Proofs.YteffaghcjpeblaaGreat
open Go.RowKit
set_option linter.unusedVariables false
set_option linter.unusedSimpArgs false

/-! Notes are sorted as the reference does it: each is put in its place. No conditions. -/
theorem bfN_bef (x y : Int × Int) : befB x.1 x.2 y.1 y.2 = bfN x y := by unfold bfN; rfl
theorem OwnN.cell {w : World} {base g n cap : Nat} {l : List (Int × Int)} (h : OwnN w base (.slice (some ⟨g, 0, none⟩) n cap) l) {i : Nat} (hi : i < l.length) : g < w.heap.size ∧ w.cell? ⟨g, i * 2, none⟩ = some (.int .i16 (l.getD i (0, 0)).1) ∧ w.cell? ⟨g, i * 2 + 1, none⟩ = some (.int .i8 (l.getD i (0, 0)).2) := by
  obtain ⟨g', off, e, hg, hc⟩ := NoteAt.get (OwnN.readAt h) (show 0 < l.length by omega)
  simp at e
  obtain ⟨rfl, rfl⟩ := e
  have := hc i hi
  rw [Nat.zero_add] at this
  exact ⟨hg, this⟩
theorem drop_cells {w : World} {base g n cap k : Nat} {l : List (Int × Int)} (h : OwnN w base (.slice (some ⟨g, 0, none⟩) n cap) l) (hk : k ≤ l.length) : ∀ j u, ((l.drop k).flatMap encN)[j]? = some u → w.cell? ((⟨g, k * 2, none⟩ : Addr).add j) = some u := by
  intro j u hu
  have hj : j < (l.length - k) * 2 := by have := (List.getElem?_eq_some_iff.1 hu).1; rwa [flat_len encN 2 encN_len, List.length_drop] at this
  have h1 : k + j / 2 < l.length := by omega
  have h2 : j / 2 * 2 + j % 2 = j := by omega
  have e : (⟨g, k * 2, none⟩ : Addr).add j = ⟨g, k * 2 + j, none⟩ := by unfold Addr.add; split <;> simp_all
  have h0 : (l.drop k)[j / 2]? = some l[k + j / 2] := by rw [List.getElem?_drop, List.getElem?_eq_getElem h1]
  rw [← h2, flat_get encN 2 encN_len _ _ _ h0 _ (by omega)] at hu
  have h3 := (OwnN.cell h h1).2
  rw [getD_at h1] at h3
  rw [e]
  obtain h4 | h4 : j % 2 = 0 ∨ j % 2 = 1 := by omega
  · rw [h4] at hu; rw [show k * 2 + j = (k + j / 2) * 2 by omega, h3.1]; simpa [encN] using hu
  · rw [h4] at hu; rw [show k * 2 + j = (k + j / 2) * 2 + 1 by omega, h3.2]; simpa [encN] using hu
set_option maxRecDepth 100000 in
set_option maxHeartbeats 4000000 in
theorem l01Sorted_any (b : Option Addr) (n c : Nat) (l : List (Int × Int)) (w : World) (hn : l.length = n) (hl : n ≤ 100000) (hh : NoteAt w b l.length (fun i => (l.getD i (0, 0)).1) (fun i => (l.getD i (0, 0)).2)) :
    Calls Tryz.prog 89 #[.slice b n c] w fun e w' => ∃ v, e = .returned v ∧ Below w.heap.size w w' ∧ OwnN w' w.heap.size v (srtN l) := by
  rw [hn] at hh
  have HDEF := Lib.hid (show srtN l = srN l n by rw [srtN_def, hn])
  have KH := kp_note hh; clear hh
  have HN := Lib.hid hn; clear hn
  have KB := Kp.base w
  have h0 : OwnN (w.alloc (.cells #[] 75)) w.heap.size (.slice (some ⟨w.heap.size, 0, none⟩) 0 0) (srN l 0) := by rw [srN_zero]; exact OwnL.nil w w.heap.size (Nat.le_refl _)
  have H0 := Lib.hid h0; have HB0 := Lib.hid ((KB.alloc (.cells #[] 75)).here); clear h0
  go_enter Tryz.func89, Tryz.ntmps89
  go_wp2
  go_loopw [3, 4] (fun v i w' => Below w.heap.size w w' ∧ ∃ k : Nat, k ≤ n ∧ i = .int .i64 k ∧ ∃ g m cap : Nat, v = .slice (some ⟨g, 0, none⟩) m cap ∧ OwnN w' w.heap.size (.slice (some ⟨g, 0, none⟩) m cap) (srN l k)) (fun _ i _ => n - (intOf i).toNat)
  case atStart => exact ⟨HB0.out, 0, by omega, rfl, _, _, _, rfl, H0.out⟩
  case round =>
    clear H0 HB0
    obtain ⟨hb, k, hk, rfl, g, m, cap, rfl, hown⟩ := hrel
    have hm : m = (srN l k).length := by obtain ⟨b', c', e⟩ := OwnL.form hown; injection e with _ e _
    have hmk := srN_len l k
    have HOWN := Lib.hid hown; clear hown
    by_cases hlt : k < n
    · have hlt' : (k : Int) < n := by omega
      have hsucc := srN_succ l k
      obtain ⟨x, hx⟩ : ∃ x, l.getD k (0, 0) = x := ⟨_, rfl⟩
      rw [hx] at hsucc
      obtain ⟨q, hq⟩ : ∃ q, srN l k = q := ⟨_, rfl⟩
      rw [hq] at hsucc HOWN hm hmk
      have hle : m ≤ 100000 := by omega
      have HX := Lib.hid hx; have HS := Lib.hid hsucc; have HM := Lib.hid hm; clear hx hq hsucc hm
      have hsz := hb.size
      have HB := Lib.hid hb; clear hb
      obtain ⟨gl, off, rfl, hgl, hcl⟩ := NoteAt.get KH.here (show 0 < n by omega)
      have cc := hcl k hlt
      rw [HX.out] at cc
      have KX0 := kp_cell cc.1 hgl; have KX1 := kp_cell cc.2 hgl
      clear hcl cc
      have hgw : g < wr.heap.size ∧ m ≤ cap := by obtain ⟨_, _, cur, h, h2, _⟩ := OwnL.row encN_len HOWN.out; exact ⟨(Array.getElem?_eq_some_iff.1 h).1, h2⟩
      go_wp2
      obtain ⟨W, rfl⟩ : ∃ U, U = wr := ⟨wr, rfl⟩
      go_loopw [5] (fun j w' => Below W.heap.size W w' ∧ ∃ t : Nat, t ≤ m ∧ j = .int .i64 t ∧ ∀ i, i < t → bfN (q.getD i (0, 0)) x = true) (fun j _ => m - (intOf j).toNat)
      case atStart => exact ⟨Below.refl _ _, 0, by omega, rfl, fun i hi => by omega⟩
      case round =>
        obtain ⟨hb2, t, ht, rfl, hbf⟩ := hrel
        have HBF := Lib.hid hbf; clear hbf
        have hgl2 : gl < w.heap.size := hgl
        by_cases hlm : t < m
        · have hlm' : (t : Int) < m := by omega
          have cy := OwnN.cell HOWN.out (i := t) (by rw [← HM.out]; exact hlm)
          obtain ⟨y, hy⟩ : ∃ y, q.getD t (0, 0) = y := ⟨_, rfl⟩
          rw [hy] at cy
          have HY := Lib.hid hy; clear hy
          have KY0 := (kp_cell cy.2.1 cy.1).on hb2; have KY1 := (kp_cell cy.2.2 cy.1).on hb2
          clear cy
          have HBW := Lib.hid (HB.out.trans (hb2.mono hsz))
          have KZ0 := KX0.on HBW.out; have KZ1 := KX1.on HBW.out
          have HB2 := Lib.hid hb2; clear hb2
          go_wp2
          obtain ⟨U, rfl⟩ : ∃ U, U = wr := ⟨wr, rfl⟩
          have hS0 := below_drew U
          have KB1 := kp_start U
          refine wp_region_S (fun V => Below U.heap.size U V) (by kernel_rfl) hS0 ?_
          refine take_val 0 (.int .i64 t) rfl (by kernel_rfl) (by kernel_rfl) (by kernel_rfl) (fun _ _ _ h => h) rfl (fun V hV => by simp [go_sem]) hS0 ?_
          simp only [List.getElem_toArray, List.getElem_cons_zero, List.getElem_cons_succ, Act.put, List.setIfInBounds_toArray, List.set_cons_zero, List.set_cons_succ]
          refine take_val 1 (.slice (some ⟨g, 0, none⟩) m cap) rfl (by kernel_rfl) (by kernel_rfl) (by kernel_rfl) (fun _ _ _ h => h) rfl (fun V hV => by simp [go_sem]) hS0 ?_
          simp only [List.getElem_toArray, List.getElem_cons_zero, List.getElem_cons_succ, Act.put, List.setIfInBounds_toArray, List.set_cons_zero, List.set_cons_succ]
          refine take_val 2 (.int .i64 m) rfl (by kernel_rfl) (by kernel_rfl) (by kernel_rfl) (fun _ _ _ h => h) rfl (fun V hV => by simp [go_sem]) hS0 ?_
          simp only [List.getElem_toArray, List.getElem_cons_zero, List.getElem_cons_succ, Act.put, List.setIfInBounds_toArray, List.set_cons_zero, List.set_cons_succ]
          refine take_val 3 (.bool true) rfl (by kernel_rfl) (by kernel_rfl) (by kernel_rfl) (fun _ _ _ h => h) rfl (fun V hV => by simp [go_sem, hlm']) hS0 ?_
          simp only [List.getElem_toArray, List.getElem_cons_zero, List.getElem_cons_succ, Act.put, List.setIfInBounds_toArray, List.set_cons_zero, List.set_cons_succ]
          refine take_val 4 (.bool true) rfl (by kernel_rfl) (by kernel_rfl) (by kernel_rfl) (fun _ _ _ h => h) rfl (fun V hV => by simp [go_sem]) hS0 ?_
          simp only [List.getElem_toArray, List.getElem_cons_zero, List.getElem_cons_succ, Act.put, List.setIfInBounds_toArray, List.set_cons_zero, List.set_cons_succ]
          refine take_val 5 (.slice (some ⟨g, 0, none⟩) m cap) rfl (by kernel_rfl) (by kernel_rfl) (by kernel_rfl) (fun _ _ _ h => h) rfl (fun V hV => by simp [go_sem]) hS0 ?_
          simp only [List.getElem_toArray, List.getElem_cons_zero, List.getElem_cons_succ, Act.put, List.setIfInBounds_toArray, List.set_cons_zero, List.set_cons_succ]
          refine take_val 6 (.int .i64 t) rfl (by kernel_rfl) (by kernel_rfl) (by kernel_rfl) (fun _ _ _ h => h) rfl (fun V hV => by simp [go_sem]) hS0 ?_
          simp only [List.getElem_toArray, List.getElem_cons_zero, List.getElem_cons_succ, Act.put, List.setIfInBounds_toArray, List.set_cons_zero, List.set_cons_succ]
          refine take_val 7 (.pointer (some ⟨g, t * 2, none⟩)) rfl (by kernel_rfl) (by kernel_rfl) (by kernel_rfl) (fun _ _ _ h => h) rfl (fun V hV => by simp [go_sem, hlm']) hS0 ?_
          simp only [List.getElem_toArray, List.getElem_cons_zero, List.getElem_cons_succ, Act.put, List.setIfInBounds_toArray, List.set_cons_zero, List.set_cons_succ]
          refine take_val 8 (.agg #[.int .i16 y.1, .int .i8 y.2]) rfl (by kernel_rfl) (by kernel_rfl) (by kernel_rfl) (fun _ _ _ h => h) rfl (fun V hV => by have c0 := KY0.at hV; have c1 := KY1.at hV; simp [go_sem, c0, c1]) hS0 ?_
          simp only [List.getElem_toArray, List.getElem_cons_zero, List.getElem_cons_succ, Act.put, List.setIfInBounds_toArray, List.set_cons_zero, List.set_cons_succ]
          refine take_val 9 (.slice (some ⟨gl, off, none⟩) n c) rfl (by kernel_rfl) (by kernel_rfl) (by kernel_rfl) (fun _ _ _ h => h) rfl (fun V hV => by simp [go_sem]) hS0 ?_
          simp only [List.getElem_toArray, List.getElem_cons_zero, List.getElem_cons_succ, Act.put, List.setIfInBounds_toArray, List.set_cons_zero, List.set_cons_succ]
          refine take_val 10 (.int .i64 k) rfl (by kernel_rfl) (by kernel_rfl) (by kernel_rfl) (fun _ _ _ h => h) rfl (fun V hV => by simp [go_sem]) hS0 ?_
          simp only [List.getElem_toArray, List.getElem_cons_zero, List.getElem_cons_succ, Act.put, List.setIfInBounds_toArray, List.set_cons_zero, List.set_cons_succ]
          refine take_val 11 (.pointer (some ⟨gl, off + k * 2, none⟩)) rfl (by kernel_rfl) (by kernel_rfl) (by kernel_rfl) (fun _ _ _ h => h) rfl (fun V hV => by simp [go_sem, hlt']) hS0 ?_
          simp only [List.getElem_toArray, List.getElem_cons_zero, List.getElem_cons_succ, Act.put, List.setIfInBounds_toArray, List.set_cons_zero, List.set_cons_succ]
          refine take_val 12 (.agg #[.int .i16 x.1, .int .i8 x.2]) rfl (by kernel_rfl) (by kernel_rfl) (by kernel_rfl) (fun _ _ _ h => h) rfl (fun V hV => by have c0 := KZ0.at hV; have c1 := KZ1.at hV; simp [go_sem, c0, c1]) hS0 ?_
          simp only [List.getElem_toArray, List.getElem_cons_zero, List.getElem_cons_succ, Act.put, List.setIfInBounds_toArray, List.set_cons_zero, List.set_cons_succ]
          have hcon := l01Before_any y.1 y.2 x.1 x.2 U.drew
          rw [bfN_bef] at hcon
          cases hbf : bfN y x
          · rw [hbf] at hcon
            refine step_call 13 103 #[.agg #[.int .i16 y.1, .int .i8 y.2], .agg #[.int .i16 x.1, .int .i8 x.2]] (by kernel_rfl) rfl rfl (by simp [go_sem]) ?_
            refine (hcon).mono ?_
            rintro e V2 ⟨rfl, hb3⟩
            refine ⟨_, rfl, KB1.at hb3, ?_⟩
            simp only [List.getElem_toArray, List.getElem_cons_zero, List.getElem_cons_succ, Act.put, List.setIfInBounds_toArray, List.set_cons_zero, List.set_cons_succ]
            have hS1 := KB1.at hb3
            refine take_val 14 (.bool false) rfl (by kernel_rfl) (by kernel_rfl) (by kernel_rfl) (fun _ _ _ h => h) rfl (fun V hV => by simp [go_sem]) hS1 ?_
            simp only [List.getElem_toArray, List.getElem_cons_zero, List.getElem_cons_succ, Act.put, List.setIfInBounds_toArray, List.set_cons_zero, List.set_cons_succ]
            refine wpAnyH_done (by kernel_rfl) ?_ _
            have HBV2 := Lib.hid (HB2.out.trans (hS1.mono HB2.out.size))
            replace KY0 := KY0.on hS1; replace KY1 := KY1.on hS1; replace KZ0 := KZ0.on hS1; replace KZ1 := KZ1.on hS1
            have HBF2 := Lib.hid hbf
            clear hS0 hS1 KB1 hb3 hcon hbf
            go_wp2
            have hS0 := below_drew V2
            have heq := eql_note y x
            have hgd := guard_note
            refine wp_region_S (fun V => Below V2.heap.size V2 V) (by kernel_rfl) hS0 ?_
            refine take_val 0 (.int .i64 t) rfl (by kernel_rfl) (by kernel_rfl) (by kernel_rfl) (fun _ _ _ h => h) rfl (fun V hV => by simp [go_sem]) hS0 ?_
            simp only [List.getElem_toArray, List.getElem_cons_zero, List.getElem_cons_succ, Act.put, List.setIfInBounds_toArray, List.set_cons_zero, List.set_cons_succ]
            refine take_val 1 (.slice (some ⟨g, 0, none⟩) m cap) rfl (by kernel_rfl) (by kernel_rfl) (by kernel_rfl) (fun _ _ _ h => h) rfl (fun V hV => by simp [go_sem]) hS0 ?_
            simp only [List.getElem_toArray, List.getElem_cons_zero, List.getElem_cons_succ, Act.put, List.setIfInBounds_toArray, List.set_cons_zero, List.set_cons_succ]
            refine take_val 2 (.int .i64 m) rfl (by kernel_rfl) (by kernel_rfl) (by kernel_rfl) (fun _ _ _ h => h) rfl (fun V hV => by simp [go_sem]) hS0 ?_
            simp only [List.getElem_toArray, List.getElem_cons_zero, List.getElem_cons_succ, Act.put, List.setIfInBounds_toArray, List.set_cons_zero, List.set_cons_succ]
            refine take_val 3 (.bool true) rfl (by kernel_rfl) (by kernel_rfl) (by kernel_rfl) (fun _ _ _ h => h) rfl (fun V hV => by simp [go_sem, hlm']) hS0 ?_
            simp only [List.getElem_toArray, List.getElem_cons_zero, List.getElem_cons_succ, Act.put, List.setIfInBounds_toArray, List.set_cons_zero, List.set_cons_succ]
            refine take_val 4 (.bool true) rfl (by kernel_rfl) (by kernel_rfl) (by kernel_rfl) (fun _ _ _ h => h) rfl (fun V hV => by simp [go_sem]) hS0 ?_
            simp only [List.getElem_toArray, List.getElem_cons_zero, List.getElem_cons_succ, Act.put, List.setIfInBounds_toArray, List.set_cons_zero, List.set_cons_succ]
            refine take_val 5 (.slice (some ⟨g, 0, none⟩) m cap) rfl (by kernel_rfl) (by kernel_rfl) (by kernel_rfl) (fun _ _ _ h => h) rfl (fun V hV => by simp [go_sem]) hS0 ?_
            simp only [List.getElem_toArray, List.getElem_cons_zero, List.getElem_cons_succ, Act.put, List.setIfInBounds_toArray, List.set_cons_zero, List.set_cons_succ]
            refine take_val 6 (.int .i64 t) rfl (by kernel_rfl) (by kernel_rfl) (by kernel_rfl) (fun _ _ _ h => h) rfl (fun V hV => by simp [go_sem]) hS0 ?_
            simp only [List.getElem_toArray, List.getElem_cons_zero, List.getElem_cons_succ, Act.put, List.setIfInBounds_toArray, List.set_cons_zero, List.set_cons_succ]
            refine take_val 7 (.pointer (some ⟨g, t * 2, none⟩)) rfl (by kernel_rfl) (by kernel_rfl) (by kernel_rfl) (fun _ _ _ h => h) rfl (fun V hV => by simp [go_sem, hlm']) hS0 ?_
            simp only [List.getElem_toArray, List.getElem_cons_zero, List.getElem_cons_succ, Act.put, List.setIfInBounds_toArray, List.set_cons_zero, List.set_cons_succ]
            refine take_val 8 (.agg #[.int .i16 y.1, .int .i8 y.2]) rfl (by kernel_rfl) (by kernel_rfl) (by kernel_rfl) (fun _ _ _ h => h) rfl (fun V hV => by have c0 := KY0.at hV; have c1 := KY1.at hV; simp [go_sem, c0, c1]) hS0 ?_
            simp only [List.getElem_toArray, List.getElem_cons_zero, List.getElem_cons_succ, Act.put, List.setIfInBounds_toArray, List.set_cons_zero, List.set_cons_succ]
            refine take_val 9 (.slice (some ⟨gl, off, none⟩) n c) rfl (by kernel_rfl) (by kernel_rfl) (by kernel_rfl) (fun _ _ _ h => h) rfl (fun V hV => by simp [go_sem]) hS0 ?_
            simp only [List.getElem_toArray, List.getElem_cons_zero, List.getElem_cons_succ, Act.put, List.setIfInBounds_toArray, List.set_cons_zero, List.set_cons_succ]
            refine take_val 10 (.int .i64 k) rfl (by kernel_rfl) (by kernel_rfl) (by kernel_rfl) (fun _ _ _ h => h) rfl (fun V hV => by simp [go_sem]) hS0 ?_
            simp only [List.getElem_toArray, List.getElem_cons_zero, List.getElem_cons_succ, Act.put, List.setIfInBounds_toArray, List.set_cons_zero, List.set_cons_succ]
            refine take_val 11 (.pointer (some ⟨gl, off + k * 2, none⟩)) rfl (by kernel_rfl) (by kernel_rfl) (by kernel_rfl) (fun _ _ _ h => h) rfl (fun V hV => by simp [go_sem, hlt']) hS0 ?_
            simp only [List.getElem_toArray, List.getElem_cons_zero, List.getElem_cons_succ, Act.put, List.setIfInBounds_toArray, List.set_cons_zero, List.set_cons_succ]
            refine take_val 12 (.agg #[.int .i16 x.1, .int .i8 x.2]) rfl (by kernel_rfl) (by kernel_rfl) (by kernel_rfl) (fun _ _ _ h => h) rfl (fun V hV => by have c0 := KZ0.at hV; have c1 := KZ1.at hV; simp [go_sem, c0, c1]) hS0 ?_
            simp only [List.getElem_toArray, List.getElem_cons_zero, List.getElem_cons_succ, Act.put, List.setIfInBounds_toArray, List.set_cons_zero, List.set_cons_succ]
            refine take_val 13 (.bool (decide (y = x))) rfl (by kernel_rfl) (by kernel_rfl) (by kernel_rfl) (fun _ _ _ h => h) rfl (fun V hV => by simp [go_sem, heq, hgd]) hS0 ?_
            simp only [List.getElem_toArray, List.getElem_cons_zero, List.getElem_cons_succ, Act.put, List.setIfInBounds_toArray, List.set_cons_zero, List.set_cons_succ]
            refine take_val 14 (.bool (decide (y = x))) rfl (by kernel_rfl) (by kernel_rfl) (by kernel_rfl) (fun _ _ _ h => h) rfl (fun V hV => by simp [go_sem]) hS0 ?_
            simp only [List.getElem_toArray, List.getElem_cons_zero, List.getElem_cons_succ, Act.put, List.setIfInBounds_toArray, List.set_cons_zero, List.set_cons_succ]
            refine wpAnyH_done (by kernel_rfl) ?_ _
            have HBV := Lib.hid (HBV2.out.drew)
            clear hS0 KY0 KY1 KZ0 KZ1 heq
            generalize V2.drew = V at HBV ⊢
            have HOV := Lib.hid (OwnN.below HOWN.out HBV.out)
            have hat := insN_at x q t (by rw [← HM.out]; exact ht) HBF.out (fun _ => by rw [HY.out]; exact HBF2.out)
            by_cases hyx : y = x
            · rw [if_pos ⟨by rw [← HM.out]; exact hlm, by rw [HY.out]; exact hyx⟩] at hat
              have HI := Lib.hid hat
              have q3 : decide (y = x) = true := by simp [hyx]
              rw [q3]
              clear q3
              go_wp2
              go_roundw
              case rel => exact ⟨HB.out.trans (HBV.out.mono hsz), k + 1, by omega, by go_num, g, m, cap, rfl, by rw [HS.out, HI.out]; exact HOV.out⟩
              case measure => simp [intOf]; omega
            · rw [if_neg (fun h => hyx (by rw [← HY.out]; exact h.2))] at hat
              have q3 : decide (y = x) = false := by simp [hyx]
              rw [q3]
              have hins := hat
              clear q3 hat
              have HI := Lib.hid hins; clear hins
              have hsV := HBV.out.size
              have hmt : (q.drop t).length = m - t := by rw [List.length_drop, HM.out]
              have HMT := Lib.hid hmt; clear hmt
              have q4 : (m : Int) - (t : Int) = ((m - t : Nat) : Int) := by omega
              have q5 : (cap : Int) - (t : Int) = ((cap - t : Nat) : Int) := by omega
              have q6 : (t : Int) ≤ m := by omega
              have q7 : (t : Int) ≤ cap := by omega
              have hoa := Lib.hid (OwnN.alloc HOV.out (.cells #[] 75))
              go_wp2_with (at_builtin; go_loud (refine append_LgN Tryz.underlying39 infoN2 rfl (by decide) (by decide) encN_len encN_one rfl _ _ rfl V.heap.size V.heap.size 0 0 [] rfl (OwnL.nil V V.heap.size (Nat.le_refl _)) ⟨g, t * 2, none⟩ (m - t) (cap - t) (q.drop t) HMT.out rfl (drop_cells hoa.out (by rw [← HM.out]; omega)) (by simp <;> omega) (by simp) ?_; intro gr nr cr w3 ho3 hn3 hg3 hb3; rw [List.nil_append] at ho3 hn3; rw [HMT.out] at hn3; subst hn3; have HO3 := Lib.hid ho3; have HB3 := Lib.hid (((Below.refl V.heap.size V).alloc (Nat.le_refl _) (.cells #[] 75)).trans hb3); clear ho3 hg3 hb3))
              have hS0 : Below w.heap.size w w3.drew := ((HB.out.trans (HBV.out.mono hsz)).trans (HB3.out.mono (by omega))).drew
              have hov3 := OwnN.below HOV.out HB3.out
              refine wp_region_S (fun U => Below w.heap.size w U) (by kernel_rfl) hS0 ?_
              refine take_val 0 (.slice (some ⟨g, 0, none⟩) m cap) rfl (by kernel_rfl) (by kernel_rfl) (by kernel_rfl) (fun _ _ _ h => h) rfl (fun V hV => by simp [go_sem]) hS0 ?_
              simp only [List.getElem_toArray, List.getElem_cons_zero, List.getElem_cons_succ, Act.put, List.setIfInBounds_toArray, List.set_cons_zero, List.set_cons_succ]
              refine take_val 1 (.int .i64 t) rfl (by kernel_rfl) (by kernel_rfl) (by kernel_rfl) (fun _ _ _ h => h) rfl (fun V hV => by simp [go_sem]) hS0 ?_
              simp only [List.getElem_toArray, List.getElem_cons_zero, List.getElem_cons_succ, Act.put, List.setIfInBounds_toArray, List.set_cons_zero, List.set_cons_succ]
              refine take_val 2 (.slice (some ⟨g, 0, none⟩) t cap) rfl (by kernel_rfl) (by kernel_rfl) (by kernel_rfl) (fun _ _ _ h => h) rfl (fun V hV => by simp [go_sem, q6, q7]) hS0 ?_
              simp only [List.getElem_toArray, List.getElem_cons_zero, List.getElem_cons_succ, Act.put, List.setIfInBounds_toArray, List.set_cons_zero, List.set_cons_succ]
              refine take_val 3 (.slice (some ⟨gl, off, none⟩) n c) rfl (by kernel_rfl) (by kernel_rfl) (by kernel_rfl) (fun _ _ _ h => h) rfl (fun V hV => by simp [go_sem]) hS0 ?_
              simp only [List.getElem_toArray, List.getElem_cons_zero, List.getElem_cons_succ, Act.put, List.setIfInBounds_toArray, List.set_cons_zero, List.set_cons_succ]
              refine take_val 4 (.int .i64 k) rfl (by kernel_rfl) (by kernel_rfl) (by kernel_rfl) (fun _ _ _ h => h) rfl (fun V hV => by simp [go_sem]) hS0 ?_
              simp only [List.getElem_toArray, List.getElem_cons_zero, List.getElem_cons_succ, Act.put, List.setIfInBounds_toArray, List.set_cons_zero, List.set_cons_succ]
              refine take_val 5 (.pointer (some ⟨gl, off + k * 2, none⟩)) rfl (by kernel_rfl) (by kernel_rfl) (by kernel_rfl) (fun _ _ _ h => h) rfl (fun V hV => by simp [go_sem, hlt']) hS0 ?_
              simp only [List.getElem_toArray, List.getElem_cons_zero, List.getElem_cons_succ, Act.put, List.setIfInBounds_toArray, List.set_cons_zero, List.set_cons_succ]
              refine take_val 6 (.agg #[.int .i16 x.1, .int .i8 x.2]) rfl (by kernel_rfl) (by kernel_rfl) (by kernel_rfl) (fun _ _ _ h => h) rfl (fun V hV => by have c0 := KX0.at hV; have c1 := KX1.at hV; simp [go_sem, c0, c1]) hS0 ?_
              simp only [List.getElem_toArray, List.getElem_cons_zero, List.getElem_cons_succ, Act.put, List.setIfInBounds_toArray, List.set_cons_zero, List.set_cons_succ]
              refine take_val 9 (.slice (some ⟨gr, 0, none⟩) (m - t) cr) rfl (by kernel_rfl) (by kernel_rfl) (by kernel_rfl) (fun _ _ _ h => h) rfl (fun V hV => by simp [go_sem]) hS0 ?_
              simp only [List.getElem_toArray, List.getElem_cons_zero, List.getElem_cons_succ, Act.put, List.setIfInBounds_toArray, List.set_cons_zero, List.set_cons_succ]
              have hS1 := hS0.alloc hS0.size (.cells #[.int .i16 x.1, .int .i8 x.2] 75)
              refine step_val 7 _ _ (by kernel_rfl) rfl rfl (ex_build_noteG _ rfl x.1 x.2 rfl) hS1 ?_
              simp only [List.getElem_toArray, List.getElem_cons_zero, List.getElem_cons_succ, Act.put, List.setIfInBounds_toArray, List.set_cons_zero, List.set_cons_succ]
              have hoh : OwnN (w3.drew.alloc (.cells #[.int .i16 x.1, .int .i8 x.2] 75)) w.heap.size (.slice (some ⟨g, 0, none⟩) t cap) (q.take t) := OwnL.head encN_len (OwnL.alloc (OwnL.below hov3 (below_drew w3)) _) ht
              have hor : OwnN (w3.drew.alloc (.cells #[.int .i16 x.1, .int .i8 x.2] 75)) V.heap.size (.slice (some ⟨gr, 0, none⟩) (m - t) cr) (q.drop t) := OwnL.alloc (OwnL.below HO3.out (below_drew w3)) _
              obtain ⟨ya, hya⟩ : ∃ y, q.take t = y := ⟨_, rfl⟩
              obtain ⟨yb, hyb⟩ : ∃ y, q.drop t = y := ⟨_, rfl⟩
              have hla : ya.length = t := by rw [← hya, List.length_take, ← HM.out]; omega
              have hlb : yb.length = m - t := by rw [← hyb]; exact HMT.out
              have HYA := Lib.hid hya; have HYB := Lib.hid hyb; have HLA := Lib.hid hla; have HLB := Lib.hid hlb
              rw [hya] at hoh
              rw [hyb] at hor
              clear hya hyb hla hlb
              refine step_append_LgN Tryz.underlying39 infoN2 rfl (by decide) (by decide) encN_len encN_one 8 (by kernel_rfl) rfl rfl _ _ rfl w.heap.size g t cap ya rfl hoh ⟨w3.drew.heap.size, 0, none⟩ 1 1 [x] rfl rfl (one_cells (enc := encN) (heap_alloc_new w3.drew _)) (by rw [HLA.out]; omega) hS1.size ?_
              intro g8 n8 cap8 w8 ho8 hn8 hg8 hb8
              have hS8 := hS1.trans hb8
              have hor8 := own_grown hor hg8 (fun j hj => by injection hj with hj; subst hj; have := hgw.1; omega)
              refine ⟨hS8, ?_⟩
              simp only [List.getElem_toArray, List.getElem_cons_zero, List.getElem_cons_succ, Act.put, List.setIfInBounds_toArray, List.set_cons_zero, List.set_cons_succ]
              refine step_append_LgN Tryz.underlying39 infoN2 rfl (by decide) (by decide) encN_len encN_one 10 (by kernel_rfl) rfl rfl _ _ rfl w.heap.size g8 n8 cap8 (ya ++ [x]) rfl ho8 ⟨gr, 0, none⟩ (m - t) cr yb HLB.out rfl (by have h := drop_cells (k := 0) hor8 (Nat.zero_le _); rw [Nat.zero_mul] at h; exact h) (by rw [List.length_append, HLA.out]; simp <;> omega) hS8.size ?_
              intro g9 n9 cap9 w9 ho9 hn9 hg9 hb9
              have hS9 := hS8.trans hb9
              refine ⟨hS9, ?_⟩
              simp only [List.getElem_toArray, List.getElem_cons_zero, List.getElem_cons_succ, Act.put, List.setIfInBounds_toArray, List.set_cons_zero, List.set_cons_succ]
              refine take_val 11 (.slice (some ⟨g9, 0, none⟩) n9 cap9) rfl (by kernel_rfl) (by kernel_rfl) (by kernel_rfl) (fun _ _ _ h => h) rfl (fun V hV => by simp [go_sem]) hS9 ?_
              simp only [List.getElem_toArray, List.getElem_cons_zero, List.getElem_cons_succ, Act.put, List.setIfInBounds_toArray, List.set_cons_zero, List.set_cons_succ]
              refine wpAnyH_done (by kernel_rfl) ?_ _
              have HO9 := Lib.hid ho9; have HB9 := Lib.hid hS9
              clear hS0 hS1 hS8 hS9 hoh hor hor8 ho8 hg8 hb8 ho9 hg9 hb9 hov3 hn8 hn9
              go_wp2
              go_roundw
              case rel => exact ⟨HB9.out, k + 1, by omega, by go_num, _, _, _, rfl, by rw [HS.out, HI.out, HYA.out, HYB.out]; exact HO9.out⟩
              case measure => simp [intOf]; omega
          · rw [hbf] at hcon
            refine step_call 13 103 #[.agg #[.int .i16 y.1, .int .i8 y.2], .agg #[.int .i16 x.1, .int .i8 x.2]] (by kernel_rfl) rfl rfl (by simp [go_sem]) ?_
            refine (hcon).mono ?_
            rintro e V2 ⟨rfl, hb3⟩
            refine ⟨_, rfl, KB1.at hb3, ?_⟩
            simp only [List.getElem_toArray, List.getElem_cons_zero, List.getElem_cons_succ, Act.put, List.setIfInBounds_toArray, List.set_cons_zero, List.set_cons_succ]
            have hS1 := KB1.at hb3
            refine take_val 14 (.bool true) rfl (by kernel_rfl) (by kernel_rfl) (by kernel_rfl) (fun _ _ _ h => h) rfl (fun V hV => by simp [go_sem]) hS1 ?_
            simp only [List.getElem_toArray, List.getElem_cons_zero, List.getElem_cons_succ, Act.put, List.setIfInBounds_toArray, List.set_cons_zero, List.set_cons_succ]
            refine wpAnyH_done (by kernel_rfl) ?_ _
            have HBV2 := Lib.hid (HB2.out.trans (hS1.mono HB2.out.size))
            have HBF2 := Lib.hid hbf
            clear hS0 hS1 KB1 hb3 hcon hbf KY0 KY1 KZ0 KZ1
            go_wp2
            go_roundw
            case rel => exact ⟨HBV2.out, t + 1, by omega, by go_num, fun i hi => if e : i = t then by rw [e, HY.out]; exact HBF2.out else HBF.out i (by omega)⟩
            case measure => simp [intOf]; omega
        · have hnlt := hlm
          have hlm' : ¬ (t : Int) < m := by omega
          have HB2 := Lib.hid hb2; clear hb2
          go_wp2
          obtain ⟨U, rfl⟩ : ∃ U, U = wr := ⟨wr, rfl⟩
          have hS0 := below_drew U
          refine wp_region_S (fun V => Below U.heap.size U V) (by kernel_rfl) hS0 ?_
          refine take_val 0 (.int .i64 t) rfl (by kernel_rfl) (by kernel_rfl) (by kernel_rfl) (fun _ _ _ h => h) rfl (fun V hV => by simp [go_sem]) hS0 ?_
          simp only [List.getElem_toArray, List.getElem_cons_zero, List.getElem_cons_succ, Act.put, List.setIfInBounds_toArray, List.set_cons_zero, List.set_cons_succ]
          refine take_val 1 (.slice (some ⟨g, 0, none⟩) m cap) rfl (by kernel_rfl) (by kernel_rfl) (by kernel_rfl) (fun _ _ _ h => h) rfl (fun V hV => by simp [go_sem]) hS0 ?_
          simp only [List.getElem_toArray, List.getElem_cons_zero, List.getElem_cons_succ, Act.put, List.setIfInBounds_toArray, List.set_cons_zero, List.set_cons_succ]
          refine take_val 2 (.int .i64 m) rfl (by kernel_rfl) (by kernel_rfl) (by kernel_rfl) (fun _ _ _ h => h) rfl (fun V hV => by simp [go_sem]) hS0 ?_
          simp only [List.getElem_toArray, List.getElem_cons_zero, List.getElem_cons_succ, Act.put, List.setIfInBounds_toArray, List.set_cons_zero, List.set_cons_succ]
          refine take_val 3 (.bool false) rfl (by kernel_rfl) (by kernel_rfl) (by kernel_rfl) (fun _ _ _ h => h) rfl (fun V hV => by simp [go_sem]; omega) hS0 ?_
          simp only [List.getElem_toArray, List.getElem_cons_zero, List.getElem_cons_succ, Act.put, List.setIfInBounds_toArray, List.set_cons_zero, List.set_cons_succ]
          refine take_val 4 (.bool false) rfl (by kernel_rfl) (by kernel_rfl) (by kernel_rfl) (fun _ _ _ h => h) rfl (fun V hV => by simp [go_sem]) hS0 ?_
          simp only [List.getElem_toArray, List.getElem_cons_zero, List.getElem_cons_succ, Act.put, List.setIfInBounds_toArray, List.set_cons_zero, List.set_cons_succ]
          refine skip_val 5 rfl (by kernel_rfl) (by kernel_rfl) (by kernel_rfl) (fun _ _ _ h => h) rfl hS0 ?_
          simp only [List.getElem_toArray, List.getElem_cons_zero, List.getElem_cons_succ, Act.put, List.setIfInBounds_toArray, List.set_cons_zero, List.set_cons_succ]
          refine skip_val 6 rfl (by kernel_rfl) (by kernel_rfl) (by kernel_rfl) (fun _ _ _ h => h) rfl hS0 ?_
          simp only [List.getElem_toArray, List.getElem_cons_zero, List.getElem_cons_succ, Act.put, List.setIfInBounds_toArray, List.set_cons_zero, List.set_cons_succ]
          refine skip_val 7 rfl (by kernel_rfl) (by kernel_rfl) (by kernel_rfl) (fun _ _ _ h => h) rfl hS0 ?_
          simp only [List.getElem_toArray, List.getElem_cons_zero, List.getElem_cons_succ, Act.put, List.setIfInBounds_toArray, List.set_cons_zero, List.set_cons_succ]
          refine skip_val 8 rfl (by kernel_rfl) (by kernel_rfl) (by kernel_rfl) (fun _ _ _ h => h) rfl hS0 ?_
          simp only [List.getElem_toArray, List.getElem_cons_zero, List.getElem_cons_succ, Act.put, List.setIfInBounds_toArray, List.set_cons_zero, List.set_cons_succ]
          refine skip_val 9 rfl (by kernel_rfl) (by kernel_rfl) (by kernel_rfl) (fun _ _ _ h => h) rfl hS0 ?_
          simp only [List.getElem_toArray, List.getElem_cons_zero, List.getElem_cons_succ, Act.put, List.setIfInBounds_toArray, List.set_cons_zero, List.set_cons_succ]
          refine skip_val 10 rfl (by kernel_rfl) (by kernel_rfl) (by kernel_rfl) (fun _ _ _ h => h) rfl hS0 ?_
          simp only [List.getElem_toArray, List.getElem_cons_zero, List.getElem_cons_succ, Act.put, List.setIfInBounds_toArray, List.set_cons_zero, List.set_cons_succ]
          refine skip_val 11 rfl (by kernel_rfl) (by kernel_rfl) (by kernel_rfl) (fun _ _ _ h => h) rfl hS0 ?_
          simp only [List.getElem_toArray, List.getElem_cons_zero, List.getElem_cons_succ, Act.put, List.setIfInBounds_toArray, List.set_cons_zero, List.set_cons_succ]
          refine skip_val 12 rfl (by kernel_rfl) (by kernel_rfl) (by kernel_rfl) (fun _ _ _ h => h) rfl hS0 ?_
          simp only [List.getElem_toArray, List.getElem_cons_zero, List.getElem_cons_succ, Act.put, List.setIfInBounds_toArray, List.set_cons_zero, List.set_cons_succ]
          refine skip_val 13 rfl (by kernel_rfl) (by kernel_rfl) (by kernel_rfl) (fun _ _ _ h => h) rfl hS0 ?_
          simp only [List.getElem_toArray, List.getElem_cons_zero, List.getElem_cons_succ, Act.put, List.setIfInBounds_toArray, List.set_cons_zero, List.set_cons_succ]
          refine take_val 14 (.bool false) rfl (by kernel_rfl) (by kernel_rfl) (by kernel_rfl) (fun _ _ _ h => h) rfl (fun V hV => by simp [go_sem]) hS0 ?_
          simp only [List.getElem_toArray, List.getElem_cons_zero, List.getElem_cons_succ, Act.put, List.setIfInBounds_toArray, List.set_cons_zero, List.set_cons_succ]
          refine wpAnyH_done (by kernel_rfl) ?_ _
          have HBV2 := Lib.hid (HB2.out.drew)
          clear hS0
          generalize U.drew = V2 at HBV2 ⊢
          go_wp2
          have hS0 := below_drew V2
          refine wp_region_S (fun V => Below V2.heap.size V2 V) (by kernel_rfl) hS0 ?_
          refine take_val 0 (.int .i64 t) rfl (by kernel_rfl) (by kernel_rfl) (by kernel_rfl) (fun _ _ _ h => h) rfl (fun V hV => by simp [go_sem]) hS0 ?_
          simp only [List.getElem_toArray, List.getElem_cons_zero, List.getElem_cons_succ, Act.put, List.setIfInBounds_toArray, List.set_cons_zero, List.set_cons_succ]
          refine take_val 1 (.slice (some ⟨g, 0, none⟩) m cap) rfl (by kernel_rfl) (by kernel_rfl) (by kernel_rfl) (fun _ _ _ h => h) rfl (fun V hV => by simp [go_sem]) hS0 ?_
          simp only [List.getElem_toArray, List.getElem_cons_zero, List.getElem_cons_succ, Act.put, List.setIfInBounds_toArray, List.set_cons_zero, List.set_cons_succ]
          refine take_val 2 (.int .i64 m) rfl (by kernel_rfl) (by kernel_rfl) (by kernel_rfl) (fun _ _ _ h => h) rfl (fun V hV => by simp [go_sem]) hS0 ?_
          simp only [List.getElem_toArray, List.getElem_cons_zero, List.getElem_cons_succ, Act.put, List.setIfInBounds_toArray, List.set_cons_zero, List.set_cons_succ]
          refine take_val 3 (.bool false) rfl (by kernel_rfl) (by kernel_rfl) (by kernel_rfl) (fun _ _ _ h => h) rfl (fun V hV => by simp [go_sem]; omega) hS0 ?_
          simp only [List.getElem_toArray, List.getElem_cons_zero, List.getElem_cons_succ, Act.put, List.setIfInBounds_toArray, List.set_cons_zero, List.set_cons_succ]
          refine take_val 4 (.bool false) rfl (by kernel_rfl) (by kernel_rfl) (by kernel_rfl) (fun _ _ _ h => h) rfl (fun V hV => by simp [go_sem]) hS0 ?_
          simp only [List.getElem_toArray, List.getElem_cons_zero, List.getElem_cons_succ, Act.put, List.setIfInBounds_toArray, List.set_cons_zero, List.set_cons_succ]
          refine skip_val 5 rfl (by kernel_rfl) (by kernel_rfl) (by kernel_rfl) (fun _ _ _ h => h) rfl hS0 ?_
          simp only [List.getElem_toArray, List.getElem_cons_zero, List.getElem_cons_succ, Act.put, List.setIfInBounds_toArray, List.set_cons_zero, List.set_cons_succ]
          refine skip_val 6 rfl (by kernel_rfl) (by kernel_rfl) (by kernel_rfl) (fun _ _ _ h => h) rfl hS0 ?_
          simp only [List.getElem_toArray, List.getElem_cons_zero, List.getElem_cons_succ, Act.put, List.setIfInBounds_toArray, List.set_cons_zero, List.set_cons_succ]
          refine skip_val 7 rfl (by kernel_rfl) (by kernel_rfl) (by kernel_rfl) (fun _ _ _ h => h) rfl hS0 ?_
          simp only [List.getElem_toArray, List.getElem_cons_zero, List.getElem_cons_succ, Act.put, List.setIfInBounds_toArray, List.set_cons_zero, List.set_cons_succ]
          refine skip_val 8 rfl (by kernel_rfl) (by kernel_rfl) (by kernel_rfl) (fun _ _ _ h => h) rfl hS0 ?_
          simp only [List.getElem_toArray, List.getElem_cons_zero, List.getElem_cons_succ, Act.put, List.setIfInBounds_toArray, List.set_cons_zero, List.set_cons_succ]
          refine skip_val 9 rfl (by kernel_rfl) (by kernel_rfl) (by kernel_rfl) (fun _ _ _ h => h) rfl hS0 ?_
          simp only [List.getElem_toArray, List.getElem_cons_zero, List.getElem_cons_succ, Act.put, List.setIfInBounds_toArray, List.set_cons_zero, List.set_cons_succ]
          refine skip_val 10 rfl (by kernel_rfl) (by kernel_rfl) (by kernel_rfl) (fun _ _ _ h => h) rfl hS0 ?_
          simp only [List.getElem_toArray, List.getElem_cons_zero, List.getElem_cons_succ, Act.put, List.setIfInBounds_toArray, List.set_cons_zero, List.set_cons_succ]
          refine skip_val 11 rfl (by kernel_rfl) (by kernel_rfl) (by kernel_rfl) (fun _ _ _ h => h) rfl hS0 ?_
          simp only [List.getElem_toArray, List.getElem_cons_zero, List.getElem_cons_succ, Act.put, List.setIfInBounds_toArray, List.set_cons_zero, List.set_cons_succ]
          refine skip_val 12 rfl (by kernel_rfl) (by kernel_rfl) (by kernel_rfl) (fun _ _ _ h => h) rfl hS0 ?_
          simp only [List.getElem_toArray, List.getElem_cons_zero, List.getElem_cons_succ, Act.put, List.setIfInBounds_toArray, List.set_cons_zero, List.set_cons_succ]
          refine skip_val 13 rfl (by kernel_rfl) (by kernel_rfl) (by kernel_rfl) (fun _ _ _ h => h) rfl hS0 ?_
          simp only [List.getElem_toArray, List.getElem_cons_zero, List.getElem_cons_succ, Act.put, List.setIfInBounds_toArray, List.set_cons_zero, List.set_cons_succ]
          refine take_val 14 (.bool false) rfl (by kernel_rfl) (by kernel_rfl) (by kernel_rfl) (fun _ _ _ h => h) rfl (fun V hV => by simp [go_sem]) hS0 ?_
          simp only [List.getElem_toArray, List.getElem_cons_zero, List.getElem_cons_succ, Act.put, List.setIfInBounds_toArray, List.set_cons_zero, List.set_cons_succ]
          refine wpAnyH_done (by kernel_rfl) ?_ _
          have HBV := Lib.hid (HBV2.out.drew)
          clear hS0
          generalize V2.drew = V at HBV ⊢
          have HOV := Lib.hid (OwnN.below HOWN.out HBV.out)
          have hins := insN_at x q t (by rw [← HM.out]; exact ht) HBF.out (fun h => absurd h (by rw [← HM.out]; exact hnlt))
          rw [if_neg (fun h => absurd h.1 (by rw [← HM.out]; exact hnlt))] at hins
          clear hlm' hlm
          obtain rfl : m = t := by omega
          clear hnlt ht
          have ht : m ≤ m := Nat.le_refl m
          by_cases hcm : cap = m
          · obtain rfl : m = cap := hcm.symm
            have HI := Lib.hid hins; clear hins
            have hsV := HBV.out.size
            have hmt : (q.drop m).length = 0 := by rw [List.length_drop, HM.out, Nat.sub_self]
            have HMT := Lib.hid hmt; clear hmt
            have HDN := Lib.hid (List.eq_nil_of_length_eq_zero HMT.out)
            have q6 : (m : Int) ≤ m := by omega
            have hoa := Lib.hid (OwnN.alloc HOV.out (.cells #[] 75))
            go_wp2_with (at_builtin; go_loud (refine append_LgN Tryz.underlying39 infoN2 rfl (by decide) (by decide) encN_len encN_one rfl _ _ rfl V.heap.size V.heap.size 0 0 [] rfl (OwnL.nil V V.heap.size (Nat.le_refl _)) ⟨g, 0, none⟩ 0 0 (q.drop m) HMT.out rfl (fun j u hu => by rw [HDN.out] at hu; simp at hu) (by simp <;> omega) (by simp) ?_; intro gr nr cr w3 ho3 hn3 hg3 hb3; rw [List.nil_append] at ho3 hn3; rw [HMT.out] at hn3; subst hn3; have HO3 := Lib.hid ho3; have HB3 := Lib.hid (((Below.refl V.heap.size V).alloc (Nat.le_refl _) (.cells #[] 75)).trans hb3); clear ho3 hg3 hb3))
            have hS0 : Below w.heap.size w w3.drew := ((HB.out.trans (HBV.out.mono hsz)).trans (HB3.out.mono (by omega))).drew
            have hov3 := OwnN.below HOV.out HB3.out
            refine wp_region_S (fun U => Below w.heap.size w U) (by kernel_rfl) hS0 ?_
            refine take_val 0 (.slice (some ⟨g, 0, none⟩) m m) rfl (by kernel_rfl) (by kernel_rfl) (by kernel_rfl) (fun _ _ _ h => h) rfl (fun V hV => by simp [go_sem]) hS0 ?_
            simp only [List.getElem_toArray, List.getElem_cons_zero, List.getElem_cons_succ, Act.put, List.setIfInBounds_toArray, List.set_cons_zero, List.set_cons_succ]
            refine take_val 1 (.int .i64 m) rfl (by kernel_rfl) (by kernel_rfl) (by kernel_rfl) (fun _ _ _ h => h) rfl (fun V hV => by simp [go_sem]) hS0 ?_
            simp only [List.getElem_toArray, List.getElem_cons_zero, List.getElem_cons_succ, Act.put, List.setIfInBounds_toArray, List.set_cons_zero, List.set_cons_succ]
            refine take_val 2 (.slice (some ⟨g, 0, none⟩) m m) rfl (by kernel_rfl) (by kernel_rfl) (by kernel_rfl) (fun _ _ _ h => h) rfl (fun V hV => by simp [go_sem, q6]) hS0 ?_
            simp only [List.getElem_toArray, List.getElem_cons_zero, List.getElem_cons_succ, Act.put, List.setIfInBounds_toArray, List.set_cons_zero, List.set_cons_succ]
            refine take_val 3 (.slice (some ⟨gl, off, none⟩) n c) rfl (by kernel_rfl) (by kernel_rfl) (by kernel_rfl) (fun _ _ _ h => h) rfl (fun V hV => by simp [go_sem]) hS0 ?_
            simp only [List.getElem_toArray, List.getElem_cons_zero, List.getElem_cons_succ, Act.put, List.setIfInBounds_toArray, List.set_cons_zero, List.set_cons_succ]
            refine take_val 4 (.int .i64 k) rfl (by kernel_rfl) (by kernel_rfl) (by kernel_rfl) (fun _ _ _ h => h) rfl (fun V hV => by simp [go_sem]) hS0 ?_
            simp only [List.getElem_toArray, List.getElem_cons_zero, List.getElem_cons_succ, Act.put, List.setIfInBounds_toArray, List.set_cons_zero, List.set_cons_succ]
            refine take_val 5 (.pointer (some ⟨gl, off + k * 2, none⟩)) rfl (by kernel_rfl) (by kernel_rfl) (by kernel_rfl) (fun _ _ _ h => h) rfl (fun V hV => by simp [go_sem, hlt']) hS0 ?_
            simp only [List.getElem_toArray, List.getElem_cons_zero, List.getElem_cons_succ, Act.put, List.setIfInBounds_toArray, List.set_cons_zero, List.set_cons_succ]
            refine take_val 6 (.agg #[.int .i16 x.1, .int .i8 x.2]) rfl (by kernel_rfl) (by kernel_rfl) (by kernel_rfl) (fun _ _ _ h => h) rfl (fun V hV => by have c0 := KX0.at hV; have c1 := KX1.at hV; simp [go_sem, c0, c1]) hS0 ?_
            simp only [List.getElem_toArray, List.getElem_cons_zero, List.getElem_cons_succ, Act.put, List.setIfInBounds_toArray, List.set_cons_zero, List.set_cons_succ]
            refine take_val 9 (.slice (some ⟨gr, 0, none⟩) 0 cr) rfl (by kernel_rfl) (by kernel_rfl) (by kernel_rfl) (fun _ _ _ h => h) rfl (fun V hV => by simp [go_sem]) hS0 ?_
            simp only [List.getElem_toArray, List.getElem_cons_zero, List.getElem_cons_succ, Act.put, List.setIfInBounds_toArray, List.set_cons_zero, List.set_cons_succ]
            have hS1 := hS0.alloc hS0.size (.cells #[.int .i16 x.1, .int .i8 x.2] 75)
            refine step_val 7 _ _ (by kernel_rfl) rfl rfl (ex_build_noteG _ rfl x.1 x.2 rfl) hS1 ?_
            simp only [List.getElem_toArray, List.getElem_cons_zero, List.getElem_cons_succ, Act.put, List.setIfInBounds_toArray, List.set_cons_zero, List.set_cons_succ]
            have hoh : OwnN (w3.drew.alloc (.cells #[.int .i16 x.1, .int .i8 x.2] 75)) w.heap.size (.slice (some ⟨g, 0, none⟩) m m) (q.take m) := OwnL.head encN_len (OwnL.alloc (OwnL.below hov3 (below_drew w3)) _) ht
            have hor : OwnN (w3.drew.alloc (.cells #[.int .i16 x.1, .int .i8 x.2] 75)) V.heap.size (.slice (some ⟨gr, 0, none⟩) 0 cr) (q.drop m) := OwnL.alloc (OwnL.below HO3.out (below_drew w3)) _
            obtain ⟨ya, hya⟩ : ∃ y, q.take m = y := ⟨_, rfl⟩
            obtain ⟨yb, hyb⟩ : ∃ y, q.drop m = y := ⟨_, rfl⟩
            have hla : ya.length = m := by rw [← hya, List.length_take, ← HM.out]; omega
            have hlb : yb.length = 0 := by rw [← hyb]; exact HMT.out
            have HYA := Lib.hid hya; have HYB := Lib.hid hyb; have HLA := Lib.hid hla; have HLB := Lib.hid hlb
            rw [hya] at hoh
            rw [hyb] at hor
            clear hya hyb hla hlb
            refine step_append_LgN Tryz.underlying39 infoN2 rfl (by decide) (by decide) encN_len encN_one 8 (by kernel_rfl) rfl rfl _ _ rfl w.heap.size g m m ya rfl hoh ⟨w3.drew.heap.size, 0, none⟩ 1 1 [x] rfl rfl (one_cells (enc := encN) (heap_alloc_new w3.drew _)) (by rw [HLA.out]; omega) hS1.size ?_
            intro g8 n8 cap8 w8 ho8 hn8 hg8 hb8
            have hS8 := hS1.trans hb8
            have hor8 := own_grown hor hg8 (fun j hj => by injection hj with hj; subst hj; have := hgw.1; omega)
            refine ⟨hS8, ?_⟩
            simp only [List.getElem_toArray, List.getElem_cons_zero, List.getElem_cons_succ, Act.put, List.setIfInBounds_toArray, List.set_cons_zero, List.set_cons_succ]
            refine step_append_LgN Tryz.underlying39 infoN2 rfl (by decide) (by decide) encN_len encN_one 10 (by kernel_rfl) rfl rfl _ _ rfl w.heap.size g8 n8 cap8 (ya ++ [x]) rfl ho8 ⟨gr, 0, none⟩ 0 cr yb HLB.out rfl (by have h := drop_cells (k := 0) hor8 (Nat.zero_le _); rw [Nat.zero_mul] at h; exact h) (by rw [List.length_append, HLA.out]; simp <;> omega) hS8.size ?_
            intro g9 n9 cap9 w9 ho9 hn9 hg9 hb9
            have hS9 := hS8.trans hb9
            refine ⟨hS9, ?_⟩
            simp only [List.getElem_toArray, List.getElem_cons_zero, List.getElem_cons_succ, Act.put, List.setIfInBounds_toArray, List.set_cons_zero, List.set_cons_succ]
            refine take_val 11 (.slice (some ⟨g9, 0, none⟩) n9 cap9) rfl (by kernel_rfl) (by kernel_rfl) (by kernel_rfl) (fun _ _ _ h => h) rfl (fun V hV => by simp [go_sem]) hS9 ?_
            simp only [List.getElem_toArray, List.getElem_cons_zero, List.getElem_cons_succ, Act.put, List.setIfInBounds_toArray, List.set_cons_zero, List.set_cons_succ]
            refine wpAnyH_done (by kernel_rfl) ?_ _
            have HO9 := Lib.hid ho9; have HB9 := Lib.hid hS9
            clear hS0 hS1 hS8 hS9 hoh hor hor8 ho8 hg8 hb8 ho9 hg9 hb9 hov3 hn8 hn9
            go_wp2
            go_roundw
            case rel => exact ⟨HB9.out, k + 1, by omega, by go_num, _, _, _, rfl, by rw [HS.out, HI.out, HYA.out, HYB.out]; exact HO9.out⟩
            case measure => simp [intOf]; omega
          · have hcl : m < cap := by omega
            have HI := Lib.hid hins; clear hins
            have hsV := HBV.out.size
            have hmt : (q.drop m).length = 0 := by rw [List.length_drop, HM.out, Nat.sub_self]
            have HMT := Lib.hid hmt; clear hmt
            have q5 : (cap : Int) - (m : Int) = ((cap - m : Nat) : Int) := by omega
            have q6 : (m : Int) ≤ m := by omega
            have q7 : (m : Int) ≤ cap := by omega
            have hoa := Lib.hid (OwnN.alloc HOV.out (.cells #[] 75))
            go_wp2_with (at_builtin; go_loud (refine append_LgN Tryz.underlying39 infoN2 rfl (by decide) (by decide) encN_len encN_one rfl _ _ rfl V.heap.size V.heap.size 0 0 [] rfl (OwnL.nil V V.heap.size (Nat.le_refl _)) ⟨g, m * 2, none⟩ 0 (cap - m) (q.drop m) HMT.out rfl (drop_cells hoa.out (by rw [← HM.out]; omega)) (by simp <;> omega) (by simp) ?_; intro gr nr cr w3 ho3 hn3 hg3 hb3; rw [List.nil_append] at ho3 hn3; rw [HMT.out] at hn3; subst hn3; have HO3 := Lib.hid ho3; have HB3 := Lib.hid (((Below.refl V.heap.size V).alloc (Nat.le_refl _) (.cells #[] 75)).trans hb3); clear ho3 hg3 hb3))
            have hS0 : Below w.heap.size w w3.drew := ((HB.out.trans (HBV.out.mono hsz)).trans (HB3.out.mono (by omega))).drew
            have hov3 := OwnN.below HOV.out HB3.out
            refine wp_region_S (fun U => Below w.heap.size w U) (by kernel_rfl) hS0 ?_
            refine take_val 0 (.slice (some ⟨g, 0, none⟩) m cap) rfl (by kernel_rfl) (by kernel_rfl) (by kernel_rfl) (fun _ _ _ h => h) rfl (fun V hV => by simp [go_sem]) hS0 ?_
            simp only [List.getElem_toArray, List.getElem_cons_zero, List.getElem_cons_succ, Act.put, List.setIfInBounds_toArray, List.set_cons_zero, List.set_cons_succ]
            refine take_val 1 (.int .i64 m) rfl (by kernel_rfl) (by kernel_rfl) (by kernel_rfl) (fun _ _ _ h => h) rfl (fun V hV => by simp [go_sem]) hS0 ?_
            simp only [List.getElem_toArray, List.getElem_cons_zero, List.getElem_cons_succ, Act.put, List.setIfInBounds_toArray, List.set_cons_zero, List.set_cons_succ]
            refine take_val 2 (.slice (some ⟨g, 0, none⟩) m cap) rfl (by kernel_rfl) (by kernel_rfl) (by kernel_rfl) (fun _ _ _ h => h) rfl (fun V hV => by simp [go_sem, q6, q7]) hS0 ?_
            simp only [List.getElem_toArray, List.getElem_cons_zero, List.getElem_cons_succ, Act.put, List.setIfInBounds_toArray, List.set_cons_zero, List.set_cons_succ]
            refine take_val 3 (.slice (some ⟨gl, off, none⟩) n c) rfl (by kernel_rfl) (by kernel_rfl) (by kernel_rfl) (fun _ _ _ h => h) rfl (fun V hV => by simp [go_sem]) hS0 ?_
            simp only [List.getElem_toArray, List.getElem_cons_zero, List.getElem_cons_succ, Act.put, List.setIfInBounds_toArray, List.set_cons_zero, List.set_cons_succ]
            refine take_val 4 (.int .i64 k) rfl (by kernel_rfl) (by kernel_rfl) (by kernel_rfl) (fun _ _ _ h => h) rfl (fun V hV => by simp [go_sem]) hS0 ?_
            simp only [List.getElem_toArray, List.getElem_cons_zero, List.getElem_cons_succ, Act.put, List.setIfInBounds_toArray, List.set_cons_zero, List.set_cons_succ]
            refine take_val 5 (.pointer (some ⟨gl, off + k * 2, none⟩)) rfl (by kernel_rfl) (by kernel_rfl) (by kernel_rfl) (fun _ _ _ h => h) rfl (fun V hV => by simp [go_sem, hlt']) hS0 ?_
            simp only [List.getElem_toArray, List.getElem_cons_zero, List.getElem_cons_succ, Act.put, List.setIfInBounds_toArray, List.set_cons_zero, List.set_cons_succ]
            refine take_val 6 (.agg #[.int .i16 x.1, .int .i8 x.2]) rfl (by kernel_rfl) (by kernel_rfl) (by kernel_rfl) (fun _ _ _ h => h) rfl (fun V hV => by have c0 := KX0.at hV; have c1 := KX1.at hV; simp [go_sem, c0, c1]) hS0 ?_
            simp only [List.getElem_toArray, List.getElem_cons_zero, List.getElem_cons_succ, Act.put, List.setIfInBounds_toArray, List.set_cons_zero, List.set_cons_succ]
            refine take_val 9 (.slice (some ⟨gr, 0, none⟩) 0 cr) rfl (by kernel_rfl) (by kernel_rfl) (by kernel_rfl) (fun _ _ _ h => h) rfl (fun V hV => by simp [go_sem]) hS0 ?_
            simp only [List.getElem_toArray, List.getElem_cons_zero, List.getElem_cons_succ, Act.put, List.setIfInBounds_toArray, List.set_cons_zero, List.set_cons_succ]
            have hS1 := hS0.alloc hS0.size (.cells #[.int .i16 x.1, .int .i8 x.2] 75)
            refine step_val 7 _ _ (by kernel_rfl) rfl rfl (ex_build_noteG _ rfl x.1 x.2 rfl) hS1 ?_
            simp only [List.getElem_toArray, List.getElem_cons_zero, List.getElem_cons_succ, Act.put, List.setIfInBounds_toArray, List.set_cons_zero, List.set_cons_succ]
            have hoh : OwnN (w3.drew.alloc (.cells #[.int .i16 x.1, .int .i8 x.2] 75)) w.heap.size (.slice (some ⟨g, 0, none⟩) m cap) (q.take m) := OwnL.head encN_len (OwnL.alloc (OwnL.below hov3 (below_drew w3)) _) ht
            have hor : OwnN (w3.drew.alloc (.cells #[.int .i16 x.1, .int .i8 x.2] 75)) V.heap.size (.slice (some ⟨gr, 0, none⟩) 0 cr) (q.drop m) := OwnL.alloc (OwnL.below HO3.out (below_drew w3)) _
            obtain ⟨ya, hya⟩ : ∃ y, q.take m = y := ⟨_, rfl⟩
            obtain ⟨yb, hyb⟩ : ∃ y, q.drop m = y := ⟨_, rfl⟩
            have hla : ya.length = m := by rw [← hya, List.length_take, ← HM.out]; omega
            have hlb : yb.length = 0 := by rw [← hyb]; exact HMT.out
            have HYA := Lib.hid hya; have HYB := Lib.hid hyb; have HLA := Lib.hid hla; have HLB := Lib.hid hlb
            rw [hya] at hoh
            rw [hyb] at hor
            clear hya hyb hla hlb
            refine step_append_LgN Tryz.underlying39 infoN2 rfl (by decide) (by decide) encN_len encN_one 8 (by kernel_rfl) rfl rfl _ _ rfl w.heap.size g m cap ya rfl hoh ⟨w3.drew.heap.size, 0, none⟩ 1 1 [x] rfl rfl (one_cells (enc := encN) (heap_alloc_new w3.drew _)) (by rw [HLA.out]; omega) hS1.size ?_
            intro g8 n8 cap8 w8 ho8 hn8 hg8 hb8
            have hS8 := hS1.trans hb8
            have hor8 := own_grown hor hg8 (fun j hj => by injection hj with hj; subst hj; have := hgw.1; omega)
            refine ⟨hS8, ?_⟩
            simp only [List.getElem_toArray, List.getElem_cons_zero, List.getElem_cons_succ, Act.put, List.setIfInBounds_toArray, List.set_cons_zero, List.set_cons_succ]
            refine step_append_LgN Tryz.underlying39 infoN2 rfl (by decide) (by decide) encN_len encN_one 10 (by kernel_rfl) rfl rfl _ _ rfl w.heap.size g8 n8 cap8 (ya ++ [x]) rfl ho8 ⟨gr, 0, none⟩ 0 cr yb HLB.out rfl (by have h := drop_cells (k := 0) hor8 (Nat.zero_le _); rw [Nat.zero_mul] at h; exact h) (by rw [List.length_append, HLA.out]; simp <;> omega) hS8.size ?_
            intro g9 n9 cap9 w9 ho9 hn9 hg9 hb9
            have hS9 := hS8.trans hb9
            refine ⟨hS9, ?_⟩
            simp only [List.getElem_toArray, List.getElem_cons_zero, List.getElem_cons_succ, Act.put, List.setIfInBounds_toArray, List.set_cons_zero, List.set_cons_succ]
            refine take_val 11 (.slice (some ⟨g9, 0, none⟩) n9 cap9) rfl (by kernel_rfl) (by kernel_rfl) (by kernel_rfl) (fun _ _ _ h => h) rfl (fun V hV => by simp [go_sem]) hS9 ?_
            simp only [List.getElem_toArray, List.getElem_cons_zero, List.getElem_cons_succ, Act.put, List.setIfInBounds_toArray, List.set_cons_zero, List.set_cons_succ]
            refine wpAnyH_done (by kernel_rfl) ?_ _
            have HO9 := Lib.hid ho9; have HB9 := Lib.hid hS9
            clear hS0 hS1 hS8 hS9 hoh hor hor8 ho8 hg8 hb8 ho9 hg9 hb9 hov3 hn8 hn9
            go_wp2
            go_roundw
            case rel => exact ⟨HB9.out, k + 1, by omega, by go_num, _, _, _, rfl, by rw [HS.out, HI.out, HYA.out, HYB.out]; exact HO9.out⟩
            case measure => simp [intOf]; omega
    · have hkn : k = n := by omega
      subst hkn
      go_wp2
      go_ret
      exact ⟨_, rfl, hb, by rw [HDEF.out]; exact HOWN.out⟩

/-! The tune of a section. No conditions. -/
/-- the notes of a section, as the program lists them and as the reference does -/
theorem sec_same {s : Int} {n : Nat} {P : Nat → Int} {D : Nat → Nat} {F S : Int} (hn : 0 < n) (hF : 0 ≤ F) (hS : 0 ≤ S) (he : F + S ≤ s) :
    srtN (ntL P F (plL (plP D F S) n (s.toNat * n))) = srtN (ntL P 0 (plL (fun k t => hasPin D (F.toNat + k) t) n (S.toNat * n))) := by
  refine srtN_congr fun z => ?_
  rw [ntL_mem, ntL_mem]
  constructor
  · rintro ⟨y, hy, rfl⟩
    obtain ⟨k, t, hk, ht, hp, rfl⟩ := (plL_mem _ n hn _ _).1 hy
    rw [plP_def, Bool.and_eq_true, inB_iff] at hp
    refine ⟨(((k - F.toNat : Nat) : Int), (t : Int)), (plL_mem _ n hn _ _).2 ⟨k - F.toNat, t, by omega, ht, ?_, rfl⟩, ?_⟩
    · show hasPin D (F.toNat + (k - F.toNat)) t = true
      rw [show F.toNat + (k - F.toNat) = k by omega]; exact hp.1
    · exact Prod.ext (by simp; omega) rfl
  · rintro ⟨y, hy, rfl⟩
    obtain ⟨k, t, hk, ht, hp, rfl⟩ := (plL_mem _ n hn _ _).1 hy
    refine ⟨(((F.toNat + k : Nat) : Int), (t : Int)), (plL_mem _ n hn _ _).2 ⟨F.toNat + k, t, by omega, ht, ?_, rfl⟩, ?_⟩
    · rw [plP_def, Bool.and_eq_true, inB_iff]
      exact ⟨hp, by omega, by omega⟩
    · exact Prod.ext (by simp; omega) rfl
/-- the notes of a section are notes -/
theorem sec_notes {s : Int} {n : Nat} {P : Nat → Int} {D : Nat → Nat} {F S : Int} (hs : s ≤ 96) (hn : 0 < n) (hF : 0 ≤ F) (hP : ∀ t, t < n → 0 ≤ P t ∧ P t ≤ 47) : ∀ z ∈ srtN (ntL P F (plL (plP D F S) n (s.toNat * n))), noteB z.1 z.2 = true := by
  intro z hz
  rw [srtN_mem, ntL_mem] at hz
  obtain ⟨y, hy, rfl⟩ := hz
  obtain ⟨k, t, hk, ht, hp, rfl⟩ := (plL_mem _ n hn _ _).1 hy
  rw [plP_def, Bool.and_eq_true, inB_iff] at hp
  have := hP t ht
  rw [noteB_iff]
  refine ⟨⟨?_, ?_⟩, ?_, ?_⟩ <;> simp <;> omega
theorem sec_len {s : Int} {n : Nat} {P : Nat → Int} {D : Nat → Nat} {F S : Int} (hs : s ≤ 96) (hn : n ≤ 24) : (srtN (ntL P F (plL (plP D F S) n (s.toNat * n)))).length ≤ 2304 :=
  Nat.le_trans (srtN_len _) (by rw [ntL_len]; exact Nat.le_trans (plL_len _ _ _) (place_bound (by omega) hn))
/-- what a section plays; none: nothing -/
def sxL (s : Int) (n : Nat) (P : Nat → Int) (F S : Nat → Int) (D : Nat → Nat) (o : Int) : List (Int × Int) := if o < 0 then [] else srtN (ntL P (F o.toNat) (plL (plP D (F o.toNat) (S o.toNat)) n (s.toNat * n)))
theorem sxL_no {s : Int} {n : Nat} {P F S : Nat → Int} {D : Nat → Nat} {o : Int} (h : o < 0) : sxL s n P F S D o = [] := if_pos h
theorem sxL_yes (s : Int) (n : Nat) (P F S : Nat → Int) (D : Nat → Nat) (k : Nat) : sxL s n P F S D (k : Int) = srtN (ntL P (F k) (plL (plP D (F k) (S k)) n (s.toNat * n))) := by unfold sxL; rw [if_neg (by omega), Int.toNat_natCast]
attribute [irreducible] sxL
/-- a tune that is not too long -/
def sxT (l : List (Int × Int)) : List (Int × Int) := if l.length ≤ 120 then l else []
def sxC (l : List (Int × Int)) : Int := if l.length ≤ 120 then 0 else 3
theorem sx_yes {l : List (Int × Int)} (h : l.length ≤ 120) : sxT l = l ∧ sxC l = 0 := ⟨if_pos h, if_pos h⟩
theorem sx_no {l : List (Int × Int)} (h : ¬ l.length ≤ 120) : sxT l = [] ∧ sxC l = 3 := ⟨if_neg h, if_neg h⟩
theorem sxT_len (l : List (Int × Int)) : (sxT l).length ≤ 1000000 := by
  unfold sxT
  split
  · omega
  · simp
attribute [irreducible] sxT sxC
set_option maxRecDepth 100000 in
set_option maxHeartbeats 1000000 in
theorem l04Section_any (gf gd Tf Td : Nat) (m : Nat) (a : Option Addr) (n c : Nat) (P R : Nat → Int) (D : Nat → Nat) (F S : Int) (w : World) (hm : 2 ≤ m ∧ m ≤ 96) (hn : 1 ≤ n ∧ n ≤ 24) (hD : D32 D) (hP : I8 P) (hF : 0 ≤ F) (hS : 0 ≤ S) (he : F + S ≤ m)
    (hf : w.heap[gf]? = some (.cells #[.int .i16 (m : Int), .slice a n c] Tf (0, 0))) (hd : DrumAt w Td gd D) (hh : HamAt w a n P R) :
    Calls Tryz.prog 46 #[.pointer (some ⟨gf, 0, none⟩), .pointer (some ⟨gd, 0, none⟩), .agg #[.int .i16 F, .int .i16 S]] w fun e w' => ∃ v, e = .returned v ∧ Below w.heap.size w w' ∧ OwnN w' w.heap.size v (srtN (ntL P 0 (plL (fun k t => hasPin D (F.toNat + k) t) n (S.toNat * n)))) := by
  have HD := Lib.hid hD; have HP := Lib.hid hP; clear hD hP
  obtain ⟨f, rfl⟩ : ∃ f : Nat, F = f := ⟨F.toNat, by omega⟩
  obtain ⟨st, rfl⟩ : ∃ f : Nat, S = f := ⟨S.toNat, by omega⟩
  rw [Int.toNat_natCast, Int.toNat_natCast]
  obtain ⟨p, hp⟩ : ∃ p : Nat → Nat → Bool, p = fun k t => hasPin D (f + k) t := ⟨_, rfl⟩
  rw [← hp]
  have HPP := Lib.hid hp; clear hp
  obtain ⟨gh, off, rfl, hgh, hcell⟩ := hh.get (show 0 < n by omega)
  have HCELL := Lib.hid hcell
  clear hh hcell
  have KB := Kp.base w; have KF0 := kp_row hf; have KD0 := kp_drum hd; clear hf hd
  replace KB := KB.alloc (.cells #[.int .i16 (f : Int), .int .i16 (st : Int)] 90)
  have KX := kp_new1 w #[.int .i16 (f : Int), .int .i16 (st : Int)] 90 (g := w.heap.size) (by simp)
  have HZ := Lib.hid (show (w.alloc (.cells #[.int .i16 (f : Int), .int .i16 (st : Int)] 90)).heap.size = w.heap.size + 1 by simp)
  go_enter Tryz.func46, Tryz.ntmps46
  have h0 : OwnN ((w.alloc (.cells #[.int .i16 (f : Int), .int .i16 (st : Int)] 90)).alloc (.cells #[] 75)) w.heap.size (.slice (some ⟨w.heap.size + 1, 0, none⟩) 0 0) (ntL P 0 (plL p n 0)) := by
    rw [plL_zero, ntL_nil]
    have h := OwnL.nil (T := 75) (sz := 2) (enc := encN) (w.alloc (.cells #[.int .i16 (f : Int), .int .i16 (st : Int)] 90)) w.heap.size (by simp)
    rw [show (w.alloc (.cells #[.int .i16 (f : Int), .int .i16 (st : Int)] 90)).heap.size = w.heap.size + 1 by simp] at h
    exact h
  have H0 := Lib.hid h0; clear h0
  go_wp2
  have HX0 := Lib.hid (KX.alloc (.cells #[] 75)).here
  have HB0 := Lib.hid (KB.alloc (.cells #[] 75)).here
  clear HZ
  go_loopw [7, 8] (fun v i w' => Below w.heap.size w w' ∧ w'.heap[w.heap.size]? = some (.cells #[.int .i16 (f : Int), .int .i16 (st : Int)] 90 (0, 0)) ∧ ∃ k : Nat, k ≤ st ∧ i = .int .i64 k ∧ OwnN w' w.heap.size v (ntL P 0 (plL p n (k * n)))) (fun _ i _ => st - (intOf i).toNat)
  case atStart => exact ⟨HB0.out, HX0.out, 0, by omega, rfl, by rw [Nat.zero_mul]; exact H0.out⟩
  case round =>
    clear H0 HX0 HB0
    obtain ⟨hb, hx, k, hk, rfl, hown⟩ := hrel
    have HB := Lib.hid hb; have HX := Lib.hid hx; have HO := Lib.hid hown; clear hb hx hown
    have x1 := row_cell 1 HX.out
    have q0 := i64_id (x := (st : Int)) (by omega)
    by_cases hlt : k < st
    · have hlt' : (k : Int) < st := by omega
      go_wp2
      clear x1
      go_loopw [7, 9] (fun v i w' => Below w.heap.size w w' ∧ w'.heap[w.heap.size]? = some (.cells #[.int .i16 (f : Int), .int .i16 (st : Int)] 90 (0, 0)) ∧ ∃ t : Nat, t ≤ n ∧ i = .int .i64 t ∧ OwnN w' w.heap.size v (ntL P 0 (plL p n (k * n + t)))) (fun _ i _ => n - (intOf i).toNat)
      case atStart => exact ⟨HB.out, HX.out, 0, by omega, rfl, HO.out⟩
      case round =>
        rename_i v0 v1
        clear HB HX HO
        obtain ⟨hb, hx, t, ht, rfl, hown⟩ := hrel
        have x0 := row_cell 0 hx
        have HX := Lib.hid hx; have HO := Lib.hid hown; clear hx hown
        have f1 := row_cell 1 (KF0.at hb)
        have hdr := (KD0.at hb : DrumAt _ _ _ _)
        have HB := Lib.hid hb; clear hb
        by_cases hlt2 : t < n
        · have hlt2' : (t : Int) < n := by omega
          have q1 := i64_id (x := (f : Int)) (by omega)
          have q2 := i64_id (x := (f : Int) + (k : Int)) (by omega)
          have hcon := l02Pin_any gd Td D (f + k) t wr HD.out (by omega) (by omega) hdr
          rw [show ((f + k : Nat) : Int) = (f : Int) + (k : Int) by omega] at hcon
          cases hpin : hasPin D (f + k) t
          · rw [hpin] at hcon
            have HN := Lib.hid (plL_no (n := n) (k := k) hlt2 (show p k t = false by rw [HPP.out]; exact hpin))
            have HCON := Lib.hid hcon
            clear hcon hdr
            go_wp2_with (go_at_call 73; refine HCON.out.mono ?_; rintro e w2 ⟨rfl, rfl⟩)
            go_roundw
            case rel => exact ⟨HB.out, HX.out, t + 1, by omega, by go_num, by rw [← Nat.add_assoc, HN.out]; exact HO.out⟩
            case measure => simp [intOf]; omega
          · rw [hpin] at hcon
            have HY := Lib.hid (plL_yes (n := n) (k := k) hlt2 (show p k t = true by rw [HPP.out]; exact hpin))
            have HCON := Lib.hid hcon
            have c2 := ((HB.out.cell (p := ⟨gh, off + t * 2, none⟩) hgh).trans (HCELL.out t hlt2).1)
            have q3 := i16_idP (x := (k : Int)) (by omega)
            have hown2 := HO.out
            obtain ⟨b7, c7, rfl⟩ := OwnL.form hown2
            have hlen : (ntL P 0 (plL p n (k * n + t))).length ≤ 2304 := by rw [ntL_len]; have h1 := plL_len p n (k * n + t); have h2 := place_lt (s := st) hlt hlt2; have h3 := place_bound (s := st) (n := n) (by omega) (by omega); omega
            have HL := Lib.hid hlen
            obtain ⟨nl, hnl⟩ : ∃ x, (ntL P 0 (plL p n (k * n + t))).length = x := ⟨_, rfl⟩
            have HNL := Lib.hid hnl
            rw [hnl] at HO hlen ⊢
            have HOA := Lib.hid (OwnN.alloc HO.out (.cells #[.int .i16 (k : Int), .int .i8 (P t)] 75))
            have hsz := HB.out.size
            clear hcon hdr hown2 hnl
            go_wp2_with (first | (go_at_call 73; refine HCON.out.mono ?_; rintro e w2 ⟨rfl, rfl⟩) | (at_builtin; go_loud (refine append_Lg Tryz.underlying38 infoN2 rfl (by decide) (by decide) encN_len encN_one rfl _ _ rfl w.heap.size _ _ rfl HOA.out ⟨wr.heap.size, 0, none⟩ 1 1 [((k : Int), P t)] rfl rfl (one_cells (enc := encN) (heap_alloc_new wr _)) (by rw [HNL.out]; omega) (by simp; omega) ?_; intro v2 w2 hown2 hg2; have HO2 := Lib.hid hown2; have HG2 := Lib.hid hg2; clear hown2 hg2)))
            go_roundw
            case rel =>
              have hlt3 : w.heap.size < wr.heap.size := (Array.getElem?_eq_some_iff.1 HX.out).1
              have hal := HB.out.alloc HB.out.size (.cells #[.int .i16 (k : Int), .int .i8 (P t)] 75)
              refine ⟨hal.trans (below_grown HG2.out hal.size fun j hj => (OwnN.lt HOA.out j hj).1), ?_, t + 1, by omega, by go_num, ?_⟩
              · exact (keep_grown (T2 := 75) HOA.out HG2.out).2 _ _ _ _ ((heap_alloc_old wr _ hlt3).trans HX.out) (by decide) (by decide)
              · rw [← Nat.add_assoc, HY.out]
                have e : ntL P 0 (plL p n (k * n + t) ++ [((k : Int), (t : Int))]) = ntL P 0 (plL p n (k * n + t)) ++ [((k : Int), P t)] := by
                  have h := ntL_adB P 0 true k t (plL p n (k * n + t))
                  rw [adB_yes, adB_yes] at h
                  rw [h]; simp
                rw [e]; exact HO2.out
            case measure => simp [intOf]; omega
        · have htn : t = n := by omega
          have HTN := Lib.hid (show ntL P 0 (plL p n ((k + 1) * n)) = ntL P 0 (plL p n (k * n + t)) by rw [htn, Nat.add_mul, Nat.one_mul])
          have hlt2' : ¬ (t : Int) < n := by omega
          clear htn hdr
          go_wp2
          go_roundw
          case rel => exact ⟨HB.out, HX.out, k + 1, by omega, by go_num, by rw [HTN.out]; exact HO.out⟩
          case measure => simp [intOf]; omega
    · have hks : k = st := by omega
      subst hks
      have hown := HO.out
      obtain ⟨b7, c7, rfl⟩ := OwnL.form hown
      have hlen : (ntL P 0 (plL p n (k * n))).length ≤ 2304 := by rw [ntL_len]; exact Nat.le_trans (plL_len _ _ _) (place_bound (by omega) (by omega))
      obtain ⟨L, hL⟩ : ∃ L, ntL P 0 (plL p n (k * n)) = L := ⟨_, rfl⟩
      rw [hL] at hown hlen ⊢
      have hs := l01Sorted_any b7 L.length c7 L wr rfl (by omega) (OwnN.readAt hown)
      have HS := Lib.hid hs; have HLL := Lib.hid hL
      clear hown hs hL hlen
      go_wp2_with (go_at_call 89; refine HS.out.mono ?_; rintro e w3 ⟨v3, rfl, hb3, ho3⟩; have HB3 := Lib.hid hb3; have HO3 := Lib.hid ho3; clear hb3 ho3)
      go_ret
      exact ⟨v3, rfl, HB.out.trans (HB3.out.mono HB.out.size), by rw [HLL.out]; exact OwnN.mono HO3.out HB.out.size⟩
set_option maxRecDepth 100000 in
theorem l04Made_any (base : Nat) (v : Value) (l : List (Int × Int)) (w : World) (hl : l.length ≤ 100000) (hb : base ≤ w.heap.size) (ho : OwnN w base v l) :
    Calls Tryz.prog 45 #[v] w fun e w' => ∃ u, e = .returned (.tuple #[u, .int .i64 (sxC l)]) ∧ Below w.heap.size w w' ∧ OwnN w' base u (sxT l) := by
  obtain ⟨b, c, rfl⟩ := OwnL.form ho
  have HO := Lib.hid ho; clear ho
  by_cases h : l.length ≤ 120
  · have HS := Lib.hid (sx_yes h)
    have h' : ¬ (120 : Int) < (l.length : Int) := by omega
    go_enter Tryz.func45, Tryz.ntmps45
    go_wp2
    refine bodyPost_ret (v := .tuple #[.slice b l.length c, .int .i64 0]) (by simp [results, Tryz.results45, go_sem]) rfl ⟨_, by rw [HS.out.2], Below.refl _ _, by rw [HS.out.1]; exact HO.out⟩
  · have HS := Lib.hid (sx_no h)
    have h' : (120 : Int) < (l.length : Int) := by omega
    go_enter Tryz.func45, Tryz.ntmps45
    go_wp2
    refine bodyPost_ret (v := .tuple #[.slice (some ⟨w.heap.size, 0, none⟩) 0 0, .int .i64 3]) (by simp [results, Tryz.results45, go_sem]) rfl ⟨_, by rw [HS.out.2], (Below.refl _ _).alloc (Nat.le_refl _) _, by rw [HS.out.1]; exact OwnL.nil w base hb⟩

/-! The tune of a section, by the reference and by the program. No conditions. -/
/-- the frame, the programme and the drum are valid -/
def whB (s : Int) (n : Nat) (P R : Nat → Int) (D : Nat → Nat) (m : Nat) (F S O : Nat → Int) : Bool := vProg s n P R m F S O && vDrum s n D
theorem whB_iff {s : Int} {n : Nat} {P R : Nat → Int} {D : Nat → Nat} {m : Nat} {F S O : Nat → Int} : whB s n P R D m F S O = true ↔ vProg s n P R m F S O = true ∧ vDrum s n D = true := by unfold whB; rw [Bool.and_eq_true]
theorem whB_p {s : Int} {n : Nat} {P R : Nat → Int} {D : Nat → Nat} {m : Nat} {F S O : Nat → Int} (h : vProg s n P R m F S O = false) : whB s n P R D m F S O = false := by unfold whB; rw [h]; rfl
theorem whB_d {s : Int} {n : Nat} {P R : Nat → Int} {D : Nat → Nat} {m : Nat} {F S O : Nat → Int} (h : vProg s n P R m F S O = true) : whB s n P R D m F S O = vDrum s n D := by unfold whB; rw [h]; rfl
attribute [irreducible] whB
/-- what is asked of a section or a quarter -/
def wcode (wh b : Bool) : Int := if wh then (if b then 0 else 2) else 1
theorem wcode_f (b : Bool) : wcode false b = 1 := rfl
theorem wcode_tf : wcode true false = 2 := rfl
theorem wcode_tt : wcode true true = 0 := rfl
theorem wcode_zero {wh b : Bool} (h : wcode wh b = 0) : wh = true ∧ b = true := by cases wh <;> cases b <;> simp [wcode] at h ⊢
attribute [irreducible] wcode
theorem okOne (s : Int) (n : Nat) (P R : Nat → Int) (E : Nat → Nat) : okAll s n P R 1 (fun _ => E) = (vFrame s n P R && vDrum s n E) := by
  rw [Bool.eq_iff_iff, okAll_iff, Bool.and_eq_true]
  exact ⟨fun h => ⟨h.1, h.2 0 (by decide)⟩, fun h => ⟨h.1, fun _ _ => h.2⟩⟩
theorem firstL_wh (s : Int) (n : Nat) (P R : Nat → Int) (D : Nat → Nat) (m : Nat) (F S O : Nat → Int) (x : Bool) : firstL [unl (okAll s n P R 1 (fun _ => D)) 1, pcode (vProg s n P R m F S O) x] = wcode (whB s n P R D m F S O) x := by
  rw [okOne]
  cases hv : vProg s n P R m F S O
  · rw [whB_p hv, wcode_f, pcode_f]
    cases vFrame s n P R && vDrum s n D
    · rw [unl_false, firstL_at _ (by decide)]
    · rw [unl_true, firstL_zero _ rfl, firstL_at _ (by decide)]
  · rw [whB_d hv, (vProg_iff.1 hv).1, Bool.true_and]
    cases vDrum s n D
    · rw [unl_false, firstL_at _ (by decide), wcode_f]
    · rw [unl_true, firstL_zero _ rfl]
      cases x
      · rw [pcode_tf, wcode_tf, firstL_at _ (by decide)]
      · rw [pcode_tt, wcode_tt, firstL_zero _ rfl, firstL_nil]
/-- SectionTune -/
def smV (s : Int) (n : Nat) (P R : Nat → Int) (D : Nat → Nat) (m : Nat) (F S O : Nat → Int) (x : Int) : List (Int × Int) := if wcode (whB s n P R D m F S O) (inB x 0 ((m : Int) - 1)) = 0 then sxT (sxL s n P F S D x) else []
def smC (s : Int) (n : Nat) (P R : Nat → Int) (D : Nat → Nat) (m : Nat) (F S O : Nat → Int) (x : Int) : Int := if wcode (whB s n P R D m F S O) (inB x 0 ((m : Int) - 1)) = 0 then sxC (sxL s n P F S D x) else wcode (whB s n P R D m F S O) (inB x 0 ((m : Int) - 1))
/-- ChimeAt -/
def caV (s : Int) (n : Nat) (P R : Nat → Int) (D : Nat → Nat) (m : Nat) (F S O : Nat → Int) (q : Int) : List (Int × Int) := if wcode (whB s n P R D m F S O) (inB q 0 47) = 0 then sxT (sxL s n P F S D (O q.toNat)) else []
def caC (s : Int) (n : Nat) (P R : Nat → Int) (D : Nat → Nat) (m : Nat) (F S O : Nat → Int) (q : Int) : Int := if wcode (whB s n P R D m F S O) (inB q 0 47) = 0 then sxC (sxL s n P F S D (O q.toNat)) else wcode (whB s n P R D m F S O) (inB q 0 47)
section
variable {s : Int} {n : Nat} {P R : Nat → Int} {D : Nat → Nat} {m : Nat} {F S O : Nat → Int} {x z : Int}
theorem sm_no (h : wcode (whB s n P R D m F S O) (inB x 0 ((m : Int) - 1)) = z) (hz : ¬ z = 0) : smV s n P R D m F S O x = [] ∧ smC s n P R D m F S O x = z := by subst h; exact ⟨if_neg hz, if_neg hz⟩
theorem sm_yes (h : wcode (whB s n P R D m F S O) (inB x 0 ((m : Int) - 1)) = 0) : smV s n P R D m F S O x = sxT (sxL s n P F S D x) ∧ smC s n P R D m F S O x = sxC (sxL s n P F S D x) := ⟨if_pos h, if_pos h⟩
theorem ca_no (h : wcode (whB s n P R D m F S O) (inB x 0 47) = z) (hz : ¬ z = 0) : caV s n P R D m F S O x = [] ∧ caC s n P R D m F S O x = z := by subst h; exact ⟨if_neg hz, if_neg hz⟩
theorem ca_yes (h : wcode (whB s n P R D m F S O) (inB x 0 47) = 0) : caV s n P R D m F S O x = sxT (sxL s n P F S D (O x.toNat)) ∧ caC s n P R D m F S O x = sxC (sxL s n P F S D (O x.toNat)) := ⟨if_pos h, if_pos h⟩
theorem smV_len : (smV s n P R D m F S O x).length ≤ 1000000 := by
  unfold smV
  split
  · exact sxT_len _
  · simp
theorem caV_len : (caV s n P R D m F S O x).length ≤ 1000000 := by
  unfold caV
  split
  · exact sxT_len _
  · simp
/-- what a valid programme and drum tell -/
theorem wh_facts (h : whB s n P R D m F S O = true) : (2 ≤ s ∧ s ≤ 96) ∧ (1 ≤ n ∧ n ≤ 24) ∧ (∀ t, t < n → 0 ≤ P t ∧ P t ≤ 47) ∧ m ≤ 12 ∧ (∀ k, k < m → 0 ≤ F k ∧ F k < s ∧ 1 ≤ S k ∧ F k + S k ≤ s) ∧ ∀ k, k < 48 → -1 ≤ O k ∧ O k ≤ (m : Int) - 1 := by
  obtain ⟨h1, h2⟩ := whB_iff.1 h
  obtain ⟨h3, h4, h5, h6⟩ := vProg_facts h1
  obtain ⟨_, h7, h8⟩ := vFrame_iff.1 (vProg_iff.1 h1).1
  exact ⟨h3, h7, fun t ht => by have := hamOK_iff.1 (h8 t ht); omega, h4, h5, h6⟩
end
attribute [irreducible] smV smC caV caC
set_option maxRecDepth 100000 in
theorem l04Whole_any (gf gd gp : Nat) (s : Int) (a : Option Addr) (n c : Nat) (P R : Nat → Int) (D : Nat → Nat) (b : Option Addr) (m d : Nat) (F S O : Nat → Int) (w : World) (hs : -32768 ≤ s ∧ s ≤ 32767) (hn : n ≤ 1048576) (hP : I8 P) (hR : I8 R) (hh : HamAt w a n P R) (hD : D32 D) (hm : m ≤ 1048576) (hF : I16 F) (hS : I16 S) (hO : I8 O) (hl : SecAt w b m F S)
    (hf : w.heap[gf]? = some (.cells #[.int .i16 s, .slice a n c] 36 (0, 0))) (hd : DrumAt w 41 gd D) (hp : w.heap[gp]? = some (.cells (pc b m d O) 60 (0, 0))) :
    Calls Tryz.prog 43 #[.pointer (some ⟨gf, 0, none⟩), .pointer (some ⟨gd, 0, none⟩), .pointer (some ⟨gp, 0, none⟩)] w fun e w' => e = .returned (.int .i64 (unl (whB s n P R D m F S O) 1)) ∧ Below w.heap.size w w' := by
  have hcon := l04Ok_any gf gp s a n c P R b m d F S O w hs hn hP hR hf hh hm hF hS hO hp hl
  have KF0 := kp_row hf; have KD0 := kp_drum hd; have KB := Kp.base w
  clear hf hd hp hh hl
  go_enter Tryz.func43, Tryz.ntmps43
  cases hv : vProg s n P R m F S O
  · rw [hv] at hcon
    have HW := Lib.hid (whB_p (D := D) hv)
    clear hv
    go_wp2_with (go_at_call 88; refine hcon.mono ?_; rintro e w2 ⟨rfl, hb2⟩; have HB2 := Lib.hid hb2; clear hb2 hcon)
    go_ret
    exact ⟨by rw [HW.out, unl_false]; rfl, HB2.out⟩
  · rw [hv] at hcon
    have HW := Lib.hid (whB_d (D := D) hv)
    obtain ⟨hs2, _⟩ := vProg_facts hv
    have hn2 := (vFrame_iff.1 (vProg_iff.1 hv).1).2.1
    clear hv
    cases hvd : vDrum s n D
    all_goals
      have HVD := Lib.hid hvd
      go_wp2_with (first | (go_at_call 88; refine hcon.mono ?_; rintro e w2 ⟨rfl, hb2⟩; have HB2 := Lib.hid hb2; have hcd := l02Drum_any gf gd s a n c D w2 (by omega) hs2.1 hs2.2 (row_cell 0 (KF0.at hb2)) (row_cell 1 (KF0.at hb2)) (DrumAt.cells (KD0.at hb2)); rw [hvd] at hcd; clear hb2 hcon hvd) | (go_at_call 70; refine hcd.mono ?_; rintro e w3 ⟨rfl, q, rfl⟩; clear hcd))
      go_ret
      exact ⟨by rw [HW.out, HVD.out]; first | (rw [unl_false]; rfl) | (rw [unl_true]; rfl), below_drewN HB2.out _⟩
set_option maxRecDepth 100000 in
theorem specSectionTune_any (s : Int) (a : Option Addr) (n c : Nat) (P R : Nat → Int) (D : Nat → Nat) (b : Option Addr) (m d : Nat) (F S O : Nat → Int) (x : Int) (w : World) (hs : -32768 ≤ s ∧ s ≤ 32767) (hn : n ≤ 1048576) (hP : I8 P) (hR : I8 R) (hh : HamAt w a n P R) (hD : D32 D) (hm : m ≤ 1048576) (hF : I16 F) (hS : I16 S) (hO : I8 O) (hl : SecAt w b m F S) (hx : -9223372036854775808 ≤ x ∧ x ≤ 9223372036854775807) :
    Calls Tryz.prog 22 #[.agg #[.int .i16 s, .slice a n c], .agg (dc D), .agg (pc b m d O), .int .i64 x] w fun e w' => ∃ v, e = .returned (.tuple #[v, .int .i64 (smC s n P R D m F S O x)]) ∧ Below w.heap.size w w' ∧ OwnN w' w.heap.size v (smV s n P R D m F S O x) := by
  have HP := Lib.hid hP; have HR := Lib.hid hR; have HD := Lib.hid hD; have HF := Lib.hid hF; have HS := Lib.hid hS; have HO := Lib.hid hO
  clear hP hR hD hF hS hO
  have KB := Kp.base w
  have KH := kp_ham hh; have KL := kp_sec hl; clear hh hl
  replace KB := KB.alloc (.cells #[.int .i16 s, .slice a n c] 36)
  replace KH := KH.alloc (.cells #[.int .i16 s, .slice a n c] 36)
  replace KL := KL.alloc (.cells #[.int .i16 s, .slice a n c] 36)
  have KF := kp_new1 w #[.int .i16 s, .slice a n c] 36 (g := w.heap.size) (by simp)
  replace KB := KB.alloc (.cells (dc D) 41)
  replace KH := KH.alloc (.cells (dc D) 41)
  replace KL := KL.alloc (.cells (dc D) 41)
  replace KF := KF.alloc (.cells (dc D) 41)
  have KD := kp_newd (w.alloc (.cells #[.int .i16 s, .slice a n c] 36)) (D) 41 (g := w.heap.size + 1) (by simp)
  replace KB := KB.alloc (.cells (pc b m d O) 60)
  replace KH := KH.alloc (.cells (pc b m d O) 60)
  replace KL := KL.alloc (.cells (pc b m d O) 60)
  replace KF := KF.alloc (.cells (pc b m d O) 60)
  replace KD := KD.alloc (.cells (pc b m d O) 60)
  have KP := kp_new1 ((w.alloc (.cells #[.int .i16 s, .slice a n c] 36)).alloc (.cells (dc D) 41)) (pc b m d O) 60 (g := w.heap.size + 1 + 1) (by simp)
  have HZ := Lib.hid (show (((w.alloc (.cells #[.int .i16 s, .slice a n c] 36)).alloc (.cells (dc D) 41)).alloc (.cells (pc b m d O) 60)).heap.size = w.heap.size + 1 + 1 + 1 by simp)
  go_enter Tryz.func22, Tryz.ntmps22
  go_wp2_with fail
  generalize (((w.alloc (.cells #[.int .i16 s, .slice a n c] 36)).alloc (.cells (dc D) 41)).alloc (.cells (pc b m d O) 60)) = W at KB KH KL KF KD KP HZ ⊢
  clear HZ
  refine (l04Whole_any w.heap.size (w.heap.size + 1) (w.heap.size + 1 + 1) s a n c P R D b m d F S O W hs hn HP.out HR.out KH.here HD.out hm HF.out HS.out HO.out KL.here KF.here KD.here KP.here).mono ?_
  rintro e w1 ⟨rfl, hb1⟩
  replace KB := KB.on hb1
  replace KH := KH.on hb1
  replace KL := KL.on hb1
  replace KF := KF.on hb1
  replace KD := KD.on hb1
  replace KP := KP.on hb1
  clear hb1
  have hsz := KB.here.size
  have p0 := row_cell 0 KP.here
  rw [pc_get0] at p0
  have q3 := i64_id (x := (m : Int) - 1) (by omega)
  cases hv : whB s n P R D m F S O
  · have hcd := wcode_f (inB x 0 ((m : Int) - 1))
    rw [← hv] at hcd
    have hno := Lib.hid (sm_no hcd (by decide))
    have hon := Lib.hid (OwnL.nil (T := 75) (sz := 2) (enc := encN) w1 w.heap.size hsz)
    clear hcd hv
    rw [unl_false]
    have hbe := (KB.alloc (.cells #[] 75)).here
    go_wp2
    refine bodyPost_ret (v := .tuple #[.slice (some ⟨w1.heap.size, 0, none⟩) 0 0, .int .i64 1]) (by simp [results, Tryz.results22, go_sem]) rfl ⟨_, by rw [hno.out.2], hbe, by rw [hno.out.1]; exact hon.out⟩
  · rw [unl_true]
    by_cases h2 : 0 ≤ x ∧ x ≤ (m : Int) - 1
    · have h2' := inB_true h2
      have hcd : wcode (whB s n P R D m F S O) (inB x 0 ((m : Int) - 1)) = 0 := by rw [hv, h2', wcode_tt]
      have hyes := sm_yes hcd
      obtain ⟨hs2, hn2, hp47, hm2, hsec, _⟩ := wh_facts hv
      clear hcd hv
      obtain ⟨k, rfl⟩ : ∃ k : Nat, x = k := ⟨x.toNat, by omega⟩
      have hk : k < m := by omega
      have hk' : (k : Int) < m := by omega
      have hfk := hsec k hk
      rw [sxL_yes, sec_same (by omega) hfk.1 (by omega) hfk.2.2.2] at hyes
      have hlen : (srtN (ntL P 0 (plL (fun i t => hasPin D ((F k).toNat + i) t) n ((S k).toNat * n)))).length ≤ 100000 := by rw [← sec_same (s := s) (by omega) hfk.1 (by omega) hfk.2.2.2]; have := sec_len (s := s) (n := n) (P := P) (D := D) (F := F k) (S := S k) hs2.2 hn2.2; omega
      have HY := Lib.hid hyes; have HLEN := Lib.hid hlen; clear hyes hlen hsec hp47
      obtain ⟨g, off, rfl, hg, hc⟩ := SecAt.get KL.here (show 0 < m by omega)
      have c0 := (hc k hk).1
      have c1 := (hc k hk).2
      clear hc
      obtain ⟨sn, rfl⟩ : ∃ f : Nat, s = f := ⟨s.toNat, by omega⟩
      have hst := l04Section_any w.heap.size (w.heap.size + 1) 36 41 sn a n c P R D (F k) (S k) w1 (by omega) hn2 HD.out HP.out hfk.1 (by omega) hfk.2.2.2 KF.here KD.here KH.here
      obtain ⟨L, hL⟩ : ∃ L, srtN (ntL P 0 (plL (fun i t => hasPin D ((F k).toNat + i) t) n ((S k).toNat * n))) = L := ⟨_, rfl⟩
      rw [hL] at hst HY HLEN
      have HST := Lib.hid hst
      clear hst hL
      go_wp2_with (first | (go_at_call 44; refine (l00In_any _ _ _ _).mono ?_; rintro e w2 ⟨rfl, rfl⟩) | (go_at_call 46; refine HST.out.mono ?_; rintro e w2 ⟨v2, rfl, hb2, ho2⟩; have HB2 := Lib.hid (KB.at hb2); have HO2 := Lib.hid (OwnN.mono ho2 hsz); clear hb2 ho2) | (go_at_call 45; refine (l04Made_any w.heap.size _ L _ HLEN.out HB2.out.size HO2.out).mono ?_; rintro e w3 ⟨v3, rfl, hb3, ho3⟩; have HB3 := Lib.hid (HB2.out.trans (hb3.mono HB2.out.size)); have HO3 := Lib.hid ho3; clear hb3 ho3))
      refine bodyPost_ret (v := .tuple #[v3, .int .i64 (sxC L)]) (by simp [results, Tryz.results22, go_sem]) rfl ⟨v3, by rw [HY.out.2], HB3.out, by rw [HY.out.1]; exact HO3.out⟩
    · have h2' := inB_false h2
      have hcd : wcode (whB s n P R D m F S O) (inB x 0 ((m : Int) - 1)) = 2 := by rw [hv, h2', wcode_tf]
      have hno := Lib.hid (sm_no hcd (by decide))
      have hon := Lib.hid (OwnL.nil (T := 75) (sz := 2) (enc := encN) w1 w.heap.size hsz)
      clear hcd hv
      have hbe := (KB.alloc (.cells #[] 75)).here
      go_wp2_with (go_at_call 44; refine (l00In_any _ _ _ _).mono ?_; rintro e w2 ⟨rfl, rfl⟩)
      refine bodyPost_ret (v := .tuple #[.slice (some ⟨w1.heap.size, 0, none⟩) 0 0, .int .i64 2]) (by simp [results, Tryz.results22, go_sem]) rfl ⟨_, by rw [hno.out.2], hbe, by rw [hno.out.1]; exact hon.out⟩
theorem I16_list {l : List (Int × Int)} (h : ∀ z ∈ l, noteB z.1 z.2 = true) : I16 (fun i => (l.getD i (0, 0)).1) ∧ I8 (fun i => (l.getD i (0, 0)).2) := by
  have hx : ∀ i, (l.getD i (0, 0) = (0, 0)) ∨ noteB (l.getD i (0, 0)).1 (l.getD i (0, 0)).2 = true := by
    intro i
    by_cases hi : i < l.length
    · right; rw [getD_at hi]; exact h _ (List.getElem_mem hi)
    · left; simp [List.getD, List.getElem?_eq_none (by omega : l.length ≤ i)]
  constructor <;> intro i <;> rcases hx i with e | e
  · simp only [e]; omega
  · have := noteB_iff.1 e; simp only; omega
  · simp only [e]; omega
  · have := noteB_iff.1 e; simp only; omega
set_option maxRecDepth 100000 in
set_option maxHeartbeats 1000000 in
theorem sectionTune_any (s : Int) (a : Option Addr) (n c : Nat) (P R : Nat → Int) (D : Nat → Nat) (b : Option Addr) (m d : Nat) (F S O : Nat → Int) (x : Int) (w : World) (hs2 : 2 ≤ s ∧ s ≤ 96) (hn2 : 1 ≤ n ∧ n ≤ 24) (hp47 : ∀ t, t < n → 0 ≤ P t ∧ P t ≤ 47) (hm2 : m ≤ 12)
    (hsec : ∀ k, k < m → 0 ≤ F k ∧ F k < s ∧ 1 ≤ S k ∧ F k + S k ≤ s) (hx : -1 ≤ x ∧ x ≤ (m : Int) - 1) (hP : I8 P) (hh : HamAt w a n P R) (hD : D32 D) (hO : I8 O) (hl : SecAt w b m F S) :
    Calls Tryz.prog 52 #[.agg #[.int .i16 s, .slice a n c], .agg (dc D), .agg (pc b m d O), .int .i64 x] w fun e w' => ∃ v, e = .returned (.tuple #[v, .int .i64 (sxC (sxL s n P F S D x))]) ∧ Below w.heap.size w w' ∧ OwnN w' w.heap.size v (sxT (sxL s n P F S D x)) := by
  have HP := Lib.hid hP; have HD := Lib.hid hD; have HO := Lib.hid hO; have H47 := Lib.hid hp47
  clear hP hD hO hp47
  have KB := Kp.base w
  have KH := kp_ham hh; have KL := kp_sec hl; clear hh hl
  replace KB := KB.alloc (.cells #[.int .i16 s, .slice a n c] 36)
  replace KH := KH.alloc (.cells #[.int .i16 s, .slice a n c] 36)
  replace KL := KL.alloc (.cells #[.int .i16 s, .slice a n c] 36)
  have KF := kp_new1 w #[.int .i16 s, .slice a n c] 36 (g := w.heap.size) (by simp)
  replace KB := KB.alloc (.cells (dc D) 41)
  replace KH := KH.alloc (.cells (dc D) 41)
  replace KL := KL.alloc (.cells (dc D) 41)
  replace KF := KF.alloc (.cells (dc D) 41)
  have KD := kp_newd (w.alloc (.cells #[.int .i16 s, .slice a n c] 36)) (D) 41 (g := w.heap.size + 1) (by simp)
  replace KB := KB.alloc (.cells (pc b m d O) 60)
  replace KH := KH.alloc (.cells (pc b m d O) 60)
  replace KL := KL.alloc (.cells (pc b m d O) 60)
  replace KF := KF.alloc (.cells (pc b m d O) 60)
  replace KD := KD.alloc (.cells (pc b m d O) 60)
  have KP := kp_new1 ((w.alloc (.cells #[.int .i16 s, .slice a n c] 36)).alloc (.cells (dc D) 41)) (pc b m d O) 60 (g := w.heap.size + 1 + 1) (by simp)
  have HZ := Lib.hid (show (((w.alloc (.cells #[.int .i16 s, .slice a n c] 36)).alloc (.cells (dc D) 41)).alloc (.cells (pc b m d O) 60)).heap.size = w.heap.size + 1 + 1 + 1 by simp)
  go_enter Tryz.func52, Tryz.ntmps52
  by_cases h0 : x < 0
  · have HX := Lib.hid (sxL_no (s := s) (n := n) (P := P) (F := F) (S := S) (D := D) h0)
    have HS := Lib.hid (sx_yes (l := []) (by simp))
    have hsz := KB.here.size
    have hon := Lib.hid (OwnL.nil (T := 75) (sz := 2) (enc := encN) (((w.alloc (.cells #[.int .i16 s, .slice a n c] 36)).alloc (.cells (dc D) 41)).alloc (.cells (pc b m d O) 60)) w.heap.size hsz)
    rw [show (((w.alloc (.cells #[.int .i16 s, .slice a n c] 36)).alloc (.cells (dc D) 41)).alloc (.cells (pc b m d O) 60)).heap.size = w.heap.size + 1 + 1 + 1 by simp] at hon
    have HBE := Lib.hid (KB.alloc (.cells #[] 75)).here
    go_wp2
    refine bodyPost_ret (v := .tuple #[.slice (some ⟨w.heap.size + 1 + 1 + 1, 0, none⟩) 0 0, .int .i64 0]) (by simp [results, Tryz.results52, go_sem]) rfl ⟨_, by rw [HX.out, HS.out.2], HBE.out, by rw [HX.out, HS.out.1]; exact hon.out⟩
  · obtain ⟨k, rfl⟩ : ∃ k : Nat, x = k := ⟨x.toNat, by omega⟩
    have hk : k < m := by omega
    have hk' : (k : Int) < m := by omega
    have hfk := hsec k hk
    have HXL := Lib.hid (sxL_yes s n P F S D k)
    have hnt := sec_notes (s := s) (n := n) (P := P) (D := D) (F := F k) (S := S k) hs2.2 (by omega) hfk.1 H47.out
    have hlen := sec_len (s := s) (n := n) (P := P) (D := D) (F := F k) (S := S k) hs2.2 hn2.2
    have hstr := srtN_str (ntL P (F k) (plL (plP D (F k) (S k)) n (s.toNat * n)))
    obtain ⟨sn, rfl⟩ : ∃ f : Nat, s = f := ⟨s.toNat, by omega⟩
    rw [Int.toNat_natCast] at hnt hlen hstr
    have hvt := vTune_str hstr hnt
    have hI := I16_list hnt
    have HLEN := Lib.hid hlen; have HVT := Lib.hid hvt; have HI := Lib.hid hI
    clear hnt hlen hstr hvt hI h0 hsec
    obtain ⟨g, off, rfl, hg, hc⟩ := SecAt.get KL.here (show 0 < m by omega)
    have c0 := (hc k hk).1
    have c1 := (hc k hk).2
    have p0 := row_cell 0 KP.here
    rw [pc_get0] at p0
    have q1 := i64_id (x := F k) (by omega)
    have q2 := i64_id (x := S k) (by omega)
    clear hc HZ
    replace KB := KB.alloc (.cells #[.int .i16 (F k), .int .i16 (S k)] 90); replace KF := KF.alloc (.cells #[.int .i16 (F k), .int .i16 (S k)] 90); replace KD := KD.alloc (.cells #[.int .i16 (F k), .int .i16 (S k)] 90); replace KH := KH.alloc (.cells #[.int .i16 (F k), .int .i16 (S k)] 90)
    have hsz := KB.here.size
    have hpl := played_any sn a n c P R D (F k) (S k) _ (by omega) hn2 HD.out HP.out (by omega) (by omega) KH.here
    rw [Int.toNat_natCast] at HXL
    obtain ⟨L, hL⟩ : ∃ L, srtN (ntL P (F k) (plL (plP D (F k) (S k)) n (sn * n))) = L := ⟨_, rfl⟩
    rw [hL] at hpl HXL HLEN HVT HI
    have HPL := Lib.hid hpl
    clear hpl hL
    go_wp2_with (first | (with_reducible refine load_iframe rfl _ rfl w.heap.size rfl _ (sn : Int) a n c KF.here ?_) | (with_reducible refine load_drum rfl _ rfl (w.heap.size + 1) rfl _ D KD.here ?_) | fail)
    refine HPL.out.mono ?_
    rintro e w2 ⟨v2, rfl, hb2, ho2⟩
    obtain ⟨b2, c2, rfl⟩ := OwnL.form ho2
    have hbb := KB.at hb2
    have HB2 := Lib.hid hbb; have HO2 := Lib.hid (OwnN.mono ho2 hsz)
    clear hb2 ho2 hbb
    by_cases hl : L.length ≤ 120
    · have hvt := HVT.out
      rw [decide_eq_true (by omega : (L.length : Int) ≤ 120)] at hvt
      have hck := checked_yes b2 L.length c2 _ _ 3 w2 (by omega) HI.out.1 HI.out.2 (OwnN.readAt HO2.out) hvt
      have HCK := Lib.hid hck; have HS := Lib.hid (sx_yes hl)
      clear hvt hck
      go_wp2_with (go_at_call 66; refine HCK.out.mono ?_; rintro e w3 ⟨rfl, hb3⟩; have HB3 := Lib.hid hb3; clear hb3)
      refine bodyPost_ret (v := .tuple #[.slice b2 L.length c2, .int .i64 0]) (by simp [results, Tryz.results52, go_sem]) rfl ⟨.slice b2 L.length c2, by rw [HXL.out, HS.out.2], HB2.out.trans (HB3.out.mono HB2.out.size), by rw [HXL.out, HS.out.1]; exact OwnN.below HO2.out HB3.out⟩
    · have hvt := HVT.out
      rw [decide_eq_false (by omega : ¬ (L.length : Int) ≤ 120)] at hvt
      have hll := HLEN.out
      have hck := checked_no b2 L.length c2 _ _ 3 w2 (by omega) HI.out.1 HI.out.2 (OwnN.readAt HO2.out) hvt
      have HCK := Lib.hid hck; have HS := Lib.hid (sx_no hl)
      clear hvt hck
      go_wp2_with (go_at_call 66; refine HCK.out.mono ?_; rintro e w3 ⟨rfl, hb3⟩; have HB3 := Lib.hid hb3; clear hb3)
      refine bodyPost_ret (v := .tuple #[.slice none 0 0, .int .i64 3]) (by simp [results, Tryz.results52, go_sem]) rfl ⟨.slice none 0 0, by rw [HXL.out, HS.out.2], HB2.out.trans (HB3.out.mono HB2.out.size), by rw [HXL.out, HS.out.1]; exact OwnL.none0 _ _⟩
theorem drumsOne {w : World} {T g : Nat} {E : Nat → Nat} (h : DrumAt w T g E) : DrumsAt w (some ⟨g, 0, none⟩) 1 (fun _ => E) := fun _ =>
  ⟨g, 0, rfl, DrumAt.lt h, fun i hi => by obtain rfl : i = 0 := by omega
                                          exact DrumAt.cells h⟩
set_option maxRecDepth 100000 in
set_option maxHeartbeats 2000000 in
theorem implSectionTune_any (s : Int) (a : Option Addr) (n c : Nat) (P R : Nat → Int) (D : Nat → Nat) (b : Option Addr) (m d : Nat) (F S O : Nat → Int) (x : Int) (w : World) (hs : -32768 ≤ s ∧ s ≤ 32767) (hn : n ≤ 1048576) (hP : I8 P) (hR : I8 R) (hh : HamAt w a n P R) (hD : D32 D) (hm : m ≤ 1048576) (hF : I16 F) (hS : I16 S) (hO : I8 O) (hl : SecAt w b m F S) (hx : -9223372036854775808 ≤ x ∧ x ≤ 9223372036854775807) :
    Calls Tryz.prog 24 #[.agg #[.int .i16 s, .slice a n c], .agg (dc D), .agg (pc b m d O), .int .i64 x] w fun e w' => ∃ v, e = .returned (.tuple #[v, .int .i64 (smC s n P R D m F S O x)]) ∧ Below w.heap.size w w' ∧ OwnN w' w.heap.size v (smV s n P R D m F S O x) := by
  have HP := Lib.hid hP; have HR := Lib.hid hR; have HD := Lib.hid hD; have HF := Lib.hid hF; have HS := Lib.hid hS; have HO := Lib.hid hO
  clear hP hR hD hF hS hO
  have KB := Kp.base w
  have KH := kp_ham hh; have KL := kp_sec hl; clear hh hl
  replace KB := KB.alloc (.cells #[.int .i16 s, .slice a n c] 36)
  replace KH := KH.alloc (.cells #[.int .i16 s, .slice a n c] 36)
  replace KL := KL.alloc (.cells #[.int .i16 s, .slice a n c] 36)
  have KF := kp_new1 w #[.int .i16 s, .slice a n c] 36 (g := w.heap.size) (by simp)
  replace KB := KB.alloc (.cells (dc D) 41)
  replace KH := KH.alloc (.cells (dc D) 41)
  replace KL := KL.alloc (.cells (dc D) 41)
  replace KF := KF.alloc (.cells (dc D) 41)
  have KD := kp_newd (w.alloc (.cells #[.int .i16 s, .slice a n c] 36)) (D) 41 (g := w.heap.size + 1) (by simp)
  replace KB := KB.alloc (.cells (pc b m d O) 60)
  replace KH := KH.alloc (.cells (pc b m d O) 60)
  replace KL := KL.alloc (.cells (pc b m d O) 60)
  replace KF := KF.alloc (.cells (pc b m d O) 60)
  replace KD := KD.alloc (.cells (pc b m d O) 60)
  have KP := kp_new1 ((w.alloc (.cells #[.int .i16 s, .slice a n c] 36)).alloc (.cells (dc D) 41)) (pc b m d O) 60 (g := w.heap.size + 1 + 1) (by simp)
  have HZ := Lib.hid (show (((w.alloc (.cells #[.int .i16 s, .slice a n c] 36)).alloc (.cells (dc D) 41)).alloc (.cells (pc b m d O) 60)).heap.size = w.heap.size + 1 + 1 + 1 by simp)
  go_enter Tryz.func24, Tryz.ntmps24
  go_wp2
  generalize (((w.alloc (.cells #[.int .i16 s, .slice a n c] 36)).alloc (.cells (dc D) 41)).alloc (.cells (pc b m d O) 60)) = W at KB KH KL KF KD KP HZ ⊢
  have hS0 := below_drew W
  have HSZ := Lib.hid KB.here.size
  obtain ⟨z0, hz0⟩ : ∃ y, unl (okAll s n P R 1 (fun _ => D)) 1 = y := ⟨_, rfl⟩
  refine wp_region_S (fun V => Below W.heap.size W V) (by kernel_rfl) hS0 ?_
  refine take_val 0 (.agg #[.int .i16 s, .slice a n c]) rfl (by kernel_rfl) (by kernel_rfl) (by kernel_rfl) (fun _ _ _ h => h) rfl (fun V hV => ex_load_iframe _ rfl w.heap.size rfl _ s a n c (KF.at hV)) hS0 ?_
  simp only [List.getElem_toArray, List.getElem_cons_zero, List.getElem_cons_succ, Act.put, List.setIfInBounds_toArray, List.set_cons_zero, List.set_cons_succ]
  refine take_val 1 (.agg (dc D)) rfl (by kernel_rfl) (by kernel_rfl) (by kernel_rfl) (fun _ _ _ h => h) rfl (fun V hV => ex_load_drum _ rfl (w.heap.size + 1) rfl _ D (KD.at hV)) hS0 ?_
  simp only [List.getElem_toArray, List.getElem_cons_zero, List.getElem_cons_succ, Act.put, List.setIfInBounds_toArray, List.set_cons_zero, List.set_cons_succ]
  refine take_val 4 (.agg #[.int .i16 s, .slice a n c]) rfl (by kernel_rfl) (by kernel_rfl) (by kernel_rfl) (fun _ _ _ h => h) rfl (fun V hV => ex_load_iframe _ rfl w.heap.size rfl _ s a n c (KF.at hV)) hS0 ?_
  simp only [List.getElem_toArray, List.getElem_cons_zero, List.getElem_cons_succ, Act.put, List.setIfInBounds_toArray, List.set_cons_zero, List.set_cons_succ]
  refine take_val 5 (.agg (pc b m d O)) rfl (by kernel_rfl) (by kernel_rfl) (by kernel_rfl) (fun _ _ _ h => h) rfl (fun V hV => ex_load_iprog _ rfl (w.heap.size + 1 + 1) rfl _ b m d O (KP.at hV)) hS0 ?_
  simp only [List.getElem_toArray, List.getElem_cons_zero, List.getElem_cons_succ, Act.put, List.setIfInBounds_toArray, List.set_cons_zero, List.set_cons_succ]
  refine take_val 6 (.int .i64 x) rfl (by kernel_rfl) (by kernel_rfl) (by kernel_rfl) (fun _ _ _ h => h) rfl (fun V hV => by simp [go_sem]) hS0 ?_
  simp only [List.getElem_toArray, List.getElem_cons_zero, List.getElem_cons_succ, Act.put, List.setIfInBounds_toArray, List.set_cons_zero, List.set_cons_succ]
  have hSa := hS0.alloc hS0.size (.cells (dc D) 41)
  have hSb := hS0.alloc hS0.size (.cells #[.int .i64 x] 2)
  have hdc := fun (V : World) (g : Nat) (hb : Below W.heap.size W V) (hg : DrumAt V 41 g D) => (drumCode_any s a n c P R (some ⟨g, 0, none⟩) 1 1 (fun _ => D) V (by omega) (by omega) hs HP.out HR.out (KH.at hb) (drumsOne hg))
  rw [hz0] at hdc
  have HDC := Lib.hid hdc; have HZ0 := Lib.hid hz0; clear hdc hz0
  refine' cut_with (A := ∀ (V : World) (dg ig : Nat), Below W.heap.size W V → IntAt V (some ⟨ig, 0, none⟩) 1 (fun _ => x) → (_ : World → Nat → Nat → Prop) V dg ig) (fun hcont => ?_) ?_
  rotate_left
  · obtain ⟨dg0, hdg0⟩ : ∃ y, W.drew.heap.size = y := ⟨_, rfl⟩
    refine step_two2 2 7 (.slice (some ⟨dg0, 0, none⟩) 1 1) (.slice (some ⟨W.heap.size, 0, none⟩) 1 1) (W.drew.alloc (.cells (dc D) 41)) (W.drew.alloc (.cells #[.int .i64 x] 2)) (by kernel_rfl) rfl rfl rfl rfl (by rw [← hdg0]; exact ex_build1 _ rfl D rfl) (by simp [go_sem]) hSa hSb ?_ ?_
    · --
      simp only [List.getElem_toArray, List.getElem_cons_zero, List.getElem_cons_succ, Act.put, List.setIfInBounds_toArray, List.set_cons_zero, List.set_cons_succ]
      refine step_call_or 3 7 50 #[.agg #[.int .i16 s, .slice a n c], .slice (some ⟨dg0, 0, none⟩) 1 1] (.slice (some ⟨(W.drew.alloc (.cells (dc D) 41)).heap.size, 0, none⟩) 1 1) ((W.drew.alloc (.cells (dc D) 41)).alloc (.cells #[.int .i64 x] 2)) (by kernel_rfl) rfl rfl rfl rfl (by simp [go_sem]) (by simp [go_sem]) (hSa.alloc hSa.size _) ?_ ?_
      · refine (HDC.out _ dg0 hSa (by have h := heap_alloc_new W.drew (.cells (dc D) 41); rw [hdg0] at h; exact h)).mono ?_
        rintro e V1 ⟨rfl, hb1⟩
        have hS1 := hSa.trans (hb1.mono hSa.size)
        refine ⟨_, rfl, hS1, ?_⟩
        simp only [List.getElem_toArray, List.getElem_cons_zero, List.getElem_cons_succ, Act.put, List.setIfInBounds_toArray, List.set_cons_zero, List.set_cons_succ]
        refine step_val 7 (.slice (some ⟨V1.heap.size, 0, none⟩) 1 1) (V1.alloc (.cells #[.int .i64 x] 2)) (by kernel_rfl) rfl rfl (by simp [go_sem]) (hS1.alloc hS1.size _) ?_
        simp only [List.getElem_toArray, List.getElem_cons_zero, List.getElem_cons_succ, Act.put, List.setIfInBounds_toArray, List.set_cons_zero, List.set_cons_succ]
        have hS2 := hS1.alloc hS1.size (.cells #[.int .i64 x] 2)
        have hi := IntAt.one V1 x 2 (fun _ => x) rfl
        generalize V1.alloc (.cells #[.int .i64 x] 2) = V at hS2 hi ⊢
        generalize V1.heap.size = ig at hi ⊢
        exact hcont V dg0 ig hS2 hi
      · --
        simp only [List.getElem_toArray, List.getElem_cons_zero, List.getElem_cons_succ, Act.put, List.setIfInBounds_toArray, List.set_cons_zero, List.set_cons_succ]
        have hi0 := IntAt.one (W.drew.alloc (.cells (dc D) 41)) x 2 (fun _ => x) rfl
        have hSc := hSa.alloc hSa.size (.cells #[.int .i64 x] 2)
        refine step_call 3 50 #[.agg #[.int .i16 s, .slice a n c], .slice (some ⟨dg0, 0, none⟩) 1 1] (by kernel_rfl) rfl rfl (by simp [go_sem]) ?_
        refine (HDC.out _ dg0 hSc (by have h := heap_alloc_new W.drew (.cells (dc D) 41); rw [hdg0] at h; exact (heap_alloc_old _ _ (by rw [← hdg0]; simp)).trans h)).mono ?_
        rintro e V1 ⟨rfl, hb1⟩
        have hS1 := hSc.trans (hb1.mono hSc.size)
        refine ⟨_, rfl, hS1, ?_⟩
        simp only [List.getElem_toArray, List.getElem_cons_zero, List.getElem_cons_succ, Act.put, List.setIfInBounds_toArray, List.set_cons_zero, List.set_cons_succ]
        exact hcont V1 dg0 _ hS1 (by have := (kp_int hi0).at hb1; simpa using this)
    · --
      simp only [List.getElem_toArray, List.getElem_cons_zero, List.getElem_cons_succ, Act.put, List.setIfInBounds_toArray, List.set_cons_zero, List.set_cons_succ]
      have hi0 := IntAt.one W.drew x 2 (fun _ => x) rfl
      refine step_val 2 (.slice (some ⟨W.heap.size + 1, 0, none⟩) 1 1) ((W.drew.alloc (.cells #[.int .i64 x] 2)).alloc (.cells (dc D) 41)) (by kernel_rfl) rfl rfl (by rw [show W.heap.size + 1 = (W.drew.alloc (.cells #[.int .i64 x] 2)).heap.size by simp]; exact ex_build1 _ rfl D rfl) (hSb.alloc hSb.size _) ?_
      simp only [List.getElem_toArray, List.getElem_cons_zero, List.getElem_cons_succ, Act.put, List.setIfInBounds_toArray, List.set_cons_zero, List.set_cons_succ]
      have hSc := hSb.alloc hSb.size (.cells (dc D) 41)
      refine step_call 3 50 #[.agg #[.int .i16 s, .slice a n c], .slice (some ⟨W.heap.size + 1, 0, none⟩) 1 1] (by kernel_rfl) rfl rfl (by simp [go_sem]) ?_
      refine (HDC.out _ (W.heap.size + 1) hSc (by have h := heap_alloc_new (W.drew.alloc (.cells #[.int .i64 x] 2)) (.cells (dc D) 41); rw [show (W.drew.alloc (.cells #[.int .i64 x] 2)).heap.size = W.heap.size + 1 by simp] at h; exact h)).mono ?_
      rintro e V1 ⟨rfl, hb1⟩
      have hS1 := hSc.trans (hb1.mono hSc.size)
      refine ⟨_, rfl, hS1, ?_⟩
      simp only [List.getElem_toArray, List.getElem_cons_zero, List.getElem_cons_succ, Act.put, List.setIfInBounds_toArray, List.set_cons_zero, List.set_cons_succ]
      exact hcont V1 (W.heap.size + 1) W.heap.size hS1 ((kp_int hi0).at ((((Below.refl _ _).alloc (Nat.le_refl _) _).trans (hb1.mono (by simp)))))
  intro V dg ig hSV hiv
  clear HDC hSa hSb hS0
  refine step_call 8 51 #[.agg #[.int .i16 s, .slice a n c], .agg (pc b m d O), .slice none 0 0, .slice (some ⟨ig, 0, none⟩) 1 1] (by kernel_rfl) rfl rfl (by simp [go_sem]) ?_
  refine (programmeCode_any s a n c P R b m d F S O none 0 0 (fun _ => 0) (some ⟨ig, 0, none⟩) 1 1 (fun _ => x) V hs hn HP.out HR.out (KH.at hSV) hm HF.out HS.out HO.out (KL.at hSV) (by omega) (IntAt.nil _ _) (by omega) hiv).mono ?_
  rw [allIn_zero, allIn_one, Bool.true_and]
  rintro e V2 ⟨rfl, hb2⟩
  have hS2 := hSV.trans (hb2.mono hSV.size)
  refine ⟨_, rfl, hS2, ?_⟩
  simp only [List.getElem_toArray, List.getElem_cons_zero, List.getElem_cons_succ, Act.put, List.setIfInBounds_toArray, List.set_cons_zero, List.set_cons_succ]
  have hfl := firstL_wh s n P R D m F S O (inB x 0 ((m : Int) - 1))
  rw [HZ0.out] at hfl
  obtain ⟨z1, hz1⟩ : ∃ y, pcode (vProg s n P R m F S O) (inB x 0 ((m : Int) - 1)) = y := ⟨_, rfl⟩
  rw [hz1] at hfl ⊢
  obtain ⟨z, hz⟩ : ∃ y, wcode (whB s n P R D m F S O) (inB x 0 ((m : Int) - 1)) = y := ⟨_, rfl⟩
  rw [hz] at hfl
  have HFL := Lib.hid hfl; have HW := Lib.hid hz; clear hfl hz hz1 HZ0 hiv hb2
  refine step_val 9 (.slice (some ⟨V2.heap.size, 0, none⟩) 2 2) (V2.alloc (.cells #[.int .i64 z0, .int .i64 z1] 2)) (by kernel_rfl) rfl rfl (by simp [go_sem]) (hS2.alloc hS2.size _) ?_
  simp only [List.getElem_toArray, List.getElem_cons_zero, List.getElem_cons_succ, Act.put, List.setIfInBounds_toArray, List.set_cons_zero, List.set_cons_succ]
  have hS3 := hS2.alloc hS2.size (.cells #[.int .i64 z0, .int .i64 z1] 2)
  have hfo := firstOf_any [z0, z1] V2.heap.size 2 (V2.alloc (.cells #[.int .i64 z0, .int .i64 z1] 2)) (by simp) (heap_alloc_new V2 _)
  rw [HFL.out] at hfo
  refine step_call 10 49 #[.slice (some ⟨V2.heap.size, 0, none⟩) 2 2] (by kernel_rfl) rfl rfl (by simp [go_sem]) ?_
  refine hfo.mono ?_
  rintro e V3 ⟨rfl, rfl⟩
  refine ⟨_, rfl, hS3, ?_⟩
  simp only [List.getElem_toArray, List.getElem_cons_zero, List.getElem_cons_succ, Act.put, List.setIfInBounds_toArray, List.set_cons_zero, List.set_cons_succ]
  refine take_val 11 (.int .i64 z) rfl (by kernel_rfl) (by kernel_rfl) (by kernel_rfl) (fun _ _ _ h => h) rfl (fun V hV => by simp [go_sem]) hS3 ?_
  simp only [List.getElem_toArray, List.getElem_cons_zero, List.getElem_cons_succ, Act.put, List.setIfInBounds_toArray, List.set_cons_zero, List.set_cons_succ]
  refine wpAnyH_done (by kernel_rfl) ?_ _
  replace KB := KB.on hS3
  replace KH := KH.on hS3
  replace KL := KL.on hS3
  replace KF := KF.on hS3
  replace KD := KD.on hS3
  replace KP := KP.on hS3
  clear hS3 hS2 hSV hfo
  generalize V2.alloc (.cells #[.int .i64 z0, .int .i64 z1] 2) = Y at KB KH KL KF KD KP ⊢
  have HSY := Lib.hid KB.here.size
  by_cases h0 : z = 0
  · subst h0
    have hyes := sm_yes HW.out
    obtain ⟨hwh, hin⟩ := wcode_zero HW.out
    obtain ⟨hs2, hn2, hp47, hm2, hsec, _⟩ := wh_facts hwh
    have hin' := inB_iff.1 hin
    have hst := sectionTune_any s a n c P R D b m d F S O x Y hs2 hn2 hp47 hm2 hsec (by omega) HP.out KH.here HD.out HO.out KL.here
    have HST := Lib.hid hst; have HY := Lib.hid hyes
    clear hst hyes hwh hin hsec hp47
    go_wp2_with (first | (with_reducible refine load_iframe rfl _ rfl w.heap.size rfl _ s a n c KF.here ?_) | (with_reducible refine load_drum rfl _ rfl (w.heap.size + 1) rfl _ D KD.here ?_) | (with_reducible refine load_iprog rfl _ rfl (w.heap.size + 1 + 1) rfl _ b m d O KP.here ?_) | (go_at_call 52; refine HST.out.mono ?_; rintro e w3 ⟨v3, rfl, hb3, ho3⟩; have HB3 := Lib.hid (KB.at hb3); have HO3 := Lib.hid (OwnN.mono ho3 HSY.out); clear hb3 ho3))
    refine bodyPost_ret (v := .tuple #[v3, .int .i64 (sxC (sxL s n P F S D x))]) (by simp [results, Tryz.results24, go_sem]) rfl ⟨v3, by rw [HY.out.2], HB3.out, by rw [HY.out.1]; exact HO3.out⟩
  · have hno := Lib.hid (sm_no HW.out h0)
    have hbe := KB.here
    go_wp2
    refine bodyPost_ret (v := .tuple #[.slice none 0 0, .int .i64 z]) (by simp [results, Tryz.results24, go_sem]) rfl ⟨.slice none 0 0, by rw [hno.out.2], hbe, by rw [hno.out.1]; exact OwnL.none0 _ _⟩
end Go.Proofs.YteffaghcjpeblaaGreat
