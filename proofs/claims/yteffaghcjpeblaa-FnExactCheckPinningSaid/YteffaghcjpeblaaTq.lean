/- The tracks of a tune on a drum, by the program. No conditions. -/
import Derived.Test.YteffaghcjpeblaaTp
import Derived.Test.YteffaghcjpeblaaTu
import Derived.Test.YteffaghcjpeblaaCost
import Derived.Outline
namespace Go.Proofs.Yteffaghcjpeblaa
open Go.RowKit
set_option linter.unusedVariables false
set_option linter.unusedSimpArgs false

section
variable {ops : Array Oper} {rest : List Oper} {o : Oper} {a : Act} {w : World} {Q : Exit → Act → World → Prop}
theorem append_intT (hgd : o.guard = none) (s x : Operand) (ho : o.op = .call { callee := .builtin .append, args := #[s, x], argTypes := #[54, 54] }) (base : Nat) (v : Value) (l : List Int) (hs : a.eval s = v) (hown : OwnI w base v l)
    (g : Nat) (y : Int) (hx : a.eval x = .slice (some ⟨g, 0, none⟩) 1 1) (hc : w.cell? ⟨g, 0, none⟩ = some (.int .i64 y)) (hl : l.length ≤ 1000000) (hbase : base ≤ w.heap.size)
    (h : ∀ v' w', OwnI w' base v' (l ++ [y]) → w.grownBy w' v.ownBlock → Below base w w' → wpList Try.prog ops Q rest (a.put o.dst v') w') : wpList Try.prog ops Q (o :: rest) a w := by
  obtain ⟨i0, hi, hz0, hz1, hz2⟩ := info_parts infoI64
  refine wpList_append_own w hgd s x 54 ho base 2 i0 (.int .i64 0) 1 8 Try.underlying54 hi hz0 hz1 hz2 rfl (by decide) v l.length _ hs hown ⟨g, 0, none⟩ 1 1 [.int .i64 y] hx rfl ?_ ?_ ?_ ?_ hbase ?_
  · intro j u hj
    match j, hj with
    | 0, hj => simp at hj; subst hj; simpa [Addr.add] using hc
  · intro u hu; simp at hu; subst hu; rfl
  · unfold maxLen; omega
  · omega
  · intro v' w' hown' hgrow _
    refine h v' w' ?_ hgrow (Below.grown (Below.refl _ _) hgrow hbase fun k hk => (World.ownsRow.lt hown k hk).1)
    unfold OwnI
    rw [List.length_append, List.map_append]
    exact hown'
theorem OwnI.mono' {w : World} {base base' : Nat} {v : Value} {l : List Int} (h : OwnI w base v l) (hb : base' ≤ base) : OwnI w base' v l := own_mono h hb
/-- a guarded read -/
theorem load_G {v : Value} (he : (execOp a.eval o).run Try.prog w = .ok (.value v) w) (hw : Region.wanted o (yielded ops a.tmps) = true) (h : wpList Try.prog ops Q rest (a.put o.dst v) w) : wpList Try.prog ops Q (o :: rest) a w := by
  refine wpList_step fun K hK => ?_
  rw [if_pos hw]
  unfold Oper.wp
  rw [he]
  exact hK _ _ h
end
/-- notes are the same -/
def eqT (m m' : Nat) (F S F' S' : Nat → Int) : Bool := decide (m = m') && (List.range m).all fun k => decide (F k = F' k ∧ S k = S' k)
theorem eqT_iff {m m' : Nat} {F S F' S' : Nat → Int} : eqT m m' F S F' S' = true ↔ m = m' ∧ ∀ k, k < m → F k = F' k ∧ S k = S' k := by
  simp only [eqT, Bool.and_eq_true, decide_eq_true_eq, List.all_eq_true, List.mem_range]
theorem eqT_false {m m' : Nat} {F S F' S' : Nat → Int} (h : ¬ (m = m' ∧ ∀ k, k < m → F k = F' k ∧ S k = S' k)) : eqT m m' F S F' S' = false := by
  rw [← Bool.not_eq_true, eqT_iff]; exact h
attribute [irreducible] eqT
theorem eqT_list {L : List (Int × Int)} {l : Nat} {A B : Nat → Int} : eqT L.length l (fun i => (L.getD i (0, 0)).1) (fun i => (L.getD i (0, 0)).2) A B = true ↔ L = ntT l A B := by
  rw [eqT_iff]
  have hlen : (ntT l A B).length = l := by simp only [ntT, List.length_map, List.length_range]
  have hget : ∀ i (hi : i < (ntT l A B).length), (ntT l A B)[i] = (A i, B i) := fun i hi => by simp only [ntT, List.getElem_map, List.getElem_range]
  constructor
  · rintro ⟨h1, h2⟩
    refine List.ext_getElem (by rw [hlen, h1]) fun i hi hi2 => ?_
    have := h2 i hi
    rw [getD_at hi] at this
    rw [hget i hi2]
    exact Prod.ext this.1 this.2
  · intro h
    refine ⟨by rw [h, hlen], fun k hk => ?_⟩
    have hk2 : k < (ntT l A B).length := by rw [← h]; exact hk
    have e : L[k] = (ntT l A B)[k] := by subst h; rfl
    rw [getD_at hk, e, hget k hk2]
    exact ⟨rfl, rfl⟩
set_option maxRecDepth 100000 in
set_option maxHeartbeats 1000000 in
theorem equalNote_any (a : Option Addr) (n c : Nat) (F S : Nat → Int) (a' : Option Addr) (n' c' : Nat) (F' S' : Nat → Int) (w : World) (hn : n ≤ 1048576) (hn' : n' ≤ 1048576) (ha : NoteAt w a n F S) (hb : NoteAt w a' n' F' S') :
    Calls Try.prog 63 #[.slice a n c, .slice a' n' c'] w fun e w' => e = .returned (.bool (eqT n n' F S F' S')) ∧ Below w.heap.size w w' := by
  have KA := kp_note ha; have KC := kp_note hb; clear ha hb
  by_cases hnn : n = n'
  · subst hnn
    go_enter Try.func63, Try.ntmps63
    go_wp2
    go_loopw [13] (fun i w' => Below w.heap.size w w' ∧ ∃ k : Nat, k ≤ n ∧ i = .int .i64 k ∧ ∀ j, j < k → F j = F' j ∧ S j = S' j) (fun i _ => n - (intOf i).toNat)
    case atStart => exact ⟨Below.refl _ _, 0, by omega, rfl, fun j hj => by omega⟩
    case round =>
      obtain ⟨hb, k, hk, rfl, hK⟩ := hrel
      have HK := Lib.hid hK; clear hK
      replace KA := KA.on hb
      replace KC := KC.on hb
      by_cases hlt : k < n
      · have hx := NoteAt.get KA.here (show 0 < n by omega)
        have hy := NoteAt.get KC.here (show 0 < n by omega)
        obtain ⟨g, off, rfl, hg, hc⟩ := hx
        obtain ⟨g', off', rfl, hg', hc'⟩ := hy
        have c0 := (hc k hlt).1; have c1 := (hc k hlt).2
        have e0 := (hc' k hlt).1; have e1 := (hc' k hlt).2
        clear hc hc'
        have hk' : (k : Int) < n := by omega
        by_cases h1 : F k = F' k
        · by_cases h2 : S k = S' k
          · rw [← h1] at e0
            rw [← h2] at e1
            have h1 := Lib.hid h1; have h2 := Lib.hid h2
            go_wp2
            go_quiet (fail)
            go_wp2
            go_roundw
            case rel => exact ⟨below_drewN hb _, k + 1, by omega, by go_num, fun j hj => if e : j = k then e ▸ ⟨h1.out, h2.out⟩ else HK.out j (by omega)⟩
            case measure => simp [intOf]; omega
          · have hne : (S k == S' k) = false := beq_false_of_ne h2
            have h2 := Lib.hid h2
            rw [← h1] at e0
            have h1 := Lib.hid h1
            go_wp2
            go_quiet (fail)
            go_wp2
            go_ret
            exact ⟨ret_bool (eqT_false fun H => h2.out (H.2 k hlt).2).symm, below_drewN hb _⟩
        · have hne : (F k == F' k) = false := beq_false_of_ne h1
          have h1 := Lib.hid h1
          go_wp2
          go_quiet (fail)
          go_wp2
          go_ret
          exact ⟨ret_bool (eqT_false fun H => h1.out (H.2 k hlt).1).symm, below_drewN hb _⟩
      · go_wp2
        go_ret
        exact ⟨ret_bool (eqT_iff.2 ⟨rfl, fun j hj => HK.out j (by omega)⟩).symm, hb⟩
  · have hne : ((n : Int) == (n' : Int)) = false := beq_false_of_ne (by omega)
    have hne2 : ¬ (n : Int) = n' := by omega
    go_enter Try.func63, Try.ntmps63
    go_wp2
    go_ret
    exact ⟨ret_bool (eqT_false fun H => hnn H.1).symm, Below.refl _ _⟩
theorem sizeNote_any (q : Option Addr) (l c : Nat) (w : World) (hl : l ≤ 1000000000) : Calls Try.prog 62 #[.slice q l c] w fun e w' => e = .returned (.int .i64 (l : Nat)) ∧ w = w' := by
  have q1 := i64_id (x := (l : Int)) (by omega)
  go_enter Try.func62, Try.ntmps62
  go_wp2
  go_ret
  exact ⟨rfl, rfl⟩
set_option maxRecDepth 100000 in
set_option maxHeartbeats 4000000 in
theorem tracksOf_any (m : Nat) (a : Option Addr) (n c : Nat) (P R : Nat → Int) (D : Nat → Nat) (q : Option Addr) (l e0 : Nat) (A B : Nat → Int) (w : World) (hm : 2 ≤ m ∧ m ≤ 96) (hn : 1 ≤ n ∧ n ≤ 24) (hD : D32 D) (hdv : vDrum (m : Int) n D = true) (hP : I8 P) (hR : I8 R) (hv : vTune l A B = true) (hAm : ∀ i, i < l → A i < m) (hA16 : I16 A) (hB8 : I8 B)
    (hh : HamAt w a n P R) (ht : NoteAt w q l A B) :
    Calls Try.prog 39 #[.agg #[.int .i16 (m : Int), .slice a n c], .slice q l e0, .agg (dc D)] w fun e w' => ∃ v, e = .returned (.tuple #[v, .bool (tkB m n P R D l A B)]) ∧ Below w.heap.size w w' ∧ (tkB m n P R D l A B = true → OwnI w' w.heap.size v (toL P n D A B l)) := by
  obtain ⟨hl120, hnt, _⟩ := vTune_facts hv
  have hsame := tk_same (s := (m : Int)) (P := P) (n := n) (D := D) (by omega) hn hv (fun i hi => hAm i hi) hdv hD
  rw [Int.toNat_natCast] at hsame
  have HV := Lib.hid hv; have HD := Lib.hid hD; have HP := Lib.hid hP; have HR := Lib.hid hR; have HNT := Lib.hid hnt; have HAM := Lib.hid hAm; have HSAME := Lib.hid hsame
  clear hD hP hR hnt hAm hv hsame hdv
  have KB := Kp.base w
  have KH := kp_ham hh; have KT := kp_note ht; clear hh ht
  replace KB := KB.alloc (.cells #[.int .i16 (m : Int), .slice a n c] 27)
  replace KH := KH.alloc (.cells #[.int .i16 (m : Int), .slice a n c] 27)
  replace KT := KT.alloc (.cells #[.int .i16 (m : Int), .slice a n c] 27)
  have KF := kp_new1 w #[.int .i16 (m : Int), .slice a n c] 27 (g := w.heap.size) (by simp)
  replace KB := KB.alloc (.cells (dc D) 47)
  replace KH := KH.alloc (.cells (dc D) 47)
  replace KT := KT.alloc (.cells (dc D) 47)
  replace KF := KF.alloc (.cells (dc D) 47)
  have KD := kp_newd (w.alloc (.cells #[.int .i16 (m : Int), .slice a n c] 27)) (D) 47 (g := w.heap.size + 1) (by simp)
  have HZ := Lib.hid (show ((w.alloc (.cells #[.int .i16 (m : Int), .slice a n c] 27)).alloc (.cells (dc D) 47)).heap.size = w.heap.size + 1 + 1 by simp)
  go_enter Try.func39, Try.ntmps39
  go_wp2
  obtain ⟨W, hW⟩ : ∃ W, W = (w.alloc (.cells #[.int .i16 (m : Int), .slice a n c] 27)).alloc (.cells (dc D) 47) := ⟨_, rfl⟩
  rw [← hW] at KB KH KT KF KD HZ ⊢
  clear hW
  rw [← HZ.out]
  have hszw := KB.here.size
  have H0 := Lib.hid (show OwnI (W.alloc (.cells #[] 2)) W.heap.size (.slice (some ⟨W.heap.size, 0, none⟩) 0 0) (toL P n D A B 0) by rw [toL_zero]; exact OwnI.nil W W.heap.size (Nat.le_refl _))
  have HB0 := Lib.hid ((Below.refl W.heap.size W).alloc (Nat.le_refl _) (.cells #[] 2))
  go_loopw [8, 15] (fun v i w' => Below W.heap.size W w' ∧ ∃ k : Nat, k ≤ l ∧ i = .int .i64 k ∧ OwnI w' W.heap.size v (toL P n D A B k) ∧ (toL P n D A B k).length ≤ k * 24) (fun _ i _ => l - (intOf i).toNat)
  case atStart => exact ⟨HB0.out, 0, by omega, rfl, H0.out, by rw [toL_zero]; simp⟩
  case round =>
    clear H0 HB0
    obtain ⟨hb, k, hk, rfl, hown, hlen⟩ := hrel
    have HO := Lib.hid hown; have HLEN := Lib.hid hlen; clear hown
    by_cases hlt : k < l
    · have hlt' : (k : Int) < l := by omega
      have hnk := HNT.out k hlt
      have hak := HAM.out k hlt
      obtain ⟨x, hx⟩ : ∃ x : Nat, A k = x := ⟨(A k).toNat, by omega⟩
      obtain ⟨p, hp⟩ : ∃ p, B k = p := ⟨_, rfl⟩
      obtain ⟨gq, oq, rfl, hgq, hcq⟩ := NoteAt.get (KT.at hb) (show 0 < l by omega)
      have c0 := (hcq k hlt).1
      have c1 := (hcq k hlt).2
      rw [hx] at c0; rw [hp] at c1
      rw [hx] at hak
      obtain ⟨gh, off, rfl, hgh, hch⟩ := HamAt.get KH.here (show 0 < n by omega)
      have HCH := Lib.hid (fun (V : World) (hV : Below W.heap.size W V) i (hi : i < n) => (hV.cell (p := ⟨gh, off + i * 2, none⟩) hgh).trans (hch i hi).1)
      have HTN := Lib.hid (show toL P n D A B (k + 1) = toL P n D A B k ++ trL P D x p n by rw [toL_succ, trN_def, hx, hp, Int.toNat_natCast])
      clear hcq hch hnk hx hp
      have hszr := hb.size
      have HBR := Lib.hid (hb.alloc hszr (.cells #[.int .i16 (x : Int), .int .i8 p] 56))
      have f1 := row_cell 1 (KF.at (hb.alloc hszr (.cells #[.int .i16 (x : Int), .int .i8 p] 56)))
      have HN := Lib.hid (heap_alloc_new wr (.cells #[.int .i16 (x : Int), .int .i8 p] 56))
      have HO1 := Lib.hid (OwnI.alloc HO.out (.cells #[.int .i16 (x : Int), .int .i8 p] 56))
      clear hb
      go_wp2_with (go_at_call 59; refine (sizeHammer_any _ _ _ _ (by omega)).mono ?_; rintro e w5 ⟨rfl, rfl⟩)
      clear f1 c0 c1
      obtain ⟨gb, hgb⟩ : ∃ y, wr.heap.size = y := ⟨_, rfl⟩
      rw [hgb] at HN ⊢
      generalize wr.alloc (.cells #[.int .i16 (x : Int), .int .i8 p] 56) = Y at HBR HN HO1 ⊢
      go_loopw [8, 22] (fun v j w' => Below W.heap.size W w' ∧ w'.heap[gb]? = some (.cells #[.int .i16 (x : Int), .int .i8 p] 56 (0, 0)) ∧ ∃ kk : Nat, kk ≤ n ∧ j = .int .i64 kk ∧ OwnI w' W.heap.size v (toL P n D A B k ++ trL P D x p kk)) (fun _ j _ => n - (intOf j).toNat)
      case atStart => exact ⟨HBR.out, HN.out, 0, by omega, rfl, by rw [trL_zero, List.append_nil]; exact HO1.out⟩
      case round =>
        rename_i vo vi vo2
        clear HBR HN HO1
        obtain ⟨hb2, hnb, kk, hkk, rfl, hown2⟩ := hrel
        have HO2 := Lib.hid hown2; clear hown2
        by_cases hkn : kk < n
        · have hkn' : (kk : Int) < n := by omega
          have KP0 := kp_cell (HCH.out _ hb2 kk hkn) (Nat.lt_of_lt_of_le hgh hb2.size)
          have KF1 := KF.on hb2; have KD1 := KD.on hb2
          have KN := kp_row hnb
          have HB2 := Lib.hid hb2
          have HNB := Lib.hid hnb
          clear hb2 hnb
          go_wp2
          obtain ⟨U, rfl⟩ : ∃ U, U = wr := ⟨wr, rfl⟩
          have hS0 := below_drew U
          have q1 := i64_id (x := (x : Int)) (by omega)
          refine wp_region_S (fun V => Below U.heap.size U V) (by kernel_rfl) hS0 ?_
          refine take_val 0 (.pointer (some ⟨gb, 0, none⟩)) rfl (by kernel_rfl) (by kernel_rfl) (by kernel_rfl) (fun _ _ _ h => h) rfl (fun V hV => by simp [go_sem]) hS0 ?_
          simp only [List.getElem_toArray, List.getElem_cons_zero, List.getElem_cons_succ, Act.put, List.setIfInBounds_toArray, List.set_cons_zero, List.set_cons_succ]
          refine take_val 1 (.int .i16 (x : Int)) rfl (by kernel_rfl) (by kernel_rfl) (by kernel_rfl) (fun _ _ _ h => h) rfl (fun V hV => by have h := row_cell 0 (KN.at hV); simp [go_sem, h]) hS0 ?_
          simp only [List.getElem_toArray, List.getElem_cons_zero, List.getElem_cons_succ, Act.put, List.setIfInBounds_toArray, List.set_cons_zero, List.set_cons_succ]
          refine take_val 2 (.int .i64 (x : Int)) rfl (by kernel_rfl) (by kernel_rfl) (by kernel_rfl) (fun _ _ _ h => h) rfl (fun V hV => by simp [go_sem, q1]) hS0 ?_
          simp only [List.getElem_toArray, List.getElem_cons_zero, List.getElem_cons_succ, Act.put, List.setIfInBounds_toArray, List.set_cons_zero, List.set_cons_succ]
          refine take_val 3 (.int .i64 kk) rfl (by kernel_rfl) (by kernel_rfl) (by kernel_rfl) (fun _ _ _ h => h) rfl (fun V hV => by simp [go_sem]) hS0 ?_
          simp only [List.getElem_toArray, List.getElem_cons_zero, List.getElem_cons_succ, Act.put, List.setIfInBounds_toArray, List.set_cons_zero, List.set_cons_succ]
          have hcon := has_any (w.heap.size + 1) 47 D x kk U.drew HD.out (by omega) (by omega) (KD1.at hS0)
          cases hpin : hasPin D x kk
          · rw [hpin] at hcon
            have HTR := Lib.hid (trL_no (P := P) (D := D) (k := x) (p := p) (j := kk) (fun h => by rw [hpin] at h; cases h.1))
            refine step_call 4 60 #[.pointer (some ⟨w.heap.size + 1, 0, none⟩), .int .i64 (x : Int), .int .i64 (kk : Int)] (by kernel_rfl) rfl rfl (by simp [go_sem]) ?_
            refine (hcon).mono ?_
            rintro e V2 ⟨rfl, rfl⟩
            refine ⟨_, rfl, hS0, ?_⟩
            simp only [List.getElem_toArray, List.getElem_cons_zero, List.getElem_cons_succ, Act.put, List.setIfInBounds_toArray, List.set_cons_zero, List.set_cons_succ]
            refine take_val 5 (.bool false) rfl (by kernel_rfl) (by kernel_rfl) (by kernel_rfl) (fun _ _ _ h => h) rfl (fun V hV => by simp [go_sem]) hS0 ?_
            simp only [List.getElem_toArray, List.getElem_cons_zero, List.getElem_cons_succ, Act.put, List.setIfInBounds_toArray, List.set_cons_zero, List.set_cons_succ]
            refine skip_val 6 rfl (by kernel_rfl) (by kernel_rfl) (by kernel_rfl) (fun _ _ _ h => h) rfl hS0 ?_
            simp only [List.getElem_toArray, List.getElem_cons_zero, List.getElem_cons_succ, Act.put, List.setIfInBounds_toArray, List.set_cons_zero, List.set_cons_succ]
            refine skip_val 7 rfl (by kernel_rfl) (by kernel_rfl) (by kernel_rfl) (fun _ _ _ h => h) rfl hS0 ?_
            simp only [List.getElem_toArray, List.getElem_cons_zero, List.getElem_cons_succ, Act.put, List.setIfInBounds_toArray, List.set_cons_zero, List.set_cons_succ]
            refine skip_val 8 rfl (by kernel_rfl) (by kernel_rfl) (by kernel_rfl) (fun _ _ _ h => h) rfl hS0 ?_
            simp only [List.getElem_toArray, List.getElem_cons_zero, List.getElem_cons_succ, Act.put, List.setIfInBounds_toArray, List.set_cons_zero, List.set_cons_succ]
            refine skip_val 9 rfl (by kernel_rfl) (by kernel_rfl) (by kernel_rfl) (fun _ _ _ h => h) rfl hS0 ?_
            simp only [List.getElem_toArray, List.getElem_cons_zero, List.getElem_cons_succ, Act.put, List.setIfInBounds_toArray, List.set_cons_zero, List.set_cons_succ]
            refine skip_val 10 rfl (by kernel_rfl) (by kernel_rfl) (by kernel_rfl) (fun _ _ _ h => h) rfl hS0 ?_
            simp only [List.getElem_toArray, List.getElem_cons_zero, List.getElem_cons_succ, Act.put, List.setIfInBounds_toArray, List.set_cons_zero, List.set_cons_succ]
            refine skip_val 11 rfl (by kernel_rfl) (by kernel_rfl) (by kernel_rfl) (fun _ _ _ h => h) rfl hS0 ?_
            simp only [List.getElem_toArray, List.getElem_cons_zero, List.getElem_cons_succ, Act.put, List.setIfInBounds_toArray, List.set_cons_zero, List.set_cons_succ]
            refine skip_val 12 rfl (by kernel_rfl) (by kernel_rfl) (by kernel_rfl) (fun _ _ _ h => h) rfl hS0 ?_
            simp only [List.getElem_toArray, List.getElem_cons_zero, List.getElem_cons_succ, Act.put, List.setIfInBounds_toArray, List.set_cons_zero, List.set_cons_succ]
            refine skip_val 13 rfl (by kernel_rfl) (by kernel_rfl) (by kernel_rfl) (fun _ _ _ h => h) rfl hS0 ?_
            simp only [List.getElem_toArray, List.getElem_cons_zero, List.getElem_cons_succ, Act.put, List.setIfInBounds_toArray, List.set_cons_zero, List.set_cons_succ]
            refine skip_val 14 rfl (by kernel_rfl) (by kernel_rfl) (by kernel_rfl) (fun _ _ _ h => h) rfl hS0 ?_
            simp only [List.getElem_toArray, List.getElem_cons_zero, List.getElem_cons_succ, Act.put, List.setIfInBounds_toArray, List.set_cons_zero, List.set_cons_succ]
            refine take_val 15 (.bool false) rfl (by kernel_rfl) (by kernel_rfl) (by kernel_rfl) (fun _ _ _ h => h) rfl (fun V hV => by simp [go_sem]) hS0 ?_
            simp only [List.getElem_toArray, List.getElem_cons_zero, List.getElem_cons_succ, Act.put, List.setIfInBounds_toArray, List.set_cons_zero, List.set_cons_succ]
            refine wpAnyH_done (by kernel_rfl) ?_ _
            have HBE := Lib.hid (HB2.out.drew); have HNE := Lib.hid (KN.at hS0); have HOE := Lib.hid (own_below HO2.out hS0)
            clear hS0 hcon hpin
            go_wp2
            go_roundw
            case rel => exact ⟨HBE.out, HNE.out, kk + 1, by omega, by go_num, by rw [HTR.out]; exact HOE.out⟩
            case measure => simp [intOf]; omega
          · rw [hpin] at hcon
            refine step_call 4 60 #[.pointer (some ⟨w.heap.size + 1, 0, none⟩), .int .i64 (x : Int), .int .i64 (kk : Int)] (by kernel_rfl) rfl rfl (by simp [go_sem]) ?_
            refine (hcon).mono ?_
            rintro e V2 ⟨rfl, rfl⟩
            refine ⟨_, rfl, hS0, ?_⟩
            simp only [List.getElem_toArray, List.getElem_cons_zero, List.getElem_cons_succ, Act.put, List.setIfInBounds_toArray, List.set_cons_zero, List.set_cons_succ]
            refine take_val 5 (.bool true) rfl (by kernel_rfl) (by kernel_rfl) (by kernel_rfl) (fun _ _ _ h => h) rfl (fun V hV => by simp [go_sem]) hS0 ?_
            simp only [List.getElem_toArray, List.getElem_cons_zero, List.getElem_cons_succ, Act.put, List.setIfInBounds_toArray, List.set_cons_zero, List.set_cons_succ]
            refine take_val 6 (.pointer (some ⟨w.heap.size, 1, none⟩)) rfl (by kernel_rfl) (by kernel_rfl) (by kernel_rfl) (fun _ _ _ h => h) rfl (fun V hV => by simp [go_sem]) hS0 ?_
            simp only [List.getElem_toArray, List.getElem_cons_zero, List.getElem_cons_succ, Act.put, List.setIfInBounds_toArray, List.set_cons_zero, List.set_cons_succ]
            refine take_val 7 (.slice (some ⟨gh, off, none⟩) n c) rfl (by kernel_rfl) (by kernel_rfl) (by kernel_rfl) (fun _ _ _ h => h) rfl (fun V hV => by have h := row_cell 1 (KF1.at hV); simp [go_sem, h]) hS0 ?_
            simp only [List.getElem_toArray, List.getElem_cons_zero, List.getElem_cons_succ, Act.put, List.setIfInBounds_toArray, List.set_cons_zero, List.set_cons_succ]
            refine take_val 8 (.int .i64 kk) rfl (by kernel_rfl) (by kernel_rfl) (by kernel_rfl) (fun _ _ _ h => h) rfl (fun V hV => by simp [go_sem]) hS0 ?_
            simp only [List.getElem_toArray, List.getElem_cons_zero, List.getElem_cons_succ, Act.put, List.setIfInBounds_toArray, List.set_cons_zero, List.set_cons_succ]
            refine take_val 9 (.pointer (some ⟨gh, off + kk * 2, none⟩)) rfl (by kernel_rfl) (by kernel_rfl) (by kernel_rfl) (fun _ _ _ h => h) rfl (fun V hV => by simp [go_sem, hkn']) hS0 ?_
            simp only [List.getElem_toArray, List.getElem_cons_zero, List.getElem_cons_succ, Act.put, List.setIfInBounds_toArray, List.set_cons_zero, List.set_cons_succ]
            refine take_val 10 (.pointer (some ⟨gh, off + kk * 2, none⟩)) rfl (by kernel_rfl) (by kernel_rfl) (by kernel_rfl) (fun _ _ _ h => h) rfl (fun V hV => by simp [go_sem]) hS0 ?_
            simp only [List.getElem_toArray, List.getElem_cons_zero, List.getElem_cons_succ, Act.put, List.setIfInBounds_toArray, List.set_cons_zero, List.set_cons_succ]
            refine take_val 11 (.int .i8 (P kk)) rfl (by kernel_rfl) (by kernel_rfl) (by kernel_rfl) (fun _ _ _ h => h) rfl (fun V hV => by have h := KP0.at hV; simp [go_sem, h]) hS0 ?_
            simp only [List.getElem_toArray, List.getElem_cons_zero, List.getElem_cons_succ, Act.put, List.setIfInBounds_toArray, List.set_cons_zero, List.set_cons_succ]
            refine take_val 12 (.pointer (some ⟨gb, 1, none⟩)) rfl (by kernel_rfl) (by kernel_rfl) (by kernel_rfl) (fun _ _ _ h => h) rfl (fun V hV => by simp [go_sem]) hS0 ?_
            simp only [List.getElem_toArray, List.getElem_cons_zero, List.getElem_cons_succ, Act.put, List.setIfInBounds_toArray, List.set_cons_zero, List.set_cons_succ]
            refine take_val 13 (.int .i8 p) rfl (by kernel_rfl) (by kernel_rfl) (by kernel_rfl) (fun _ _ _ h => h) rfl (fun V hV => by have h := row_cell 1 (KN.at hV); simp [go_sem, h]) hS0 ?_
            simp only [List.getElem_toArray, List.getElem_cons_zero, List.getElem_cons_succ, Act.put, List.setIfInBounds_toArray, List.set_cons_zero, List.set_cons_succ]
            by_cases hpp : P kk = p
            · have HTR := Lib.hid (trL_yes (P := P) (D := D) (k := x) (p := p) (j := kk) hpin hpp)
              refine take_val 14 (.bool true) rfl (by kernel_rfl) (by kernel_rfl) (by kernel_rfl) (fun _ _ _ h => h) rfl (fun V hV => by simp [go_sem, hpp]) hS0 ?_
              simp only [List.getElem_toArray, List.getElem_cons_zero, List.getElem_cons_succ, Act.put, List.setIfInBounds_toArray, List.set_cons_zero, List.set_cons_succ]
              refine take_val 15 (.bool true) rfl (by kernel_rfl) (by kernel_rfl) (by kernel_rfl) (fun _ _ _ h => h) rfl (fun V hV => by simp [go_sem]) hS0 ?_
              simp only [List.getElem_toArray, List.getElem_cons_zero, List.getElem_cons_succ, Act.put, List.setIfInBounds_toArray, List.set_cons_zero, List.set_cons_succ]
              refine wpAnyH_done (by kernel_rfl) ?_ _
              have hszu := HB2.out.size
              have HBE := Lib.hid (HB2.out.drew); have HNE := Lib.hid (KN.at hS0); have HOE := Lib.hid (own_below HO2.out hS0)
              have hll : (toL P n D A B k ++ trL P D x p kk).length ≤ 5000 := by rw [List.length_append]; have h1 := HLEN.out; have h2 := trL_len (P := P) (D := D) (k := x) (p := p) kk; omega
              have HLL := Lib.hid hll; clear hll
              have hszV : W.heap.size ≤ U.drew.heap.size := hszu
              clear hS0 hcon hpin
              generalize U.drew = V at HBE HNE HOE hszV ⊢
              go_wp2_with (at_builtin; go_loud (refine append_intT rfl _ _ rfl W.heap.size _ (toL P n D A B k ++ trL P D x p kk) rfl (OwnI.alloc HOE.out (.cells #[.int .i64 (kk : Int)] 2)) V.heap.size (kk : Int) rfl (by simp) (by have := HLL.out; omega) (by simp; omega) ?_; intro v2 w5 hown2 hg5 hb5; have HO5 := Lib.hid hown2; have HB5 := Lib.hid hb5; have HG5 := Lib.hid hg5; clear hown2 hb5 hg5))
              go_roundw
              case rel =>
                have hbs : Below W.heap.size W (V.alloc (.cells #[.int .i64 (kk : Int)] 2)) := HBE.out.alloc hszV _
                have hnb5 := (keep_grown (T2 := 2) (OwnI.alloc HOE.out (.cells #[.int .i64 (kk : Int)] 2)) HG5.out).2 gb _ _ _ ((heap_alloc_old V _ (row_lt HNE.out)).trans HNE.out) (by decide) (by decide)
                exact ⟨hbs.trans HB5.out, hnb5, kk + 1, by omega, by go_num, by rw [HTR.out, ← List.append_assoc]; exact HO5.out⟩
              case measure => simp [intOf]; omega
            · have HTR := Lib.hid (trL_no (P := P) (D := D) (k := x) (p := p) (j := kk) (fun h => hpp h.2))
              refine take_val 14 (.bool false) rfl (by kernel_rfl) (by kernel_rfl) (by kernel_rfl) (fun _ _ _ h => h) rfl (fun V hV => by simp [go_sem, hpp]) hS0 ?_
              simp only [List.getElem_toArray, List.getElem_cons_zero, List.getElem_cons_succ, Act.put, List.setIfInBounds_toArray, List.set_cons_zero, List.set_cons_succ]
              refine take_val 15 (.bool false) rfl (by kernel_rfl) (by kernel_rfl) (by kernel_rfl) (fun _ _ _ h => h) rfl (fun V hV => by simp [go_sem]) hS0 ?_
              simp only [List.getElem_toArray, List.getElem_cons_zero, List.getElem_cons_succ, Act.put, List.setIfInBounds_toArray, List.set_cons_zero, List.set_cons_succ]
              refine wpAnyH_done (by kernel_rfl) ?_ _
              have HBE := Lib.hid (HB2.out.drew); have HNE := Lib.hid (KN.at hS0); have HOE := Lib.hid (own_below HO2.out hS0)
              clear hS0 hcon hpin
              go_wp2
              go_roundw
              case rel => exact ⟨HBE.out, HNE.out, kk + 1, by omega, by go_num, by rw [HTR.out]; exact HOE.out⟩
              case measure => simp [intOf]; omega
        · have hkn2 : kk = n := by omega
          have hkn' : ¬ (kk : Int) < n := by omega
          have HE := Lib.hid (show toL P n D A B (k + 1) = toL P n D A B k ++ trL P D x p kk by rw [hkn2]; exact HTN.out)
          have HLE := Lib.hid (show (toL P n D A B (k + 1)).length ≤ (k + 1) * 24 by rw [HTN.out, List.length_append]; have h1 := HLEN.out; have h2 := trL_len (P := P) (D := D) (k := x) (p := p) n; omega)
          clear hkn2
          go_wp2
          go_roundw
          case rel => exact ⟨hb2, k + 1, by omega, by go_num, by rw [HE.out]; exact HO2.out, HLE.out⟩
          case measure => simp [intOf]; omega
    · have hkl : k = l := by omega
      subst hkl
      have hlt' : ¬ (k : Int) < k := by omega
      have hown := HO.out
      obtain ⟨b8, c8, hv8⟩ : ∃ b c, u8 = Value.slice b (toL P n D A B k).length c := by
        rcases hown.2 with ⟨e, h0⟩ | ⟨g, cap, cur, e, _⟩
        · exact ⟨none, 0, by rw [h0]; exact e⟩
        · exact ⟨_, _, e⟩
      subst hv8
      clear hown
      have HDO := Lib.hid (OwnI.mono' HO.out hszw)
      have hno : ∀ (h : ¬ ((toL P n D A B k).length = k ∧ cnt D = k ∧ srtN (ntL P 0 (plL (plP D 0 (m : Int)) n (m * n))) = ntT k A B)), tkB m n P R D k A B = false := fun h => tkB_no fun h2 => h (HSAME.out.2 h2.2)
      have HNO := Lib.hid hno; clear hno
      have hszV := hb.size
      replace KB := KB.on hb; replace KF := KF.on hb; replace KD := KD.on hb; replace KH := KH.on hb; replace KT := KT.on hb
      have KO := kp_OwnI HDO.out
      obtain ⟨N, hN⟩ : ∃ N, (toL P n D A B k).length = N := ⟨_, rfl⟩
      rw [hN] at KO HNO ⊢
      have HNN := Lib.hid hN
      clear hb hlen HLEN HO HDO hN
      obtain ⟨CN, hCN⟩ : ∃ N, cnt D = N := ⟨_, rfl⟩
      have hcnt := fun W : World => count_any D HD.out W
      rw [hCN] at hcnt HNO
      have HCNT := Lib.hid hcnt; have HCN := Lib.hid hCN; clear hcnt hCN
      by_cases h1 : N = k
      · by_cases h2 : CN = k
        · have h1' : (N : Int) = k := by omega
          have h2' : (CN : Int) = k := by omega
          have q1 := i64_id (x := (m : Int)) (by omega)
          have hpl := fun (V : World) (hV : Below wr.heap.size wr V) => played_any m a n c P R D 0 (m : Int) V hm hn HD.out HP.out (by omega) (by omega) (KH.at hV)
          obtain ⟨L, hL⟩ : ∃ L, srtN (ntL P 0 (plL (plP D 0 (m : Int)) n (m * n))) = L := ⟨_, rfl⟩
          have hlen : (srtN (ntL P 0 (plL (plP D 0 (m : Int)) n (m * n)))).length ≤ 2304 := Nat.le_trans (srtN_len _) (by rw [ntL_len]; exact Nat.le_trans (plL_len _ _ _) (place_bound (by omega) hn.2))
          rw [hL] at hpl hlen HNO
          have HPL := Lib.hid hpl; have HLL := Lib.hid hlen; have HLQ := Lib.hid hL
          have H1 := Lib.hid h1; have H2 := Lib.hid h2
          clear hpl hlen hL h1 h2
          by_cases h3 : L = ntT k A B
          · have HEQ := Lib.hid (eqT_list.2 h3)
            have H3 := Lib.hid h3; clear h3
            obtain ⟨CL, hCL⟩ : ∃ y, plL (clB m R D) n (m * n) = y := ⟨_, rfl⟩
            have hcl := fun (V : World) (hV : Below wr.heap.size wr V) => allClashes_any m a n c P R D V hm hn HD.out HR.out (KH.at hV)
            rw [hCL] at hcl
            have HCL := Lib.hid hcl; have HCQ := Lib.hid hCL; clear hcl hCL
            have c0 := row_cell 0 KF.here
            have KW := Kp.base wr
            by_cases h4 : CL = []
            · have HB := Lib.hid (show tkB m n P R D k A B = true by rw [tkB_iff]; exact ⟨by rw [HCQ.out]; exact h4, HSAME.out.1 ⟨by rw [HNN.out]; exact H1.out, by rw [HCN.out]; exact H2.out, by rw [HLQ.out]; exact H3.out⟩⟩)
              have H4 := Lib.hid (show CL.length = 0 by rw [h4]; rfl)
              clear h4
              go_wp2_with (first | (with_reducible refine load_G (ex_load_drum _ rfl (w.heap.size + 1) rfl _ D KD.here) rfl ?_) | (with_reducible refine load_G (ex_load_iframe _ rfl w.heap.size rfl _ (m : Int) a n c KF.here) rfl ?_) | (go_at_call 61; refine (HCNT.out _).mono ?_; rintro e w2 ⟨rfl, hb2⟩; replace KB := KB.on hb2; replace KF := KF.on hb2; replace KD := KD.on hb2; replace KH := KH.on hb2; replace KT := KT.on hb2; replace KO := KO.on hb2; replace KW := KW.on hb2; have c0 := row_cell 0 KF.here; clear hb2) | (go_at_call 62; refine (sizeNote_any _ _ _ _ (by omega)).mono ?_; rintro e w3 ⟨rfl, rfl⟩) | (go_at_call 64; refine (HPL.out _ KW.here).mono ?_; rintro e w4 ⟨v4, rfl, hb4, ho4⟩; obtain ⟨b4, c4, rfl⟩ := OwnL.form ho4; replace KB := KB.on hb4; replace KF := KF.on hb4; replace KD := KD.on hb4; replace KH := KH.on hb4; replace KT := KT.on hb4; replace KO := KO.on hb4; replace KW := KW.on hb4; have KP4 := kp_note (OwnN.readAt ho4); clear hb4 ho4 c0) | (go_at_call 63; refine (equalNote_any b4 L.length c4 _ _ q k e0 A B _ (by have := HLL.out; omega) (by omega) KP4.here KT.here).mono ?_; rw [HEQ.out]; rintro e w5 ⟨rfl, hb5⟩; replace KB := KB.on hb5; replace KF := KF.on hb5; replace KD := KD.on hb5; replace KH := KH.on hb5; replace KT := KT.on hb5; replace KO := KO.on hb5; replace KW := KW.on hb5; clear hb5) | (go_at_call 65; refine (HCL.out _ KW.here).mono ?_; rintro e w6 ⟨v6, rfl, hb6, ho6⟩; obtain ⟨b6, c6, rfl⟩ := OwnL.form ho6; replace KB := KB.on hb6; replace KF := KF.on hb6; replace KD := KD.on hb6; replace KH := KH.on hb6; replace KT := KT.on hb6; replace KO := KO.on hb6; replace KW := KW.on hb6; clear hb6 ho6; rw [H4.out]))
              refine bodyPost_ret (v := .tuple #[.slice b8 N c8, .bool true]) (by simp [results, Try.results39, go_sem]) rfl ⟨.slice b8 N c8, by rw [HB.out], KB.here, fun _ => KO.here⟩
            · have HB := Lib.hid (tkB_no (m := m) (n := n) (P := P) (R := R) (D := D) (l := k) (A := A) (B := B) (fun h => h4 (by rw [← HCQ.out]; exact h.1)))
              obtain ⟨cn, hcn⟩ : ∃ y, CL.length = y := ⟨_, rfl⟩
              have h4' : ¬ (cn : Int) = 0 := by
                intro h; exact h4 (List.eq_nil_of_length_eq_zero (by omega))
              have H4 := Lib.hid hcn
              clear h4 hcn
              go_wp2_with (first | (with_reducible refine load_G (ex_load_drum _ rfl (w.heap.size + 1) rfl _ D KD.here) rfl ?_) | (with_reducible refine load_G (ex_load_iframe _ rfl w.heap.size rfl _ (m : Int) a n c KF.here) rfl ?_) | (go_at_call 61; refine (HCNT.out _).mono ?_; rintro e w2 ⟨rfl, hb2⟩; replace KB := KB.on hb2; replace KF := KF.on hb2; replace KD := KD.on hb2; replace KH := KH.on hb2; replace KT := KT.on hb2; replace KO := KO.on hb2; replace KW := KW.on hb2; have c0 := row_cell 0 KF.here; clear hb2) | (go_at_call 62; refine (sizeNote_any _ _ _ _ (by omega)).mono ?_; rintro e w3 ⟨rfl, rfl⟩) | (go_at_call 64; refine (HPL.out _ KW.here).mono ?_; rintro e w4 ⟨v4, rfl, hb4, ho4⟩; obtain ⟨b4, c4, rfl⟩ := OwnL.form ho4; replace KB := KB.on hb4; replace KF := KF.on hb4; replace KD := KD.on hb4; replace KH := KH.on hb4; replace KT := KT.on hb4; replace KO := KO.on hb4; replace KW := KW.on hb4; have KP4 := kp_note (OwnN.readAt ho4); clear hb4 ho4 c0) | (go_at_call 63; refine (equalNote_any b4 L.length c4 _ _ q k e0 A B _ (by have := HLL.out; omega) (by omega) KP4.here KT.here).mono ?_; rw [HEQ.out]; rintro e w5 ⟨rfl, hb5⟩; replace KB := KB.on hb5; replace KF := KF.on hb5; replace KD := KD.on hb5; replace KH := KH.on hb5; replace KT := KT.on hb5; replace KO := KO.on hb5; replace KW := KW.on hb5; clear hb5) | (go_at_call 65; refine (HCL.out _ KW.here).mono ?_; rintro e w6 ⟨v6, rfl, hb6, ho6⟩; obtain ⟨b6, c6, rfl⟩ := OwnL.form ho6; replace KB := KB.on hb6; replace KF := KF.on hb6; replace KD := KD.on hb6; replace KH := KH.on hb6; replace KT := KT.on hb6; replace KO := KO.on hb6; replace KW := KW.on hb6; clear hb6 ho6; rw [H4.out]))
              refine bodyPost_ret (v := .tuple #[.slice b8 N c8, .bool false]) (by simp [results, Try.results39, go_sem]; omega) rfl ⟨.slice b8 N c8, by rw [HB.out], KB.here, fun _ => KO.here⟩
          · have HEQ := Lib.hid (show eqT L.length k (fun i => (L.getD i (0, 0)).1) (fun i => (L.getD i (0, 0)).2) A B = false by rw [← Bool.not_eq_true, eqT_list]; exact h3)
            have HB := Lib.hid (HNO.out fun h => h3 h.2.2)
            have KW := Kp.base wr
            have c0 := row_cell 0 KF.here
            clear h3
            go_wp2_with (first | (with_reducible refine load_G (ex_load_drum _ rfl (w.heap.size + 1) rfl _ D KD.here) rfl ?_) | (with_reducible refine load_G (ex_load_iframe _ rfl w.heap.size rfl _ (m : Int) a n c KF.here) rfl ?_) | (go_at_call 61; refine (HCNT.out _).mono ?_; rintro e w2 ⟨rfl, hb2⟩; replace KB := KB.on hb2; replace KF := KF.on hb2; replace KD := KD.on hb2; replace KH := KH.on hb2; replace KT := KT.on hb2; replace KO := KO.on hb2; replace KW := KW.on hb2; have c0 := row_cell 0 KF.here; clear hb2) | (go_at_call 62; refine (sizeNote_any _ _ _ _ (by omega)).mono ?_; rintro e w3 ⟨rfl, rfl⟩) | (go_at_call 64; refine (HPL.out _ KW.here).mono ?_; rintro e w4 ⟨v4, rfl, hb4, ho4⟩; obtain ⟨b4, c4, rfl⟩ := OwnL.form ho4; replace KB := KB.on hb4; replace KF := KF.on hb4; replace KD := KD.on hb4; replace KH := KH.on hb4; replace KT := KT.on hb4; replace KO := KO.on hb4; replace KW := KW.on hb4; have KP4 := kp_note (OwnN.readAt ho4); clear hb4 ho4 c0) | (go_at_call 63; refine (equalNote_any b4 L.length c4 _ _ q k e0 A B _ (by have := HLL.out; omega) (by omega) KP4.here KT.here).mono ?_; rw [HEQ.out]; rintro e w5 ⟨rfl, hb5⟩; replace KB := KB.on hb5; replace KF := KF.on hb5; replace KD := KD.on hb5; replace KH := KH.on hb5; replace KT := KT.on hb5; replace KO := KO.on hb5; replace KW := KW.on hb5; clear hb5))
            refine bodyPost_ret (v := .tuple #[.slice b8 N c8, .bool false]) (by simp [results, Try.results39, go_sem]) rfl ⟨.slice b8 N c8, by rw [HB.out], KB.here, fun _ => KO.here⟩
        · have HB := Lib.hid (HNO.out fun h => h2 h.2.1)
          have h1' : (N : Int) = k := by omega
          have h2' : ¬ (CN : Int) = k := by omega
          have KW := Kp.base wr
          clear h1 h2
          go_wp2_with (first | (with_reducible refine load_G (ex_load_drum _ rfl (w.heap.size + 1) rfl _ D KD.here) rfl ?_) | (with_reducible refine load_G (ex_load_iframe _ rfl w.heap.size rfl _ (m : Int) a n c KF.here) rfl ?_) | (go_at_call 61; refine (HCNT.out _).mono ?_; rintro e w2 ⟨rfl, hb2⟩; replace KB := KB.on hb2; replace KF := KF.on hb2; replace KD := KD.on hb2; replace KH := KH.on hb2; replace KT := KT.on hb2; replace KO := KO.on hb2; replace KW := KW.on hb2; have c0 := row_cell 0 KF.here; clear hb2) | (go_at_call 62; refine (sizeNote_any _ _ _ _ (by omega)).mono ?_; rintro e w3 ⟨rfl, rfl⟩))
          refine bodyPost_ret (v := .tuple #[.slice b8 N c8, .bool false]) (by simp [results, Try.results39, go_sem]) rfl ⟨.slice b8 N c8, by rw [HB.out], KB.here, fun _ => KO.here⟩
      · have HB := Lib.hid (HNO.out fun h => h1 h.1)
        have h1' : ¬ (N : Int) = k := by omega
        clear h1
        go_wp2
        refine bodyPost_ret (v := .tuple #[.slice b8 N c8, .bool false]) (by simp [results, Try.results39, go_sem]) rfl ⟨.slice b8 N c8, by rw [HB.out], KB.here, fun _ => KO.here⟩
end Go.Proofs.Yteffaghcjpeblaa
