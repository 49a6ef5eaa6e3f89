/- SpareTracks, by the reference and by the program: the two functions. No conditions. -/
import Derived.Test.YtmmneedmhmppoaaBt
import Derived.Test.YtmmneedmhmppoaaMk
import Derived.Maps.AppendAt
import Derived.Outline
namespace Go.Proofs.Ytmmneedmhmppoaa
open Go.RowKit
set_option linter.unusedVariables false
set_option linter.unusedSimpArgs false

section
variable {ops : Array Oper} {rest : List Oper} {o : Oper} {a : Act} {w : World} {Q : Exit → Act → World → Prop}
/-- a number is appended; other blocks stay -/
theorem append_int_at (hgd : o.guard = none) (s x : Operand) (ho : o.op = .call { callee := .builtin .append, args := #[s, x], argTypes := #[38, 38] }) (base : Nat) (v : Value) (l : List Int) (hs : a.eval s = v) (hown : OwnI w base v l)
    (g : Nat) (y : Int) (hx : a.eval x = .slice (some ⟨g, 0, none⟩) 1 1) (hc : w.cell? ⟨g, 0, none⟩ = some (.int .i64 y)) (hl : l.length ≤ 1000000) (hbase : base ≤ w.heap.size)
    (h : ∀ v' w', OwnI w' base v' (l ++ [y]) → Below base w w' → (∀ k, k < w.heap.size → some k ≠ v.ownBlock → w'.heap[k]? = w.heap[k]? ∧ some k ≠ v'.ownBlock) → wpList Try.prog ops Q rest (a.put o.dst v') w') : wpList Try.prog ops Q (o :: rest) a w := by
  obtain ⟨i0, hi, hz0, hz1, hz2⟩ := info_parts infoI64
  refine wpList_append_own_at w hgd s x 38 ho base 2 i0 (.int .i64 0) 1 8 Try.underlying38 hi hz0 hz1 hz2 rfl (by decide) v l.length _ hs hown ⟨g, 0, none⟩ 1 1 [.int .i64 y] hx rfl ?_ ?_ ?_ ?_ hbase ?_
  · intro j u hj
    match j, hj with
    | 0, hj => simp at hj; subst hj; simpa [Addr.add] using hc
  · intro u hu; simp at hu; subst hu; rfl
  · unfold maxLen; omega
  · omega
  · intro v' w' hown' hgrow _ hat
    refine h v' w' ?_ (Below.grown (Below.refl _ _) hgrow hbase fun k hk => (World.ownsRow.lt hown k hk).1) fun k hk hne => ⟨hgrow.block k hk hne, fun e => ?_⟩
    · unfold OwnI
      rw [List.length_append, List.map_append]
      exact hown'
    · rcases hat with h1 | h1
      · exact hne (e.trans h1)
      · rw [h1] at e; injection e with e; omega
end
/-- a block stays, beside what grows -/
theorem BlkAt.stay {w w' : World} {T : TypeId} {g n : Nat} {f : Nat → Value} (h : BlkAt w T g n f) (e : w'.heap[g]? = w.heap[g]?) : BlkAt w' T g n f := e.trans h
set_option maxRecDepth 100000 in
set_option maxHeartbeats 1000000 in
theorem specSpareTracks_any (s : Int) (a : Option Addr) (n c : Nat) (P R : Nat → Int) (D : Nat → Nat) (w : World) (hs : -32768 ≤ s ∧ s ≤ 32767) (hn : n ≤ 1048576) (hP : I8 P) (hR : I8 R) (hh : HamAt w a n P R) (hD : D32 D) :
    Calls Try.prog 23 #[.agg #[.int .i16 s, .slice a n c], .agg (dc D)] w fun e w' => ∃ v, e = .returned (.tuple #[v, .int .i64 (unl (okAll s n P R 1 (fun _ => D)) 1)]) ∧ Below w.heap.size w w' ∧ OwnI w' w.heap.size v (stV' s n P R D) := by
  have HP := Lib.hid hP; have HR := Lib.hid hR; have HD := Lib.hid hD; clear hP hR hD
  have KB := Kp.base w; have KH := kp_ham hh; clear hh
  replace KB := KB.alloc (.cells #[.int .i16 s, .slice a n c] 43)
  replace KH := KH.alloc (.cells #[.int .i16 s, .slice a n c] 43)
  have KF := kp_new1 w #[.int .i16 s, .slice a n c] 43 (g := w.heap.size) (by simp)
  replace KB := KB.alloc (.cells (dc D) 45)
  replace KH := KH.alloc (.cells (dc D) 45)
  replace KF := KF.alloc (.cells (dc D) 45)
  have KD := kp_newd (w.alloc (.cells #[.int .i16 s, .slice a n c] 43)) (D) 45 (g := w.heap.size + 1) (by simp)
  have HZ := Lib.hid (show ((w.alloc (.cells #[.int .i16 s, .slice a n c] 43)).alloc (.cells (dc D) 45)).heap.size = w.heap.size + 1 + 1 by simp)
  go_enter Try.func23, Try.ntmps23
  go_wp2_with fail
  generalize ((w.alloc (.cells #[.int .i16 s, .slice a n c] 43)).alloc (.cells (dc D) 45)) = W at KB KH KF KD HZ ⊢
  clear HZ
  refine (l02Asked_any w.heap.size (w.heap.size + 1) _ s a n c P R D W hs hn HP.out HR.out KH.here KF.here KD.here).mono ?_
  rintro e w1 ⟨rfl, hb1⟩
  replace KB := KB.on hb1
  replace KF := KF.on hb1
  replace KD := KD.on hb1
  clear hb1
  have hbs := KB.here.size
  cases hv : okAll s n P R 1 (fun _ => D)
  · have HV := Lib.hid hv; have HR1 := Lib.hid (stV'_no hv); clear hv
    rw [unl_false]
    have HN := Lib.hid (OwnI.nil w1 w.heap.size hbs)
    go_wp2
    go_ret2
    exact ⟨_, by rw [HV.out, unl_false]; rfl, (KB.alloc _).here, by rw [HR1.out]; exact HN.out⟩
  · obtain ⟨hS, hN, _⟩ := vFrame_iff.1 (okAll_iff.1 hv).1
    have HV := Lib.hid hv; have HR1 := Lib.hid (stV'_yes hv); clear hv
    rw [unl_true]
    have hn0 := OwnI.nil w1 w1.heap.size (Nat.le_refl _)
    rw [← spL_zero D] at hn0
    have HN0 := Lib.hid hn0; clear hn0
    go_wp2
    go_loopw [7, 8] (fun v i w' => Below w1.heap.size w1 w' ∧ ∃ k : Nat, k ≤ n ∧ i = .int .i64 k ∧ OwnI w' w1.heap.size v (spL D k)) (fun _ i _ => n - (intOf i).toNat)
    case atStart => exact ⟨(Below.refl _ _).alloc (Nat.le_refl _) _, 0, by omega, rfl, HN0.out⟩
    case round =>
      clear HN0
      obtain ⟨hb, k, hk, rfl, hown⟩ := hrel
      have HOWN := Lib.hid hown; clear hown
      have f1 := row_cell 1 (KF.at hb)
      by_cases hlt : k < n
      · have hk' : (k : Int) < n := by omega
        have HDA := Lib.hid (KD.at hb)
        have hsz := hb.size
        cases hu : usesT D k
        · have hy := Lib.hid (spL_spare hu)
          have hlen := spL_len D k
          go_wp2_with fail
          refine (l03Uses_any (w.heap.size + 1) _ D k wr HD.out (by omega) HDA.out).mono ?_
          rw [hu]
          rintro e w2 ⟨rfl, hb2⟩
          have hb3 := hb.trans (hb2.mono hsz)
          have hsz3 := hb3.size
          have HO2 := Lib.hid (HOWN.out.below hb2)
          go_wp2_with (at_builtin; refine append_int rfl _ _ rfl w1.heap.size _ (spL D k) rfl (HO2.out.alloc _) w2.heap.size (k : Int) rfl (by simp) (by omega) (by simp; omega) ?_; intro v2 w3 hown2 hb4; have HO3 := Lib.hid hown2; have HB3 := Lib.hid hb4; clear hown2 hb4)
          go_roundw
          case rel => exact ⟨(hb3.alloc hsz3 _).trans HB3.out, k + 1, by omega, by go_num, by rw [hy.out]; exact HO3.out⟩
          case measure => simp [intOf]; omega
        · have hy := Lib.hid (spL_used hu)
          go_wp2_with fail
          refine (l03Uses_any (w.heap.size + 1) _ D k wr HD.out (by omega) HDA.out).mono ?_
          rw [hu]
          rintro e w2 ⟨rfl, hb2⟩
          have hb3 := hb.trans (hb2.mono hsz)
          have HO2 := Lib.hid (HOWN.out.below hb2)
          go_wp2
          go_roundw
          case rel => exact ⟨hb3, k + 1, by omega, by go_num, by rw [hy.out]; exact HO2.out⟩
          case measure => simp [intOf]; omega
      · have hkn : k = n := by omega
        subst hkn
        go_wp2
        go_ret2
        exact ⟨_, by rw [HV.out, unl_true]; rfl, KB.at hb, by rw [HR1.out]; exact HOWN.out.mono hbs⟩
set_option maxRecDepth 100000 in
set_option maxHeartbeats 1000000 in
theorem implSpareTracks_any (s : Int) (a : Option Addr) (n c : Nat) (P R : Nat → Int) (D : Nat → Nat) (w : World) (hs : -32768 ≤ s ∧ s ≤ 32767) (hn : n ≤ 1048576) (hP : I8 P) (hR : I8 R) (hh : HamAt w a n P R) (hD : D32 D) :
    Calls Try.prog 26 #[.agg #[.int .i16 s, .slice a n c], .agg (dc D)] w fun e w' => ∃ v, e = .returned (.tuple #[v, .int .i64 (unl (okAll s n P R 1 (fun _ => D)) 1)]) ∧ Below w.heap.size w w' ∧ OwnI w' w.heap.size v (stV' s n P R D) := by
  have HP := Lib.hid hP; have HR := Lib.hid hR; have HD := Lib.hid hD; clear hP hR hD
  have KB := Kp.base w; have KH := kp_ham hh; clear hh
  replace KB := KB.alloc (.cells #[.int .i16 s, .slice a n c] 43)
  replace KH := KH.alloc (.cells #[.int .i16 s, .slice a n c] 43)
  have KF := kp_new1 w #[.int .i16 s, .slice a n c] 43 (g := w.heap.size) (by simp)
  replace KB := KB.alloc (.cells (dc D) 45)
  replace KH := KH.alloc (.cells (dc D) 45)
  replace KF := KF.alloc (.cells (dc D) 45)
  have KD := kp_newd (w.alloc (.cells #[.int .i16 s, .slice a n c] 43)) (D) 45 (g := w.heap.size + 1) (by simp)
  have HZ := Lib.hid (show ((w.alloc (.cells #[.int .i16 s, .slice a n c] 43)).alloc (.cells (dc D) 45)).heap.size = w.heap.size + 1 + 1 by simp)
  go_enter Try.func26, Try.ntmps26
  go_wp2_with (first | (with_reducible refine load_iframe rfl _ rfl w.heap.size rfl _ s a n c KF.here ?_) | (with_reducible refine load_drum rfl _ rfl (w.heap.size + 1) rfl _ D KD.here ?_) | (with_reducible refine build1 rfl _ rfl D rfl ?_))
  generalize ((w.alloc (.cells #[.int .i16 s, .slice a n c] 43)).alloc (.cells (dc D) 45)) = W at KB KH KF KD HZ ⊢
  have hz := HZ.out
  have hl := DrumsAt.one W D (fun _ => D) rfl
  rw [hz] at hl
  refine (drumCode_any s a n c P R _ 1 1 (fun _ => D) _ (by omega) (by omega) hs HP.out HR.out (KH.alloc _).here hl).mono ?_
  rintro e w1 ⟨rfl, hb1⟩
  replace KB := KB.alloc (.cells (dc D) 45)
  replace KF := KF.alloc (.cells (dc D) 45)
  replace KD := KD.alloc (.cells (dc D) 45)
  replace KB := KB.on hb1
  replace KF := KF.on hb1
  replace KD := KD.on hb1
  clear hb1 hz hl
  have hbs := KB.here.size
  cases hv : okAll s n P R 1 (fun _ => D)
  · have HV := Lib.hid hv; have HR1 := Lib.hid (stV'_no hv); clear hv
    rw [unl_false]
    go_wp2
    go_ret2
    exact ⟨_, by rw [HV.out, unl_false]; rfl, KB.here, by rw [HR1.out]; exact OwnI.none0 _ _⟩
  · obtain ⟨hS, hN, _⟩ := vFrame_iff.1 (okAll_iff.1 hv).1
    have hvd := hasPin_valid ((okAll_iff.1 hv).2 0 (by omega)) hS
    have HV := Lib.hid hv; have HR1 := Lib.hid (stV'_yes hv); clear hv
    rw [unl_true]
    have hn0 := OwnI.nil w1 w1.heap.size (Nat.le_refl _)
    rw [← spL_zero D] at hn0
    have HN0 := Lib.hid hn0; clear hn0
    have huse : ∀ i, i < n → (usesT D i = true ↔ btN D n (s.toNat * n) i ≠ 0) := by
      intro i hi
      have hbd := btN_bound D n (s.toNat * n) i
      have hps := btN_pos (D := D) hi s.toNat
      rw [usesT_iff]
      constructor
      · rintro ⟨k, hk, hp⟩
        have h2 : k < s.toNat := by
          rcases Nat.lt_or_ge k s.toNat with h | h
          · exact h
          · rw [hvd.2 k i hk h] at hp; cases hp
        have h3 := hps.2 ⟨k, h2, hp⟩
        omega
      · intro h
        obtain ⟨k, hk, hp⟩ := hps.1 (by omega)
        exact ⟨k, by omega, hp⟩
    have HUSE := Lib.hid huse; clear huse hvd
    have e0 : (w1.alloc (.cells #[] 2)).heap.size = w1.heap.size + 1 := by simp
    go_wp2_with (first | (with_reducible refine load_iframe rfl _ rfl w.heap.size rfl _ s a n c (KF.alloc _).here ?_) | (with_reducible refine load_drum rfl _ rfl (w.heap.size + 1) rfl _ D (KD.alloc _).here ?_))
    refine (byTrack_any s a n c D _ hS hN HD.out).mono ?_
    rintro e w2 ⟨g, rfl, hb2, hg, hB⟩
    rw [e0] at hg
    have hb3 : Below w1.heap.size w1 w2 := ((Below.refl _ _).alloc (Nat.le_refl _) (.cells #[] 2)).trans (hb2.mono (by simp))
    have HN1 := Lib.hid (HN0.out.below hb2)
    have hgl := hB.lt
    have KBT := Lib.hid hB; clear hB HN0
    have hpb := place_bound (s := s.toNat) (n := n) (by omega) (by omega)
    obtain ⟨J, hJ⟩ : ∃ J, s.toNat * n = J := ⟨_, rfl⟩
    rw [hJ] at HUSE KBT hpb
    go_wp2
    go_loopw [7, 22] (fun v i w' => Below w1.heap.size w1 w' ∧ w2.heap.size ≤ w'.heap.size ∧ ∃ k : Nat, k ≤ n ∧ i = .int .i64 k ∧ OwnI w' w1.heap.size v (spL D k) ∧ some g ≠ v.ownBlock ∧ BlkAt w' 2 g n (fun i => .int .i64 (btN D n J i))) (fun _ i _ => n - (intOf i).toNat)
    case atStart => exact ⟨hb3, Nat.le_refl _, 0, by omega, rfl, HN1.out, by simp [Value.ownBlock]; omega, KBT.out⟩
    case round =>
      clear HN1 KBT
      obtain ⟨hb, hsz2, k, hk, rfl, hown, hne, hblk⟩ := hrel
      have HOWN := Lib.hid hown; have HBL := Lib.hid hblk; have HNE := Lib.hid hne; clear hown hblk hne
      by_cases hlt : k < n
      · have hk' : (k : Int) < n := by omega
        have c0 := HBL.out.cell k hlt
        have hbd := btN_bound D n J k
        have hsz := hb.size
        by_cases hz : btN D n J k = 0
        · have hu : usesT D k = false := by
            cases h : usesT D k
            · rfl
            · exact absurd hz ((HUSE.out k hlt).1 h)
          have hy := Lib.hid (spL_spare hu)
          have hlen := spL_len D k
          clear hu
          rw [hz] at c0
          clear hz hbd
          go_wp2_with (at_builtin; refine append_int_at rfl _ _ rfl w1.heap.size _ (spL D k) rfl (HOWN.out.alloc _) wr.heap.size (k : Int) rfl (by simp) (by omega) (by simp; omega) ?_; intro v2 w3 hown2 hb4 hst; have HO3 := Lib.hid hown2; have HB3 := Lib.hid hb4; have HST := Lib.hid (hst g (by simp; omega) HNE.out); clear hown2 hb4 hst)
          go_roundw
          case rel =>
            have hb5 := (hb.alloc hsz (.cells #[.int .i64 (k : Int)] 2)).trans HB3.out
            have h9 := HB3.out.size
            simp at h9
            exact ⟨hb5, by omega, k + 1, by omega, by go_num, by rw [hy.out]; exact HO3.out, HST.out.2, (HBL.out.alloc _).stay HST.out.1⟩
          case measure => simp [intOf]; omega
        · have hu := (HUSE.out k hlt).2 hz
          have hy := Lib.hid (spL_used hu)
          clear hu
          go_wp2
          go_roundw
          case rel => exact ⟨hb, hsz2, k + 1, by omega, by go_num, by rw [hy.out]; exact HOWN.out, HNE.out, HBL.out⟩
          case measure => simp [intOf]; omega
      · have hkn : k = n := by omega
        subst hkn
        go_wp2
        go_ret2
        exact ⟨_, by rw [HV.out, unl_true]; rfl, KB.at hb, by rw [HR1.out]; exact HOWN.out.mono hbs⟩
end Go.Proofs.Ytmmneedmhmppoaa
