/- FrameFor, by the reference and by the program. No conditions. -/
import Derived.Test.YteffaghcjpeblaaFf
import Derived.Test.YteffaghcjpeblaaMk1
import Derived.Outline
namespace Go.Proofs.Yteffaghcjpeblaa
open Go.RowKit
set_option linter.unusedVariables false
set_option linter.unusedSimpArgs false

/-- a box with a frame -/
def FrAt (W : World) (g : Nat) (s : Int) (v : Value) : Prop := W.heap[g]? = some (.cells #[.int .i16 s, v] 27 (0, 0))
section
variable {ops : Array Oper} {rest : List Oper} {o : Oper} {a : Act} {w : World} {Q : Exit → Act → World → Prop}
theorem store_frame (hgd : o.guard = none) (x y : Operand) (ho : o.op = .store 27 x y) (g : Nat) (s : Int) (v : Value) (hx : a.eval x = .pointer (some ⟨g, 0, none⟩)) (hy : a.eval y = .agg #[.int .i16 s, v]) (h1 : v.oneCell' = true) (s0 : Int) (v0 : Value) (hg : FrAt w g s0 v0)
    (h : wpList Try.prog ops Q rest (a.put o.dst undef) (w.setRow g #[.int .i16 s, v])) : wpList Try.prog ops Q (o :: rest) a w :=
  wpList_store_row hgd _ x y ho g #[.int .i16 s, v] hx hy _ _ hg (by kernel_rfl) rfl (by rw [Array.all_eq_true]; intro i hi; match i, hi with | 0, _ => rfl | 1, _ => exact h1) h
end
theorem results_frame2 {fn : Func} {p q : Tmp} (h : fn.results = #[.cell p 27, .tmp q]) (tmps : Array Value) (w : World) (g : Nat) (s : Int) (u v : Value)
    (hp : tmps.getD p undef = .pointer (some ⟨g, 0, none⟩)) (hg : FrAt w g s u) (hv : tmps.getD q undef = v) : (results fn tmps).run Try.prog w = .ok (.tuple #[.agg #[.int .i16 s, u], v]) w := by
  have hp' : tmps[p]?.getD undef = .pointer (some ⟨g, 0, none⟩) := by simpa using hp
  have hv' : tmps[q]?.getD undef = v := by simpa using hv
  simp [results, h, hp', hv', asAddr, run_loadVar_row w g _ 27 #[.int .i16 s, u] (0, 0) _ hg Try.underlying27 rfl (by kernel_rfl)]
theorem grown_setRow (w : World) (g : Nat) (cs : Array Value) : w.grownBy (w.setRow g cs) (some g) :=
  ⟨rfl, rfl, rfl, by simp, fun x hx hne => setRow_other w g x cs (fun e => hne (by rw [e]))⟩
theorem OwnH.none0 (w : World) (base : Nat) : OwnH w base (.slice none 0 0) [] := by unfold OwnH OwnL; exact World.ownsRow_nil _ _ _ _
theorem FrAt.set {w : World} {g : Nat} {s s0 : Int} {v v0 : Value} (h : FrAt w g s0 v0) : FrAt (w.setRow g #[.int .i16 s, v]) g s v := setRow_heap _ _ _ _ _ _ h
/-- the two boxes, and the hammers so far -/
structure FFS (g6 g8 : Nat) (w0 : World) (s : Int) (v : Value) (L : List (Int × Int)) (W : World) : Prop where
  b : Below g6 w0 W
  z : g6 < g8
  r6 : FrAt W g6 0 (.slice none 0 0)
  r8 : FrAt W g8 s v
  o : OwnH W (g8 + 1) v L
theorem FrAt.alloc {w : World} {g : Nat} {s : Int} {v : Value} (h : FrAt w g s v) (o : Obj) : FrAt (w.alloc o) g s v := (Below.heap_alloc w o g (row_lt h)).trans h
section
variable {g6 g8 : Nat} {w0 W V : World} {s : Int} {v : Value} {L : List (Int × Int)}
theorem FFS.lt (h : FFS g6 g8 w0 s v L W) : g8 < W.heap.size := row_lt h.r8
theorem FFS.stay (h : FFS g6 g8 w0 s v L W) (hb : Below W.heap.size W V) : FFS g6 g8 w0 s v L V :=
  ⟨h.b.trans (hb.mono (Nat.le_of_lt (row_lt h.r6))), h.z, (hb.block _ (row_lt h.r6)).trans h.r6, (hb.block _ (row_lt h.r8)).trans h.r8, h.o.below hb⟩
theorem FFS.kp (h : FFS g6 g8 w0 s v L W) : Kp W (FFS g6 g8 w0 s v L) := Kp.mk fun _ hb => h.stay hb
/-- a hammer more -/
theorem FFS.push (h : FFS g6 g8 w0 s v L W) (hb : Below (g8 + 1) W V) {v' : Value} {L' : List (Int × Int)} (ho : OwnH V (g8 + 1) v' L') : FFS g6 g8 w0 s v' L' (V.setCell ⟨g8, 1, none⟩ v') := by
  have r8 := (hb.block g8 (by omega)).trans h.r8
  have hg := grown_set (grown_refl V (some g8)) rfl 1 v'
  have hz := h.z
  refine ⟨(h.b.trans (hb.mono (by omega))).trans (below_grown hg (Nat.le_trans (Nat.le_of_lt hz) (Nat.le_of_lt (row_lt r8))) (fun k e => by cases e; omega)), h.z, ?_, ?_, own_grown ho hg (fun k e => by cases e; omega)⟩
  · exact (heap_setCell_other V _ g6 _ (by show g6 ≠ g8; omega)).trans ((hb.block g6 (by omega)).trans h.r6)
  · have e := heap_setCell_same V g8 1 _ _ v' r8
    exact e
end
set_option maxRecDepth 100000 in
set_option maxHeartbeats 4000000 in
theorem specFrameFor_any (s r : Int) (q : Option Addr) (n c : Nat) (A P : Nat → Int) (w : World) (_ : -9223372036854775808 ≤ s ∧ s ≤ 9223372036854775807) (_ : -9223372036854775808 ≤ r ∧ r ≤ 9223372036854775807) (hn : n ≤ 1048576) (hA : I16 A) (hP : I8 P) (hh : NoteAt w q n A P) :
    Calls Try.prog 6 #[.int .i64 s, .int .i64 r, .slice q n c] w fun e w' => ∃ v, e = .returned (.tuple #[.agg #[.int .i16 (ffS s r n A P), v], .int .i64 (ffC s r n A P)]) ∧ Below w.heap.size w w' ∧ OwnH w' w.heap.size v (ffL s r n A P) := by
  have HA := Lib.hid hA; have HP := Lib.hid hP; clear hA hP
  have KH := kp_note hh; clear hh
  have KB := Kp.base w
  have HH0 := Lib.hid KH.here
  replace KH := KH.alloc (.cells #[.int .i16 0, .slice none 0 0] 27)
  replace KB := KB.alloc (.cells #[.int .i16 0, .slice none 0 0] 27)
  have K6 := kp_new1 w #[.int .i16 0, .slice none 0 0] 27 (g := w.heap.size) (by simp)
  have HZ := Lib.hid (show (w.alloc (.cells #[.int .i16 0, .slice none 0 0] 27)).heap.size = w.heap.size + 1 by simp)
  have hsz0 := KB.here.size
  have hok := fun V : World => fun hV : Below (w.alloc (.cells #[.int .i16 0, .slice none 0 0] 27)).heap.size (w.alloc (.cells #[.int .i16 0, .slice none 0 0] 27)) V => l01Ok_any q n c A P V (by omega) HA.out HP.out (KH.at hV)
  have hrd := fun V : World => l03Sized_any s r V
  have hln := fun (V : World) (hV : Below (w.alloc (.cells #[.int .i16 0, .slice none 0 0] 27)).heap.size (w.alloc (.cells #[.int .i16 0, .slice none 0 0] 27)) V) => l01Length_any q n c A P V (by omega) HA.out (KH.at hV)
  have HBAD := Lib.hid (ff_bad s r n A P)
  have HBT := Lib.hid (ffA_tune s r n A P); have HBR := Lib.hid (ffA_rd s r n A P); have HBL := Lib.hid (ffA_len s r n A P); have HOK := Lib.hid (ffA_ok s r n A P)
  have HOKC := Lib.hid hok; have HRD := Lib.hid hrd; have HLN := Lib.hid hln; clear hok hrd hln
  have K6' : Kp (w.alloc (.cells #[.int .i16 0, .slice none 0 0] 27)) (fun V => FrAt V w.heap.size 0 (.slice none 0 0)) := K6
  cases hv : vTune n A P
  · rw [hv] at HOKC
    have HX := Lib.hid (HBAD.out (by rw [HBT.out hv]; decide))
    rw [HBT.out hv] at HX
    clear hv
    go_enter Try.func6, Try.ntmps6
    go_wp2_with (first | (go_at_call 19; refine (HOKC.out _ (Below.refl _ _)).mono ?_; rintro e w2 ⟨rfl, hb2⟩) | (with_reducible refine store_frame rfl _ _ rfl w.heap.size 0 (.slice none 0 0) rfl rfl rfl 0 (.slice none 0 0) (K6'.at hb2) ?_))
    exact bodyPost_ret (results_frame2 rfl _ _ w.heap.size 0 (.slice none 0 0) (.int .i64 1) rfl (K6'.at hb2).set rfl) rfl ⟨.slice none 0 0, by rw [HX.out.2.1, HX.out.2.2], below_setRow (KB.at hb2) (Nat.le_refl _) _, by rw [HX.out.1]; exact OwnH.none0 _ _⟩
  · rw [hv] at HOKC
    cases hr : rdB s r
    · rw [hr] at HRD
      have HX := Lib.hid (HBAD.out (by rw [HBR.out hv hr]; decide))
      rw [HBR.out hv hr] at HX
      clear hv hr
      go_enter Try.func6, Try.ntmps6
      go_wp2_with (first | (go_at_call 19; refine (HOKC.out _ (Below.refl _ _)).mono ?_; rintro e w2 ⟨rfl, hb2⟩) | (go_at_call 20; refine (HRD.out _).mono ?_; rintro e w3 ⟨rfl, rfl⟩) | (with_reducible refine store_frame rfl _ _ rfl w.heap.size 0 (.slice none 0 0) rfl rfl rfl 0 (.slice none 0 0) (K6'.at hb2) ?_))
      exact bodyPost_ret (results_frame2 rfl _ _ w.heap.size 0 (.slice none 0 0) (.int .i64 2) rfl (K6'.at hb2).set rfl) rfl ⟨.slice none 0 0, by rw [HX.out.2.1, HX.out.2.2], below_setRow (KB.at hb2) (Nat.le_refl _) _, by rw [HX.out.1]; exact OwnH.none0 _ _⟩
    · rw [hr] at HRD
      by_cases hl : tLen n A ≤ s
      · have HFA := Lib.hid (HOK.out hv hr hl)
        have HST := Lib.hid (fun p : Int => pAt_inS s A P (p := p) (k := n) (ff_steps s n A P hv hl))
        obtain ⟨hs, hr2, hrs⟩ := rdB_iff.1 hr
        have hn120 := (vTune_facts hv).1
        have HTF := Lib.hid (vTune_facts hv).2.1
        clear hv hr
        have q0 := i16_idF (x := s) (by omega)
        have q1 := i8_idF (x := r) (by omega)
        go_enter Try.func6, Try.ntmps6
        go_wp2_with (first | (go_at_call 19; refine (HOKC.out _ (Below.refl _ _)).mono ?_; rintro e w2 ⟨rfl, hb2⟩) | (go_at_call 20; refine (HRD.out _).mono ?_; rintro e w3 ⟨rfl, rfl⟩) | (go_at_call 21; refine (HLN.out _ hb2).mono ?_; rintro e w3 ⟨rfl, rfl⟩))
        have hff0 : FFS w.heap.size w2.heap.size w s (.slice none 0 0) [] (w2.alloc (.cells #[.int .i16 s, .slice none 0 0] 27)) :=
          ⟨(KB.at hb2).alloc (KB.at hb2).size _, by have := hb2.size; simp at this; omega, (K6'.at hb2).alloc _, heap_alloc_new _ _, OwnH.none0 _ _⟩
        have HFF0 := Lib.hid hff0; clear hff0
        have KH2 := (KH.on hb2).alloc (.cells #[.int .i16 s, .slice none 0 0] 27)
        obtain ⟨g8, hg8⟩ : ∃ g, w2.heap.size = g := ⟨_, rfl⟩
        simp only [hg8] at HFF0 ⊢
        clear hg8 HRD HLN HOKC
        generalize w2.alloc (.cells #[.int .i16 s, .slice none 0 0] 27) = W0 at HFF0 KH2 ⊢
        clear hb2
        go_loopw [9, 10] (fun o i w' => ∃ p : Nat, p ≤ 48 ∧ i = .int .i8 (p : Int) ∧ (∀ y, y < p → bigB n A P y = false) ∧ ∃ (v : Value) (L : List (Int × Int)) (bo : Bool), o = .bool bo ∧ FFS w.heap.size g8 w s v L w' ∧ L.length ≤ 25 ∧ (bo = false → L = hmL s r n A P p ∧ L.length ≤ 24) ∧ (bo = true → 24 < (hmL s r n A P p).length)) (fun _ i _ => 48 - (intOf i).toNat)
        case atStart => exact ⟨0, by omega, rfl, fun y hy => by omega, .slice none 0 0, [], false, rfl, HFF0.out, by simp, fun _ => ⟨(hmL_zero s r n A P).symm, by simp⟩, fun e => by cases e⟩
        case round =>
          obtain ⟨p, hp, rfl, hbg, v, L, bo, rfl, hff, hL25, hL0, hL1⟩ := hrel
          have HBG := Lib.hid hbg; have HL0 := Lib.hid hL0; have HL1 := Lib.hid hL1; clear hbg hL0 hL1
          have KFF := hff.kp; have KN := kp_note (HH0.out.below hff.b)
          have hgl : w.heap.size < wr.heap.size := row_lt hff.r6
          clear hff HFF0 KH2
          by_cases hlt : p < 48
          · have hlt' : (p : Int) < 48 := by omega
            have q2 := i8_idF (x := (p : Int) + 1) (by omega)
            have q3 := i8_idF (x := (p : Int)) (by omega)
            go_wp2
            obtain ⟨U, rfl⟩ : ∃ U, U = wr := ⟨wr, rfl⟩
            go_loopw [11, 12] (fun y i w' => ∃ k : Nat, k ≤ n ∧ i = .int .i64 k ∧ Below U.heap.size U w' ∧ OwnI w' U.heap.size y (pAt A P (p : Int) k)) (fun _ i _ => n - (intOf i).toNat)
            case atStart => exact ⟨0, by omega, rfl, (Below.refl _ _).alloc (Nat.le_refl _) _, by rw [pAt_zero]; exact OwnI.nil U U.heap.size (Nat.le_refl _)⟩
            case round =>
              obtain ⟨k, hk, rfl, hb, hy⟩ := hrel
              have KFF1 := KFF.on hb; have KN1 := KN.on hb
              have HY := Lib.hid hy
              have hlen := pAt_len A P (p : Int) k
              by_cases hk2 : k < n
              · have hk' : (k : Int) < n := by omega
                obtain ⟨gg, off, rfl, hgg, hcg⟩ := NoteAt.get KN1.here (by omega)
                have c0 := (hcg k hk2).1
                have c1 := (hcg k hk2).2
                clear hcg hy
                have hAk := HA.out k
                have q4 := i64_id (x := A k) (by have := hAk; omega)
                have HYES := Lib.hid (pAt_yes A P (p := (p : Int)) (k := k)); have HNO := Lib.hid (pAt_no A P (p := (p : Int)) (k := k))
                by_cases hpk : P k = (p : Int)
                · have HX := Lib.hid (HYES.out hpk)
                  clear HYES HNO
                  obtain ⟨pk, hpk2⟩ : ∃ x, P k = x := ⟨_, rfl⟩
                  simp only [hpk2] at c1 hpk
                  subst hpk
                  have hsz1 := hb.size
                  have HB := Lib.hid hb; clear hb
                  go_wp2_with (at_builtin; refine append_int rfl _ _ rfl U.heap.size _ (pAt A P (p : Int) k) rfl (HY.out.alloc _) wr.heap.size (A k) rfl (by simp) (by omega) (by simp; omega) ?_; intro v5 w5 hown5 hb5; have HO5 := Lib.hid hown5; have HB5 := Lib.hid hb5; clear hown5 hb5)
                  go_roundw
                  case rel => exact ⟨k + 1, by omega, by go_num, (HB.out.alloc hsz1 _).trans HB5.out, by rw [HX.out]; exact HO5.out⟩
                  case measure => simp [intOf]; omega
                · have HX := Lib.hid (HNO.out hpk)
                  clear HYES HNO
                  have HB := Lib.hid hb; clear hb
                  go_wp2
                  go_roundw
                  case rel => exact ⟨k + 1, by omega, by go_num, HB.out, by rw [HX.out]; exact HY.out⟩
                  case measure => simp [intOf]; omega
              · have hkn : n = k := by omega
                subst hkn
                have hbu := hb.size
                have hbase : Below w.heap.size w wr := KFF1.here.b
                obtain ⟨yb, yc, rfl, _⟩ := OwnI.at hy
                obtain ⟨m, hm⟩ : ∃ m, (pAt A P (p : Int) n).length = m := ⟨_, rfl⟩
                have HM := Lib.hid hm
                rw [hm] at HY hlen ⊢
                clear hy
                cases hbig : bigB n A P p
                · have hm14 : ¬ 14 < m := fun e => by rw [← hm, ← bigB_iff] at e; rw [hbig] at e; cases e
                  have HBIG := Lib.hid hbig
                  clear hm hbig
                  have hm14' : ¬ (14 : Int) < m := by omega
                  have hcall := l03Needed_any U.heap.size s r (pAt A P (p : Int) n) (.slice yb m yc) wr hs (by have := HM.out; omega) (HST.out (p : Int)) hbu HY.out
                  have HLEN := Lib.hid (hmL_len s r n A P p); have HSUC := Lib.hid (hmL_succ s r n A P p)
                  obtain ⟨N, hN⟩ : ∃ N, needN s r (pAt A P (p : Int) n) = N := ⟨_, rfl⟩
                  have hN14 : N ≤ 14 := by rw [← hN]; have := need_le (s := s) (r := r) (ats := pAt A P (p : Int) n); have := HM.out; omega
                  rw [hN] at hcall HLEN HSUC
                  have HCALL := Lib.hid hcall
                  clear hN hcall
                  go_wp2_with (go_at_call 22; refine HCALL.out.mono ?_; rintro e w3 ⟨rfl, hb3⟩)
                  have KFF2 := KFF1.on hb3
                  have HFF2 := Lib.hid KFF2.here
                  clear KFF KFF1 KFF2 KN KN1 hb hb3 hbase hbu hgl HY HCALL
                  go_loopw [9, 13] (fun o i w' => ∃ j : Nat, j ≤ N ∧ i = .int .i64 ((N : Int) - j) ∧ ∃ (v : Value) (L : List (Int × Int)) (bo : Bool), o = .bool bo ∧ FFS w.heap.size g8 w s v L w' ∧ L.length ≤ 25 ∧ (bo = false → L = hmL s r n A P p ++ List.replicate j ((p : Int), r) ∧ L.length ≤ 24) ∧ (bo = true → 24 < (hmL s r n A P p).length + j)) (fun _ i _ => (intOf i).toNat)
                  case atStart => exact ⟨0, by omega, by simp, v, L, bo, rfl, HFF2.out, hL25, fun e => by rw [List.replicate_zero, List.append_nil]; exact HL0.out e, fun e => by have := HL1.out e; omega⟩
                  case round =>
                    clear HFF2
                    obtain ⟨j, hj, rfl, v, L, bo, rfl, hff, hL25, hL0, hL1⟩ := hrel
                    have KF := hff.kp
                    have HLA := Lib.hid hL0; have HLB := Lib.hid hL1; clear hL0 hL1
                    have hz8 := hff.z
                    cases bo
                    · obtain ⟨hLe, hL24⟩ := HLA.out rfl
                      obtain ⟨b1, c1, rfl⟩ := OwnL.form hff.o
                      obtain ⟨lL, hlL⟩ : ∃ m, L.length = m := ⟨_, rfl⟩
                      have HLL := Lib.hid hlL
                      rw [hlL] at KF hL24 hff
                      have HLE := Lib.hid hLe
                      clear hLe hlL
                      by_cases hjN : j < N
                      · have hjN' : (0 : Int) < (N : Int) - j := by omega
                        have p1 := row_cell 1 KF.here.r8
                        have HFF := Lib.hid hff; clear hff
                        have q5 := i64_id (x := (N : Int) - j - 1) (by omega)
                        have hg8 := KF.here.lt
                        go_wp2_with (at_builtin; refine append_hammers rfl _ _ rfl (g8 + 1) (.slice b1 lL c1) L rfl (OwnH.alloc HFF.out.o (.cells #[.int .i8 (p : Int), .int .i8 r] 59)) ⟨wr.heap.size, 0, none⟩ 1 1 [((p : Int), r)] rfl rfl (one_cells (enc := encH) (heap_alloc_new wr _)) (by have := HLL.out; simp; omega) (by simp; omega) ?_; intro v5 w5 hown5 hb5; obtain ⟨b5, c5, rfl⟩ := OwnL.form hown5; rw [show (L ++ [((p : Int), r)]).length = lL + 1 from by have := HLL.out; simp [this]] at hown5 ⊢; have r85 := (hb5.block g8 (by omega)).trans ((heap_alloc_old wr _ (row_lt HFF.out.r8)).trans HFF.out.r8); have f5 := frozen_of_row w5 g8 1 _ _ r85; have c85 := row_cell 1 r85; have p2 := (row_cell 1 (heap_setCell_same w5 g8 1 _ _ (.slice b5 (lL + 1) c5) r85)).trans rfl; have HPUSH := Lib.hid (HFF.out.push (((Below.refl _ wr).alloc hg8 _).trans hb5) hown5); clear r85 hb5 hown5)
                        have hnum : (N : Int) - j - 1 = N - ((j + 1 : Nat) : Int) := by omega
                        refine ⟨⟨j + 1, by omega, by rw [hnum], _, L ++ [((p : Int), r)], decide ((24 : Int) < lL + 1), rfl, HPUSH.out, by have := HLL.out; simp [this]; omega, fun e => ?_, fun e => ?_⟩, by simp [intOf]; omega⟩
                        · rw [decide_eq_false_iff_not] at e
                          exact ⟨by rw [HLE.out, List.replicate_succ', List.append_assoc], by have := HLL.out; simp [this]; omega⟩
                        · rw [decide_eq_true_iff] at e
                          have h1 := HLL.out
                          rw [HLE.out, List.length_append, List.length_replicate] at h1
                          omega
                      · have hjN2 : j = N := by omega
                        subst hjN2
                        have hjN' : ¬ (0 : Int) < (j : Int) - j := by omega
                        have HFF := Lib.hid hff; clear hff
                        go_wp2
                        exact ⟨⟨p + 1, by omega, by go_num, fun y hy => if e : y = p then e ▸ HBIG.out else HBG.out y (by omega), _, L, false, rfl, HFF.out, by have := HLL.out; omega, fun _ => ⟨by rw [HLE.out, HSUC.out], by have := HLL.out; omega⟩, fun e => by cases e⟩, by simp [intOf]; omega⟩
                    · have HFF := Lib.hid hff; clear hff
                      have h24 := HLB.out rfl
                      by_cases hjN' : (0 : Int) < (N : Int) - j
                      all_goals
                        go_wp2
                        exact ⟨⟨p + 1, by omega, by go_num, fun y hy => if e : y = p then e ▸ HBIG.out else HBG.out y (by omega), _, L, true, rfl, HFF.out, hL25, (fun e => by cases e), fun _ => by rw [HLEN.out]; omega⟩, by simp [intOf]; omega⟩
                · have hm14 : 14 < m := by rw [← hm, ← bigB_iff]; exact hbig
                  have HX := Lib.hid (ff_big s r n A P HFA.out hlt hbig)
                  clear hm hbig
                  have hm14' : (14 : Int) < m := by omega
                  have HB := Lib.hid hb; clear hb
                  go_wp2_with (with_reducible refine store_frame rfl _ _ rfl w.heap.size 0 (.slice none 0 0) rfl rfl rfl 0 (.slice none 0 0) KFF1.here.r6 ?_)
                  exact bodyPost_ret (results_frame2 rfl _ _ w.heap.size 0 (.slice none 0 0) (.int .i64 3) rfl KFF1.here.r6.set rfl) rfl ⟨.slice none 0 0, by rw [HX.out.2.1, HX.out.2.2], below_setRow KFF1.here.b (Nat.le_refl _) _, by rw [HX.out.1]; exact OwnH.none0 _ _⟩
          · have hp48 : p = 48 := by omega
            subst hp48
            cases bo
            · obtain ⟨hLe, hL24⟩ := HL0.out rfl
              have h24 : ¬ 24 < (hmL s r n A P 48).length := by rw [← hLe]; omega
              by_cases hn0 : n = 0
              · have HX := Lib.hid (ff_none s r n A P HFA.out HBG.out h24 hn0)
                have hn0' : ((n : Int) == 0) = true := by simp [hn0]
                have hn0'' : (n : Int) = 0 := by omega
                clear hLe hn0
                go_wp2_with (with_reducible refine store_frame rfl _ _ rfl w.heap.size 0 (.slice none 0 0) rfl rfl rfl 0 (.slice none 0 0) KFF.here.r6 ?_)
                exact bodyPost_ret (results_frame2 rfl _ _ w.heap.size 0 (.slice none 0 0) (.int .i64 6) rfl KFF.here.r6.set rfl) rfl ⟨.slice none 0 0, by rw [HX.out.2.1, HX.out.2.2], below_setRow KFF.here.b (Nat.le_refl _) _, by rw [HX.out.1]; exact OwnH.none0 _ _⟩
              · have HX := Lib.hid (ff_ok s r n A P HFA.out HBG.out h24 hn0)
                have hn0' : ((n : Int) == 0) = false := beq_false_of_ne (by omega)
                have hn0'' : ¬ (n : Int) = 0 := by omega
                obtain ⟨b1, c1, rfl⟩ := OwnL.form KFF.here.o
                have HLE := Lib.hid hLe
                obtain ⟨lL, hlL⟩ : ∃ m, L.length = m := ⟨_, rfl⟩
                rw [hlL] at KFF
                clear hLe hn0 hlL
                have hz := KFF.here.z
                have R8 : wr.heap[g8]? = some (.cells #[.int .i16 s, .slice b1 lL c1] 27 (0, 0)) := KFF.here.r8
                go_wp2_with (first | (with_reducible refine load_iframe rfl _ rfl g8 rfl _ s b1 lL c1 R8 ?_) | (with_reducible refine store_frame rfl _ _ rfl w.heap.size s (.slice b1 lL c1) rfl rfl rfl 0 (.slice none 0 0) KFF.here.r6 ?_))
                exact bodyPost_ret (results_frame2 rfl _ _ w.heap.size s (.slice b1 lL c1) (.int .i64 0) rfl KFF.here.r6.set rfl) rfl ⟨.slice b1 lL c1, by rw [HX.out.2.1, HX.out.2.2], below_setRow KFF.here.b (Nat.le_refl _) _, by rw [HX.out.1, ← HLE.out]; exact OwnH.mono (own_grown KFF.here.o (grown_setRow _ w.heap.size _) (fun k e => by cases e; omega)) (by omega)⟩
            · have h24 := HL1.out rfl
              have HX := Lib.hid (ff_many s r n A P HFA.out HBG.out h24)
              go_wp2_with (with_reducible refine store_frame rfl _ _ rfl w.heap.size 0 (.slice none 0 0) rfl rfl rfl 0 (.slice none 0 0) KFF.here.r6 ?_)
              exact bodyPost_ret (results_frame2 rfl _ _ w.heap.size 0 (.slice none 0 0) (.int .i64 3) rfl KFF.here.r6.set rfl) rfl ⟨.slice none 0 0, by rw [HX.out.2.1, HX.out.2.2], below_setRow KFF.here.b (Nat.le_refl _) _, by rw [HX.out.1]; exact OwnH.none0 _ _⟩
      · have HX := Lib.hid (HBAD.out (by rw [HBL.out hv hr hl]; decide))
        rw [HBL.out hv hr hl] at HX
        clear hv hr
        go_enter Try.func6, Try.ntmps6
        go_wp2_with (first | (go_at_call 19; refine (HOKC.out _ (Below.refl _ _)).mono ?_; rintro e w2 ⟨rfl, hb2⟩) | (go_at_call 20; refine (HRD.out _).mono ?_; rintro e w3 ⟨rfl, rfl⟩) | (go_at_call 21; refine (HLN.out _ hb2).mono ?_; rintro e w3 ⟨rfl, rfl⟩) | (with_reducible refine store_frame rfl _ _ rfl w.heap.size 0 (.slice none 0 0) rfl rfl rfl 0 (.slice none 0 0) (K6'.at hb2) ?_))
        exact bodyPost_ret (results_frame2 rfl _ _ w.heap.size 0 (.slice none 0 0) (.int .i64 2) rfl (K6'.at hb2).set rfl) rfl ⟨.slice none 0 0, by rw [HX.out.2.1, HX.out.2.2], below_setRow (KB.at hb2) (Nat.le_refl _) _, by rw [HX.out.1]; exact OwnH.none0 _ _⟩

set_option maxRecDepth 100000 in
set_option maxHeartbeats 4000000 in
theorem implFrameFor_any (s r : Int) (q : Option Addr) (n c : Nat) (A P : Nat → Int) (w : World) (_ : -9223372036854775808 ≤ s ∧ s ≤ 9223372036854775807) (_ : -9223372036854775808 ≤ r ∧ r ≤ 9223372036854775807) (hn : n ≤ 1048576) (hA : I16 A) (hP : I8 P) (hh : NoteAt w q n A P) :
    Calls Try.prog 8 #[.int .i64 s, .int .i64 r, .slice q n c] w fun e w' => ∃ v, e = .returned (.tuple #[.agg #[.int .i16 (ffS s r n A P), v], .int .i64 (ffC s r n A P)]) ∧ Below w.heap.size w w' ∧ OwnH w' w.heap.size v (ffL s r n A P) := by
  have HA := Lib.hid hA; have HP := Lib.hid hP; clear hA hP
  have KH := kp_note hh; clear hh
  have KB := Kp.base w
  have HH0 := Lib.hid KH.here
  replace KH := KH.alloc (.cells #[.int .i16 0, .slice none 0 0] 27)
  replace KB := KB.alloc (.cells #[.int .i16 0, .slice none 0 0] 27)
  have K6 := kp_new1 w #[.int .i16 0, .slice none 0 0] 27 (g := w.heap.size) (by simp)
  have HZ := Lib.hid (show (w.alloc (.cells #[.int .i16 0, .slice none 0 0] 27)).heap.size = w.heap.size + 1 by simp)
  have hsz0 := KB.here.size
  have K6' : Kp (w.alloc (.cells #[.int .i16 0, .slice none 0 0] 27)) (fun V => FrAt V w.heap.size 0 (.slice none 0 0)) := K6
  have htc := tuneCode_any (some ⟨(w.alloc (.cells #[.int .i16 0, .slice none 0 0] 27)).heap.size, 0, none⟩) 1 1 (fun _ => q) (fun _ => n) (fun _ => c) (fun _ => A) (fun _ => P) _ (by omega) (fun _ _ => by omega) (fun _ => HA.out) (fun _ => HP.out) (TuneSAt.one _ q n c A P KH.here)
  rw [tAll_one] at htc
  rw [show (w.alloc (.cells #[.int .i16 0, .slice none 0 0] 27)).heap.size = w.heap.size + 1 by simp] at htc
  replace KH := KH.alloc (.cells #[.slice q n c] 31)
  replace KB := KB.alloc (.cells #[.slice q n c] 31)
  replace K6' := K6'.alloc (.cells #[.slice q n c] 31)
  have hrd := fun V : World => isReady_any s r V
  have hln := fun (V : World) (hV : Below ((w.alloc (.cells #[.int .i16 0, .slice none 0 0] 27)).alloc (.cells #[.slice q n c] 31)).heap.size ((w.alloc (.cells #[.int .i16 0, .slice none 0 0] 27)).alloc (.cells #[.slice q n c] 31)) V) => length_any q n c A P V (by omega) HA.out (KH.at hV)
  have HBAD := Lib.hid (ff_bad s r n A P)
  have HFI := Lib.hid (ffA_first s r n A P)
  have HFZ := Lib.hid (ffA_zero s r n A P)
  obtain ⟨x, hx⟩ : ∃ x, ffA s r n A P = x := ⟨_, rfl⟩
  have HXA := Lib.hid hx
  rw [hx] at HBAD HFI
  clear hx
  obtain ⟨z0, hz0⟩ : ∃ z, unl (vTune n A P) 1 = z := ⟨_, rfl⟩
  rw [hz0] at htc HFI
  clear hz0
  have HTC := Lib.hid htc; have HRD := Lib.hid hrd; have HLN := Lib.hid hln; clear htc hrd hln
  cases hr : rdB s r
  · rw [hr] at HRD HFI
    have hx0 : ¬ x = 0 := fun e => by have := (HFZ.out (HXA.out.trans e)).2.1; rw [hr] at this; cases this
    have HX := Lib.hid (HBAD.out hx0)
    clear hr
    go_enter Try.func8, Try.ntmps8
    go_wp2_with (first | (go_at_call 25; refine HTC.out.mono ?_; rintro e w2 ⟨rfl, hb2⟩) | (go_at_call 27; refine (HRD.out _).mono ?_; rintro e w3 ⟨rfl, rfl⟩) | (go_at_call 26; refine (unless_any _ _ _).mono ?_; rintro e w3 ⟨rfl, rfl⟩))
    rw [Bool.false_and] at HFI
    refine (firstOf_any [z0, unl false 2] w2.heap.size 2 _ (by simp) (heap_alloc_new w2 _)).mono ?_
    rw [HFI.out]
    rintro e w4 ⟨rfl, rfl⟩
    go_wp2_with (first | (with_reducible refine store_frame rfl _ _ rfl w.heap.size 0 (.slice none 0 0) rfl rfl rfl 0 (.slice none 0 0) ((K6'.at hb2).alloc _) ?_))
    exact bodyPost_ret (results_frame2 rfl _ _ w.heap.size 0 (.slice none 0 0) (.int .i64 x) rfl ((K6'.at hb2).alloc _).set rfl) rfl ⟨.slice none 0 0, by rw [HX.out.2.1, HX.out.2.2], below_setRow ((KB.at hb2).alloc (KB.at hb2).size _) (Nat.le_refl _) _, by rw [HX.out.1]; exact OwnH.none0 _ _⟩
  · rw [hr] at HRD HFI
    rw [Bool.true_and] at HFI
    have hs3 := HFZ.out
    by_cases hx0 : x = 0
    · have HZ3 := Lib.hid (HFZ.out (HXA.out.trans hx0))
      have HFA := Lib.hid (HXA.out.trans hx0)
      subst hx0
      have HST := Lib.hid (fun p : Int => pAt_inS s A P (p := p) (k := n) (ff_steps s n A P HZ3.out.1 HZ3.out.2.2))
      obtain ⟨hs, hr2, hrs⟩ := rdB_iff.1 hr
      have hn120 := (vTune_facts HZ3.out.1).1
      clear hr hs3
      have q0 := i16_idF (x := s) (by omega)
      have q1 := i8_idF (x := r) (by omega)
      go_enter Try.func8, Try.ntmps8
      go_wp2_with (first | (go_at_call 25; refine HTC.out.mono ?_; rintro e w2 ⟨rfl, hb2⟩) | (go_at_call 27; refine (HRD.out _).mono ?_; rintro e w3 ⟨rfl, rfl⟩) | (go_at_call 28; refine (HLN.out _ hb2).mono ?_; rintro e w3 ⟨rfl, rfl⟩) | (go_at_call 26; refine (unless_any _ _ _).mono ?_; rintro e w3 ⟨rfl, rfl⟩))
      refine (firstOf_any [z0, unl (decide (tLen n A ≤ s)) 2] w2.heap.size 2 _ (by simp) (heap_alloc_new w2 _)).mono ?_
      rw [HFI.out]
      rintro e w4 ⟨rfl, rfl⟩
      go_wp2
      have hff0 : FFS w.heap.size (w2.heap.size + 1) w s (.slice none 0 0) (hmL s r n A P 0) ((w2.alloc (.cells #[.int .i64 z0, .int .i64 (unl (decide (tLen n A ≤ s)) 2)] 2)).alloc (.cells #[.int .i16 s, .slice none 0 0] 27)) :=
        ⟨((KB.at hb2).alloc (KB.at hb2).size _).alloc (by have := (KB.at hb2).size; simp; omega) _, by have := hb2.size; simp at this; omega, ((K6'.at hb2).alloc _).alloc _, (by have h := heap_alloc_new (w2.alloc (.cells #[.int .i64 z0, .int .i64 (unl (decide (tLen n A ≤ s)) 2)] 2)) (.cells #[.int .i16 s, .slice none 0 0] 27); rw [show (w2.alloc (.cells #[.int .i64 z0, .int .i64 (unl (decide (tLen n A ≤ s)) 2)] 2)).heap.size = w2.heap.size + 1 by simp] at h; exact h), by rw [hmL_zero]; exact OwnH.none0 _ _⟩
      have HFF0 := Lib.hid hff0; clear hff0
      generalize (w2.alloc (.cells #[.int .i64 z0, .int .i64 (unl (decide (tLen n A ≤ s)) 2)] 2)).alloc (.cells #[.int .i16 s, .slice none 0 0] 27) = W0 at HFF0 ⊢
      obtain ⟨g8, hg8⟩ : ∃ g, w2.heap.size + 1 = g := ⟨_, rfl⟩
      simp only [hg8] at HFF0 ⊢
      clear hg8 hb2 HTC HRD HLN HFI HXA
      go_loopw [36] (fun i w' => ∃ p : Nat, p ≤ 48 ∧ i = .int .i8 (p : Int) ∧ (∀ y, y < p → bigB n A P y = false) ∧ (hmL s r n A P p).length ≤ 14 * p ∧ ∃ (v : Value), FFS w.heap.size g8 w s v (hmL s r n A P p) w') (fun i _ => 48 - (intOf i).toNat)
      case atStart => exact ⟨0, by omega, rfl, fun y hy => by omega, by rw [hmL_zero]; simp, .slice none 0 0, HFF0.out⟩
      case round =>
        obtain ⟨p, hp, rfl, hbg, hL, v, hff⟩ := hrel
        have HBG := Lib.hid hbg; clear hbg
        have KFF := hff.kp; have KN := kp_note (HH0.out.below hff.b)
        have hgl : w.heap.size < wr.heap.size := row_lt hff.r6
        clear hff HFF0
        by_cases hlt : p < 48
        · have hlt' : (p : Int) < 48 := by omega
          have q2 := i8_idF (x := (p : Int) + 1) (by omega)
          have q3 := i8_idF (x := (p : Int)) (by omega)
          go_wp2
          obtain ⟨U, rfl⟩ : ∃ U, U = wr := ⟨wr, rfl⟩
          go_loopw [11, 42] (fun y i w' => ∃ k : Nat, k ≤ n ∧ i = .int .i64 k ∧ Below U.heap.size U w' ∧ OwnI w' U.heap.size y (pAt A P (p : Int) k)) (fun _ i _ => n - (intOf i).toNat)
          case atStart => exact ⟨0, by omega, rfl, (Below.refl _ _).alloc (Nat.le_refl _) _, by rw [pAt_zero]; exact OwnI.nil U U.heap.size (Nat.le_refl _)⟩
          case round =>
            obtain ⟨k, hk, rfl, hb, hy⟩ := hrel
            have KFF1 := KFF.on hb; have KN1 := KN.on hb
            have HY := Lib.hid hy
            have hlen := pAt_len A P (p : Int) k
            by_cases hk2 : k < n
            · have hk' : (k : Int) < n := by omega
              obtain ⟨gg, off, rfl, hgg, hcg⟩ := NoteAt.get KN1.here (by omega)
              have c0 := (hcg k hk2).1
              have c1 := (hcg k hk2).2
              clear hcg hy
              have hAk := HA.out k
              have q4 := i64_id (x := A k) (by have := hAk; omega)
              have HYES := Lib.hid (pAt_yes A P (p := (p : Int)) (k := k)); have HNO := Lib.hid (pAt_no A P (p := (p : Int)) (k := k))
              by_cases hpk : P k = (p : Int)
              · have HX := Lib.hid (HYES.out hpk)
                clear HYES HNO
                obtain ⟨pk, hpk2⟩ : ∃ x, P k = x := ⟨_, rfl⟩
                simp only [hpk2] at c1 hpk
                subst hpk
                have hsz1 := hb.size
                have HB := Lib.hid hb; clear hb
                have hbn := HB.out.alloc hsz1 (.cells #[.int .i16 (A k), .int .i8 (p : Int)] 56)
                have HBN := Lib.hid hbn; clear hbn
                have HYN := Lib.hid (HY.out.alloc (.cells #[.int .i16 (A k), .int .i8 (p : Int)] 56))
                go_wp2_with (at_builtin; refine append_int rfl _ _ rfl U.heap.size _ (pAt A P (p : Int) k) rfl (HYN.out.alloc _) (wr.heap.size + 1) (A k) rfl (by first | (simp; done) | exact (by have h := row_cell 0 (heap_alloc_new (wr.alloc (.cells #[.int .i16 (A k), .int .i8 (p : Int)] 56)) (.cells #[.int .i64 (A k)] 2)); simpa using h)) (by omega) (by simp; omega) ?_; intro v5 w5 hown5 hb5; have HO5 := Lib.hid hown5; have HB5 := Lib.hid hb5; clear hown5 hb5)
                go_roundw
                case rel => exact ⟨k + 1, by omega, by go_num, (HBN.out.alloc HBN.out.size _).trans HB5.out, by rw [HX.out]; exact HO5.out⟩
                case measure => simp [intOf]; omega
              · have HX := Lib.hid (HNO.out hpk)
                clear HYES HNO
                have hsz1 := hb.size
                have HB := Lib.hid hb; clear hb
                go_wp2
                go_roundw
                case rel => exact ⟨k + 1, by omega, by go_num, HB.out.alloc hsz1 _, by rw [HX.out]; exact HY.out.alloc _⟩
                case measure => simp [intOf]; omega
            · have hkn : n = k := by omega
              subst hkn
              have hbu := hb.size
              obtain ⟨yb, yc, rfl, _⟩ := OwnI.at hy
              obtain ⟨m, hm⟩ : ∃ m, (pAt A P (p : Int) n).length = m := ⟨_, rfl⟩
              have HM := Lib.hid hm
              rw [hm] at HY hlen ⊢
              clear hy
              cases hbig : bigB n A P p
              · have hm14 : ¬ 14 < m := fun e => by rw [← hm, ← bigB_iff] at e; rw [hbig] at e; cases e
                have HBIG := Lib.hid hbig
                clear hm hbig
                have hm14' : ¬ (14 : Int) < m := by omega
                have hcall := hammersNeeded_any U.heap.size s r (pAt A P (p : Int) n) (.slice yb m yc) wr hs (by have := HM.out; omega) (HST.out (p : Int)) hbu HY.out
                have HLEN := Lib.hid (hmL_len s r n A P p); have HSUC := Lib.hid (hmL_succ s r n A P p)
                obtain ⟨N, hN⟩ : ∃ N, needN s r (pAt A P (p : Int) n) = N := ⟨_, rfl⟩
                have hN14 : N ≤ 14 := by rw [← hN]; have := need_le (s := s) (r := r) (ats := pAt A P (p : Int) n); have := HM.out; omega
                rw [hN] at hcall HLEN HSUC
                have HCALL := Lib.hid hcall
                clear hN hcall
                go_wp2_with (go_at_call 29; refine HCALL.out.mono ?_; rintro e w3 ⟨rfl, hb3⟩)
                have KFF2 := KFF1.on hb3
                have HFF2 := Lib.hid KFF2.here
                clear KFF KFF1 KFF2 KN KN1 hb hb3 hbu hgl HY HCALL
                go_loopw [65] (fun i w' => ∃ j : Nat, j ≤ N ∧ i = .int .i64 j ∧ ∃ (v : Value), FFS w.heap.size g8 w s v (hmL s r n A P p ++ List.replicate j ((p : Int), r)) w') (fun i _ => N - (intOf i).toNat)
                case atStart => exact ⟨0, by omega, rfl, v, by rw [List.replicate_zero, List.append_nil]; exact HFF2.out⟩
                case round =>
                  clear HFF2
                  obtain ⟨j, hj, rfl, v, hff⟩ := hrel
                  obtain ⟨L, hLe⟩ : ∃ L, hmL s r n A P p ++ List.replicate j ((p : Int), r) = L := ⟨_, rfl⟩
                  rw [hLe] at hff
                  have HLE := Lib.hid hLe; clear hLe
                  have hz8 := hff.z
                  obtain ⟨b1, c1, rfl⟩ := OwnL.form hff.o
                  obtain ⟨lL, hlL⟩ : ∃ m, L.length = m := ⟨_, rfl⟩
                  have HLL := Lib.hid hlL
                  rw [hlL] at hff
                  have KF := hff.kp
                  have HFF := Lib.hid hff; clear hff hlL
                  have hlL2 : lL ≤ 14 * p + 14 := by
                    have h1 := HLL.out
                    rw [← HLE.out, List.length_append, List.length_replicate] at h1
                    omega
                  by_cases hjN : j < N
                  · have hjN' : (j : Int) < N := by omega
                    have p1 := row_cell 1 KF.here.r8
                    have hg8 := KF.here.lt
                    go_wp2_with (at_builtin; refine append_hammers rfl _ _ rfl (g8 + 1) (.slice b1 lL c1) L rfl (OwnH.alloc HFF.out.o (.cells #[.int .i8 (p : Int), .int .i8 r] 59)) ⟨wr.heap.size, 0, none⟩ 1 1 [((p : Int), r)] rfl rfl (one_cells (enc := encH) (heap_alloc_new wr _)) (by have := HLL.out; simp; omega) (by simp; omega) ?_; intro v5 w5 hown5 hb5; obtain ⟨b5, c5, rfl⟩ := OwnL.form hown5; rw [show (L ++ [((p : Int), r)]).length = lL + 1 from by have := HLL.out; simp [this]] at hown5 ⊢; have r85 := (hb5.block g8 (by omega)).trans ((heap_alloc_old wr _ (row_lt HFF.out.r8)).trans HFF.out.r8); have f5 := frozen_of_row w5 g8 1 _ _ r85; have c85 := row_cell 1 r85; have HPUSH := Lib.hid (HFF.out.push (((Below.refl _ wr).alloc hg8 _).trans hb5) hown5); clear r85 hb5 hown5)
                    go_roundw
                    case rel => exact ⟨j + 1, by omega, by go_num, _, by rw [List.replicate_succ', ← List.append_assoc, HLE.out]; exact HPUSH.out⟩
                    case measure => simp [intOf]; omega
                  · have hjN2 : N = j := by omega
                    subst hjN2
                    go_wp2
                    exact ⟨⟨p + 1, by omega, by go_num, fun y hy => if e : y = p then e ▸ HBIG.out else HBG.out y (by omega), by rw [HLEN.out]; omega, _, by rw [HSUC.out, HLE.out]; exact HFF.out⟩, by simp [intOf]; omega⟩
              · have hm14 : 14 < m := by rw [← hm, ← bigB_iff]; exact hbig
                have HX := Lib.hid (ff_big s r n A P HFA.out hlt hbig)
                clear hm hbig
                have hm14' : (14 : Int) < m := by omega
                have HB := Lib.hid hb; clear hb
                go_wp2_with (with_reducible refine store_frame rfl _ _ rfl w.heap.size 0 (.slice none 0 0) rfl rfl rfl 0 (.slice none 0 0) KFF1.here.r6 ?_)
                exact bodyPost_ret (results_frame2 rfl _ _ w.heap.size 0 (.slice none 0 0) (.int .i64 3) rfl (KFF1.here.r6).set rfl) rfl ⟨.slice none 0 0, by rw [HX.out.2.1, HX.out.2.2], below_setRow KFF1.here.b (Nat.le_refl _) _, by rw [HX.out.1]; exact OwnH.none0 _ _⟩
        · have hp48 : p = 48 := by omega
          subst hp48
          have hz := KFF.here.z
          obtain ⟨b1, c1, rfl⟩ := OwnL.form KFF.here.o
          have HXM := Lib.hid (ff_many s r n A P HFA.out HBG.out)
          have HXN := Lib.hid (ff_none s r n A P HFA.out HBG.out)
          have HXO := Lib.hid (ff_ok s r n A P HFA.out HBG.out)
          obtain ⟨L, hLe⟩ : ∃ L, hmL s r n A P 48 = L := ⟨_, rfl⟩
          rw [hLe] at HXM HXN HXO KFF hL
          clear hLe
          obtain ⟨lL, hlL⟩ : ∃ m, L.length = m := ⟨_, rfl⟩
          rw [hlL] at HXM HXN HXO KFF hL
          clear hlL
          have R8 : wr.heap[g8]? = some (.cells #[.int .i16 s, .slice b1 lL c1] 27 (0, 0)) := KFF.here.r8
          have p1 := row_cell 1 R8
          by_cases h24 : 24 < lL
          · have HX := Lib.hid (HXM.out h24)
            have h24' : (24 : Int) < lL := by omega
            go_wp2_with (with_reducible refine store_frame rfl _ _ rfl w.heap.size 0 (.slice none 0 0) rfl rfl rfl 0 (.slice none 0 0) (KFF.here.r6) ?_)
            exact bodyPost_ret (results_frame2 rfl _ _ w.heap.size 0 (.slice none 0 0) (.int .i64 3) rfl (KFF.here.r6).set rfl) rfl ⟨.slice none 0 0, by rw [HX.out.2.1, HX.out.2.2], below_setRow KFF.here.b (Nat.le_refl _) _, by rw [HX.out.1]; exact OwnH.none0 _ _⟩
          · have h24' : ¬ (24 : Int) < lL := by omega
            by_cases hn0 : n = 0
            · have HX := Lib.hid (HXN.out h24 hn0)
              have hn0' : ((n : Int) == 0) = true := by simp [hn0]
              have hn0'' : (n : Int) = 0 := by omega
              clear hn0
              go_wp2_with (with_reducible refine store_frame rfl _ _ rfl w.heap.size 0 (.slice none 0 0) rfl rfl rfl 0 (.slice none 0 0) (KFF.here.r6) ?_)
              exact bodyPost_ret (results_frame2 rfl _ _ w.heap.size 0 (.slice none 0 0) (.int .i64 6) rfl (KFF.here.r6).set rfl) rfl ⟨.slice none 0 0, by rw [HX.out.2.1, HX.out.2.2], below_setRow KFF.here.b (Nat.le_refl _) _, by rw [HX.out.1]; exact OwnH.none0 _ _⟩
            · have HX := Lib.hid (HXO.out h24 hn0)
              have hn0' : ((n : Int) == 0) = false := beq_false_of_ne (by omega)
              have hn0'' : ¬ (n : Int) = 0 := by omega
              clear hn0
              go_wp2_with (first | (with_reducible refine load_iframe rfl _ rfl g8 rfl _ s b1 lL c1 R8 ?_) | (with_reducible refine store_frame rfl _ _ rfl w.heap.size s (.slice b1 lL c1) rfl rfl rfl 0 (.slice none 0 0) KFF.here.r6 ?_))
              exact bodyPost_ret (results_frame2 rfl _ _ w.heap.size s (.slice b1 lL c1) (.int .i64 0) rfl KFF.here.r6.set rfl) rfl ⟨.slice b1 lL c1, by rw [HX.out.2.1, HX.out.2.2], below_setRow KFF.here.b (Nat.le_refl _) _, by rw [HX.out.1]; exact OwnH.mono (own_grown KFF.here.o (grown_setRow _ w.heap.size _) (fun k e => by cases e; omega)) (by omega)⟩
    · have HX := Lib.hid (HBAD.out hx0)
      clear hr hs3
      go_enter Try.func8, Try.ntmps8
      go_wp2_with (first | (go_at_call 25; refine HTC.out.mono ?_; rintro e w2 ⟨rfl, hb2⟩) | (go_at_call 27; refine (HRD.out _).mono ?_; rintro e w3 ⟨rfl, rfl⟩) | (go_at_call 28; refine (HLN.out _ hb2).mono ?_; rintro e w3 ⟨rfl, rfl⟩) | (go_at_call 26; refine (unless_any _ _ _).mono ?_; rintro e w3 ⟨rfl, rfl⟩))
      refine (firstOf_any [z0, unl (decide (tLen n A ≤ s)) 2] w2.heap.size 2 _ (by simp) (heap_alloc_new w2 _)).mono ?_
      rw [HFI.out]
      rintro e w4 ⟨rfl, rfl⟩
      go_wp2_with (first | (with_reducible refine store_frame rfl _ _ rfl w.heap.size 0 (.slice none 0 0) rfl rfl rfl 0 (.slice none 0 0) ((K6'.at hb2).alloc _) ?_))
      exact bodyPost_ret (results_frame2 rfl _ _ w.heap.size 0 (.slice none 0 0) (.int .i64 x) rfl ((K6'.at hb2).alloc _).set rfl) rfl ⟨.slice none 0 0, by rw [HX.out.2.1, HX.out.2.2], below_setRow ((KB.at hb2).alloc (KB.at hb2).size _) (Nat.le_refl _) _, by rw [HX.out.1]; exact OwnH.none0 _ _⟩
theorem heldFrame_own (base : Nat) (s : Int) (b : Option Addr) (n c : Nat) (j : Nat) (w : World) (hn : n ≤ 1048576) (hj : j ≤ 1000000000) (ha : w.ownsRow base 59 2 (.slice b n c) n (mks (mkHammer j) (n * 2))) :
    Calls Try.prog 13 #[.agg #[.int .i16 s, .slice b n c], .int .i64 (j : Int)] w fun e w' => e = .returned (.int .i64 ((j + n * 2 : Nat) : Int)) ∧ Below w.heap.size w w' := by
  have HA := Lib.hid (ha.alloc (.cells #[.int .i16 s, .slice b n c] 27)); clear ha
  have HB := Lib.hid (show Below w.heap.size w (w.alloc (.cells #[.int .i16 s, .slice b n c] 27)) from (Below.refl _ _).alloc (Nat.le_refl _) _)
  obtain ⟨y, hy⟩ : ∃ y : Nat, j + n * 2 = y := ⟨_, rfl⟩
  rw [hy]
  have HY := Lib.hid hy; clear hy
  go_enter Try.func13, Try.ntmps13
  go_wp2_with fail
  refine (heldHammerS_own base _ n j _ hn hj HA.out).mono ?_
  rintro e w1 ⟨rfl, rfl⟩
  rw [HY.out]
  go_wp2
  go_ret
  exact ⟨rfl, HB.out⟩
end Go.Proofs.Yteffaghcjpeblaa
