/- LeastStepsOrder, by the reference. No conditions. -/
import Derived.Test.YtlcfjeofphncgaaLq0
import Derived.Test.YtlcfjeofphncgaaLp
import Derived.Test.YtlcfjeofphncgaaVp
import Derived.Outline
namespace Go.Proofs.Ytlcfjeofphncgaa
open Go.RowKit
set_option linter.unusedVariables false
set_option linter.unusedSimpArgs false

set_option maxRecDepth 100000 in
set_option maxHeartbeats 4000000 in
theorem l04Orders_any (gf gp base : Nat) (s : Int) (a : Option Addr) (n c : Nat) (b : Option Addr) (m d : Nat) (F S O : Nat → Int) (hs : 2 ≤ s ∧ s ≤ 96) (hm : m ≤ 12) (hsec : ∀ k, k < m → 0 ≤ F k ∧ F k < s ∧ 1 ≤ S k ∧ F k + S k ≤ s) (r : Nat) :
    ∀ (l : List Int) (v u : Value) (st : List Int × Int) (W : World), l.length + r = m → okL m l → goodS st → base ≤ W.heap.size → OwnI W base v l → OwnI W base u st.1 →
    W.heap[gf]? = some (.cells #[.int .i16 s, .slice a n c] 27 (0, 0)) → W.heap[gp]? = some (.cells (pc b m d O) 51 (0, 0)) → SecAt W b m F S →
    Calls Try.prog 59 #[.pointer (some ⟨gf, 0, none⟩), .pointer (some ⟨gp, 0, none⟩), v, u, .int .i64 st.2] W fun e W' => ∃ x, e = .returned (.tuple #[x, .int .i64 (loB (loC s F S) m r l st).2]) ∧ Below W.heap.size W W' ∧ OwnI W' base x (loB (loC s F S) m r l st).1 := by
  have HSEC := Lib.hid hsec
  have HCB := Lib.hid (fun (l : List Int) (hl : okL m l) (h : l.length ≤ 48) => loC_bound hs hsec l hl h)
  clear hsec
  have HHM := Lib.hid hm
  induction r with
  | zero =>
    intro l v u st W hlen hl hst hbW hv hu hf hp hs4
    rw [loB_zero]
    exact l04Orders_0 gf gp base s a n c b m d F S O hs hm HSEC.out l v u st W (by omega) hl hst hbW hv hu hf hp hs4
  | succ r ih =>
    have HIH := Lib.hid ih; clear ih
    intro l v u st W hlen hl hst hbW hv hu hf hp hs4
    have HL := Lib.hid hl; have HST := Lib.hid hst
    have KF := kp_row hf; have KP := kp_row hp; have KS := kp_sec hs4; have KV := kp_OwnI hv
    have HU0 := Lib.hid hu
    have KB := Kp.base W
    obtain ⟨q, e0, rfl, hz⟩ := OwnI.at hv
    clear hv hu hf hp hs4 hz hl hst
    rw [loB_succ]
    have hne : ((l.length : Int) == (m : Int)) = false := by simp; omega
    have p0 := row_cell 0 KP.here
    rw [pc_get0] at p0
    go_enter Try.func59, Try.ntmps59
    go_wp2
    clear p0
    go_loopw [3, 4, 13] (fun y t i w' => Below W.heap.size W w' ∧ ∃ j : Nat, j ≤ m ∧ i = .int .i64 j ∧ t = .int .i64 (loF (loC s F S) m r l j st).2 ∧ OwnI w' base y (loF (loC s F S) m r l j st).1) (fun _ _ i _ => m - (intOf i).toNat)
    case atStart => exact ⟨Below.refl _ _, 0, by omega, rfl, by rw [loF_zero], by rw [loF_zero]; exact HU0.out⟩
    case round =>
      clear HU0
      obtain ⟨hb, j, hj, rfl, rfl, hy⟩ := hrel
      replace KF := KF.on hb
      replace KP := KP.on hb
      replace KS := KS.on hb
      replace KV := KV.on hb
      replace KB := KB.on hb
      have HY := Lib.hid hy; clear hy
      have hbw : base ≤ wr.heap.size := Nat.le_trans hbW hb.size
      have p0 := row_cell 0 KP.here
      rw [pc_get0] at p0
      by_cases hlt : j < m
      · have hlt' : (j : Int) < m := by omega
        have HZ := Lib.hid (OwnI.readAt KV.here)
        have hh := inL_has l j
        have HIN := Lib.hid (loF_in (C := loC s F S) (n := m) (r := r) (l := l) (j := j) (st := st))
        have HOUT := Lib.hid (loF_out (C := loC s F S) (n := m) (r := r) (l := l) (j := j) (st := st))
        have HGOOD := Lib.hid (loF_good HCB.out r (loB_good HCB.out r) l HL.out (by omega) st HST.out j (by omega))
        obtain ⟨sj, hsj⟩ : ∃ x, loF (loC s F S) m r l j st = x := ⟨_, rfl⟩
        rw [hsj] at HY HIN HOUT HGOOD ⊢
        clear hsj
        cases hin : inL l j
        · rw [hin] at hh
          have HX := Lib.hid (HOUT.out hin)
          have HHH := Lib.hid hh; clear hh
          go_wp2_with fail
          refine (l00Has_any q _ e0 (fun i => l.getD i 0) (j : Int) _ (by omega) HZ.out).mono ?_
          rw [HHH.out]
          rintro e w3 ⟨rfl, rfl⟩
          have HNEW := Lib.hid (OwnI.nil wr wr.heap.size (Nat.le_refl _))
          have HVN := Lib.hid (KV.here.alloc (.cells #[] 2))
          clear HZ p0 HIN HOUT
          go_wp2_with (first | (at_builtin; refine append_ownI rfl _ _ rfl wr.heap.size base (.slice (some ⟨wr.heap.size, 0, none⟩) 0 0) (.slice q l.length e0) [] l rfl HNEW.out rfl HVN.out (by simp; omega) (by simp) ?_; intro v3 w4 hown hb4; rw [List.nil_append] at hown; have HO4 := Lib.hid hown; have HB4 := Lib.hid hb4; clear hown hb4) | (at_builtin; (refine append_int rfl _ _ rfl wr.heap.size _ l rfl (HO4.out.alloc _) w4.heap.size (j : Int) rfl (by simp) (by omega) (by have := HB4.out.size; simp at this ⊢; omega) ?_; intro v5 w5 hown5 hb5; have HO5 := Lib.hid hown5; have HB5 := Lib.hid hb5; clear hown5 hb5)) | fail)
          have hb5 := Lib.hid (((Below.refl _ _).alloc (Nat.le_refl wr.heap.size) _).trans (HB4.out.trans ((Below.refl w4.heap.size w4).alloc (Nat.le_refl _) _ |>.mono (by have := HB4.out.size; simp at this ⊢; omega))) |>.trans HB5.out)
          have hsz5 := hb5.out.size
          refine (HIH.out (l ++ [(j : Int)]) v5 u3 sj w5 (by rw [List.length_append]; simp; omega) (okL_app HL.out hlt) HGOOD.out (by omega) (HO5.out.mono hbw) (HY.out.below hb5.out) (KF.at hb5.out) (KP.at hb5.out) (KS.at hb5.out)).mono ?_
          rw [← HX.out]
          rintro e w6 ⟨x, rfl, hb6, hx6⟩
          have HX6 := Lib.hid hx6; have HB6 := Lib.hid hb6; clear hx6 hb6
          go_wp2
          go_roundw
          case rel => exact ⟨hb.trans ((hb5.out.trans (HB6.out.mono hsz5)).mono hb.size), j + 1, by omega, by go_num, rfl, HX6.out⟩
          case measure => simp [intOf]; omega
        · rw [hin] at hh
          have HX := Lib.hid (HIN.out hin)
          have HHH := Lib.hid hh; clear hh
          go_wp2_with (go_at_call 86; refine (l00Has_any q _ e0 (fun i => l.getD i 0) (j : Int) _ (by omega) HZ.out).mono ?_; rw [HHH.out]; rintro e w3 ⟨rfl, rfl⟩)
          go_roundw
          case rel => exact ⟨hb, j + 1, by omega, by go_num, by rw [HX.out], by rw [HX.out]; exact HY.out⟩
          case measure => simp [intOf]; omega
      · have hjm : m = j := by omega
        subst hjm
        go_wp2
        go_ret2
        exact ⟨_, rfl, hb, HY.out⟩
set_option maxRecDepth 100000 in
set_option maxHeartbeats 4000000 in
theorem specLeastStepsOrder_any (s : Int) (a : Option Addr) (n c : Nat) (P R : Nat → Int) (b : Option Addr) (m d : Nat) (F S O : Nat → Int) (w : World) (hs : -32768 ≤ s ∧ s ≤ 32767) (hn : n ≤ 1048576) (hP : I8 P) (hR : I8 R) (hh : HamAt w a n P R) (hm : m ≤ 1048576) (hF : I16 F) (hS : I16 S) (hO : I8 O) (hl : SecAt w b m F S) :
    Calls Try.prog 25 #[.agg #[.int .i16 s, .slice a n c], .agg (pc b m d O)] w fun e w' => ∃ v, e = .returned (.tuple #[v, .int .i64 (loX s n P R m F S O), .int .i64 (loCode s n P R m F S O)]) ∧ Below w.heap.size w w' ∧ OwnI w' w.heap.size v (loV s n P R m F S O) := by
  have HP := Lib.hid hP; have HR := Lib.hid hR; have HF := Lib.hid hF; have HS := Lib.hid hS; have HO := Lib.hid hO
  clear hP hR hF hS hO
  have KB := Kp.base w
  have KH := kp_ham hh; have KL := kp_sec hl; clear hh hl
  replace KB := KB.alloc (.cells #[.int .i16 s, .slice a n c] 27)
  replace KH := KH.alloc (.cells #[.int .i16 s, .slice a n c] 27)
  replace KL := KL.alloc (.cells #[.int .i16 s, .slice a n c] 27)
  have KF := kp_new1 w #[.int .i16 s, .slice a n c] 27 (g := w.heap.size) (by simp)
  replace KB := KB.alloc (.cells (pc b m d O) 51)
  replace KH := KH.alloc (.cells (pc b m d O) 51)
  replace KL := KL.alloc (.cells (pc b m d O) 51)
  replace KF := KF.alloc (.cells (pc b m d O) 51)
  have KP := kp_new1 (w.alloc (.cells #[.int .i16 s, .slice a n c] 27)) (pc b m d O) 51 (g := w.heap.size + 1) (by simp)
  have HZ := Lib.hid (show ((w.alloc (.cells #[.int .i16 s, .slice a n c] 27)).alloc (.cells (pc b m d O) 51)).heap.size = w.heap.size + 1 + 1 by simp)
  go_enter Try.func25, Try.ntmps25
  go_wp2_with fail
  generalize ((w.alloc (.cells #[.int .i16 s, .slice a n c] 27)).alloc (.cells (pc b m d O) 51)) = W at KB KH KL KF KP HZ ⊢
  clear HZ
  refine (l04Ok_any w.heap.size (w.heap.size + 1) s a n c P R b m d F S O W hs hn HP.out HR.out KF.here KH.here hm HF.out HS.out HO.out KP.here KL.here).mono ?_
  rintro e w1 ⟨rfl, hb1⟩
  replace KB := KB.on hb1
  replace KL := KL.on hb1
  replace KF := KF.on hb1
  replace KP := KP.on hb1
  clear hb1
  have hsz1 := KB.here.size
  have HE := Lib.hid ((OwnI.nil w1 w.heap.size hsz1))
  have HB1 := Lib.hid (KB.here.alloc hsz1 (.cells #[] 2))
  cases hv : vProg s n P R m F S O
  · have hnv := Lib.hid (lo_no hv)
    clear hv
    go_wp2
    go_ret3
    exact ⟨_, by rw [hnv.out.2.1, hnv.out.2.2]; rfl, HB1.out, by rw [hnv.out.1]; exact HE.out⟩
  · have p0 := row_cell 0 KP.here
    rw [pc_get0] at p0
    by_cases h6 : m ≤ 6
    · have hnv := Lib.hid (lo_yes hv h6)
      obtain ⟨hs2, hm2, hsec, hord⟩ := vProg_facts hv
      have HSEC := Lib.hid hsec; clear hsec hv hord
      have h6' : (m : Int) ≤ 6 := by omega
      have hsz2 : w.heap.size ≤ (w1.alloc (.cells #[] 2)).heap.size := HB1.out.size
      have he2 := OwnI.nil (w1.alloc (.cells #[] 2)) w.heap.size hsz2
      rw [size_alloc1] at he2
      have HE2 := Lib.hid he2; clear he2
      have HE1 := Lib.hid (HE.out.alloc (.cells #[] 2))
      have HB2 := Lib.hid (HB1.out.alloc hsz2 (.cells #[] 2))
      have KF2 := (KF.alloc (.cells #[] 2)).alloc (.cells #[] 2)
      have KP2 := (KP.alloc (.cells #[] 2)).alloc (.cells #[] 2)
      have KL2 := (KL.alloc (.cells #[] 2)).alloc (.cells #[] 2)
      have HCALL := Lib.hid (l04Orders_any w.heap.size (w.heap.size + 1) w.heap.size s a n c b m d F S O hs2 hm2 HSEC.out m [] _ _ ([], -1) _ (by simp) (okL_nil m) lo_start HB2.out.size HE1.out HE2.out KF2.here KP2.here KL2.here)
      clear KF2 KP2 KL2
      go_wp2_with fail
      refine HCALL.out.mono ?_
      rintro e w2 ⟨x, rfl, hb2, hx⟩
      have HB3 := Lib.hid hb2; have HX := Lib.hid hx; clear hb2 hx HCALL
      obtain ⟨st, hst⟩ : ∃ x, loB (loC s F S) m m [] ([], -1) = x := ⟨_, rfl⟩
      rw [hst] at hnv HX ⊢
      clear hst
      go_wp2
      go_ret3
      exact ⟨x, by rw [hnv.out.2.1, hnv.out.2.2]; rfl, HB2.out.trans (HB3.out.mono HB2.out.size), by rw [hnv.out.1]; exact HX.out⟩
    · have h6' : ¬ (m : Int) ≤ 6 := by omega
      have hnv := Lib.hid (lo_many hv h6)
      clear hv
      go_wp2
      go_ret3
      exact ⟨_, by rw [hnv.out.2.1, hnv.out.2.2]; rfl, HB1.out, by rw [hnv.out.1]; exact HE.out⟩
end Go.Proofs.Ytlcfjeofphncgaa
