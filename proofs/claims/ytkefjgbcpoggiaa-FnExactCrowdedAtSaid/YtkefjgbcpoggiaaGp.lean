/- PinGreedily and FirstUnpinned, by the reference and by the program. No conditions. -/
import Derived.Test.YtkefjgbcpoggiaaGr
import Derived.Outline
namespace Go.Proofs.Ytkefjgbcpoggiaa
open Go.RowKit
set_option linter.unusedVariables false
set_option linter.unusedSimpArgs false

theorem bef_mono {l : Nat} {A B : Nat → Int} (h : ∀ i, i + 1 < l → befB (A i) (B i) (A (i + 1)) (B (i + 1)) = true) (d : Nat) : ∀ i, i + d < l → A i ≤ A (i + d) := by
  induction d with
  | zero => intro i _; exact Int.le_refl _
  | succ d ih =>
    intro i hi
    have h1 := ih i (by omega)
    have h2 := befB_iff.1 (h (i + d) (by omega))
    have e : i + (d + 1) = i + d + 1 := by omega
    rw [e]
    omega
/-- what is known of a frame and a tune whose code is 0 -/
theorem to_facts {s x : Int} {n l : Nat} {P R A B : Nat → Int} {ok : Bool} (h : toC ok (vTune l A B) s (tLen l A) x = 0) (hok : ok = true → vFrame s n P R = true) :
    (2 ≤ s ∧ s ≤ 96) ∧ (1 ≤ n ∧ n ≤ 24) ∧ (∀ t, t < n → (0 ≤ P t ∧ P t ≤ 47) ∧ 1 ≤ R t ∧ R t ≤ s ∧ R t ≤ 20) ∧ l ≤ 120 ∧ (∀ i, i < l → 0 ≤ A i ∧ A i < s) ∧ (∀ i, i < l → 0 ≤ B i ∧ B i ≤ 47) ∧ 0 ≤ x ∧ x ≤ 20000 := by
  obtain ⟨h1, h2, h3, h4⟩ := toC_zero h
  obtain ⟨hs, hn, hh⟩ := vFrame_iff.1 (hok h1)
  obtain ⟨hl, hin, hbef⟩ := vTune_facts h2
  refine ⟨hs, hn, fun t ht => ?_, hl, fun i hi => ⟨(hin i hi).1.1, ?_⟩, fun i hi => (hin i hi).2, h4⟩
  · have := hamOK_iff.1 (hh t ht)
    have h5 := mn_le 20 s
    omega
  · rw [tLen_pos A (by omega)] at h3
    have := bef_mono hbef (l - 1 - i) i (by omega)
    rw [show i + (l - 1 - i) = l - 1 by omega] at this
    omega
/-- the code of a frame and a tune -/
def tc0 (s : Int) (n : Nat) (P R : Nat → Int) (l : Nat) (A B : Nat → Int) : Int := toC (vFrame s n P R) (vTune l A B) s (tLen l A) 0
theorem tc0_def (s : Int) (n : Nat) (P R : Nat → Int) (l : Nat) (A B : Nat → Int) : tc0 s n P R l A B = toC (vFrame s n P R) (vTune l A B) s (tLen l A) 0 := rfl
noncomputable def pgR (s : Int) (n : Nat) (P R : Nat → Int) (l : Nat) (A B : Nat → Int) : Nat → Nat := if tc0 s n P R l A B = 0 then grS s.toNat n P R A B l else fun _ => 0
noncomputable def pgC (s : Int) (n : Nat) (P R : Nat → Int) (l : Nat) (A B : Nat → Int) : Int := if tc0 s n P R l A B = 0 then (if grN s.toNat n P R A B l < l then 6 else 0) else tc0 s n P R l A B
noncomputable def fuV (s : Int) (n : Nat) (P R : Nat → Int) (l : Nat) (A B : Nat → Int) : Int := if tc0 s n P R l A B = 0 then (if grN s.toNat n P R A B l < l then (grN s.toNat n P R A B l : Nat) else 0) else 0
noncomputable def fuC (s : Int) (n : Nat) (P R : Nat → Int) (l : Nat) (A B : Nat → Int) : Int := if tc0 s n P R l A B = 0 then (if grN s.toNat n P R A B l < l then 0 else 6) else tc0 s n P R l A B
section
variable {s : Int} {n : Nat} {P R : Nat → Int} {l : Nat} {A B : Nat → Int}
theorem pg_bad {x : Int} (h : tc0 s n P R l A B = x) (hx : ¬ x = 0) : pgR s n P R l A B = (fun _ => 0) ∧ pgC s n P R l A B = x ∧ fuV s n P R l A B = 0 ∧ fuC s n P R l A B = x := by
  unfold pgR pgC fuV fuC; rw [h, if_neg hx, if_neg hx, if_neg hx, if_neg hx]; exact ⟨rfl, rfl, rfl, rfl⟩
theorem pg_no (h : tc0 s n P R l A B = 0) (hx : grN s.toNat n P R A B l < l) : pgR s n P R l A B = (fun _ => 0) ∧ pgC s n P R l A B = 6 ∧ fuV s n P R l A B = (grN s.toNat n P R A B l : Nat) ∧ fuC s n P R l A B = 0 := by
  unfold pgR pgC fuV fuC; rw [h, if_pos rfl, if_pos rfl, if_pos rfl, if_pos rfl, if_pos hx, if_pos hx, if_pos hx]; exact ⟨(grS_no hx).1, rfl, rfl, rfl⟩
theorem pg_yes (h : tc0 s n P R l A B = 0) (hx : grN s.toNat n P R A B l = l) : pgR s n P R l A B = grD s.toNat n P R A B l ∧ pgC s n P R l A B = 0 ∧ fuV s n P R l A B = 0 ∧ fuC s n P R l A B = 6 := by
  have h2 : ¬ grN s.toNat n P R A B l < l := by omega
  unfold pgR pgC fuV fuC; rw [h, if_pos rfl, if_pos rfl, if_pos rfl, if_pos rfl, if_neg h2, if_neg h2, if_neg h2]; exact ⟨(grS_yes hx).1, rfl, rfl, rfl⟩
end
attribute [irreducible] tc0 pgR pgC fuV fuC
set_option maxRecDepth 100000 in
set_option maxHeartbeats 1000000 in
theorem implPinGreedily_any (s : Int) (a : Option Addr) (n c : Nat) (P R : Nat → Int) (q : Option Addr) (l e0 : Nat) (A B : Nat → Int) (w : World) (hs : -32768 ≤ s ∧ s ≤ 32767) (hn : n ≤ 1048576) (hP : I8 P) (hR : I8 R) (hh : HamAt w a n P R) (hl : l ≤ 1048576) (hA : I16 A) (hB : I8 B) (ht : NoteAt w q l A B) :
    Calls Try.prog 62 #[.agg #[.int .i16 s, .slice a n c], .slice q l e0] w fun e w' => e = .returned (.tuple #[.agg (dc (pgR s n P R l A B)), .int .i64 (pgC s n P R l A B)]) ∧ Below w.heap.size w w' := by
  have HP := Lib.hid hP; have HR := Lib.hid hR; have HA := Lib.hid hA; have HB := Lib.hid hB
  clear hP hR hA hB
  have KB := Kp.base w
  have KH := kp_ham hh; have KT := kp_note ht; clear hh ht
  replace KB := KB.alloc (.cells #[.int .i16 s, .slice a n c] 27)
  replace KH := KH.alloc (.cells #[.int .i16 s, .slice a n c] 27)
  replace KT := KT.alloc (.cells #[.int .i16 s, .slice a n c] 27)
  have KF := kp_new1 w #[.int .i16 s, .slice a n c] 27 (g := w.heap.size) (by simp)
  replace KB := KB.alloc (.cells (dc fun _ => 0) 33)
  replace KH := KH.alloc (.cells (dc fun _ => 0) 33)
  replace KT := KT.alloc (.cells (dc fun _ => 0) 33)
  replace KF := KF.alloc (.cells (dc fun _ => 0) 33)
  have K0 := kp_newd (w.alloc (.cells #[.int .i16 s, .slice a n c] 27)) (fun _ => 0) 33 (g := w.heap.size + 1) (by simp)
  have HZ := Lib.hid (show ((w.alloc (.cells #[.int .i16 s, .slice a n c] 27)).alloc (.cells (dc fun _ => 0) 33)).heap.size = w.heap.size + 1 + 1 by simp)
  go_enter Try.func62, Try.ntmps62
  go_wp2_with (first | (with_reducible refine load_iframe rfl _ rfl w.heap.size rfl _ s a n c KF.here ?_) | (with_reducible refine alloc_drum ?_ ?_ ?_; with_reducible rfl; with_reducible rfl))
  generalize ((w.alloc (.cells #[.int .i16 s, .slice a n c] 27)).alloc (.cells (dc fun _ => 0) 33)) = W at KB KH KT KF K0 HZ ⊢
  clear HZ
  refine (tuneOnCode_any s a n c P R q l e0 A B 0 none 0 0 (fun _ _ => 0) W hs hn HP.out HR.out KH.here hl HA.out HB.out KT.here (by omega) (by omega) (drumsNone W _)).mono ?_
  rw [okAll_none, ← tc0_def]
  rintro e w1 ⟨rfl, hb1⟩
  replace KB := KB.on hb1
  replace KH := KH.on hb1
  replace KT := KT.on hb1
  replace KF := KF.on hb1
  replace K0 := K0.on hb1
  clear hb1
  have hx0 := tc0_def s n P R l A B
  obtain ⟨x, hx⟩ : ∃ x, tc0 s n P R l A B = x := ⟨_, rfl⟩
  rw [hx]
  by_cases h0 : x = 0
  ·
    subst h0
    obtain ⟨hs2, hn2, hr, hl2, hA2, hB2, _⟩ := to_facts (hx0 ▸ hx) (fun h => h)
    obtain ⟨m, rfl⟩ : ∃ m : Nat, s = m := ⟨s.toNat, by omega⟩
    have HRR := Lib.hid (show ∀ t, t < n → 1 ≤ R t ∧ R t ≤ m from fun t ht => ⟨(hr t ht).2.1, (hr t ht).2.2.1⟩)
    have HA2 := Lib.hid hA2
    clear hr hA2 hB2
    have HPN := Lib.hid (fun h => pg_no hx h)
    have HPY := Lib.hid (fun h => pg_yes hx h)
    rw [Int.toNat_natCast] at HPN HPY
    have hle := grN_le (m := m) (n := n) (P := P) (R := R) (A := A) (B := B) l
    clear hx
    go_wp2_with (with_reducible refine load_iframe rfl _ rfl w.heap.size rfl _ (m : Int) a n c KF.here ?_)
    refine (greedily_any m a n c P R q l e0 A B w1 (by omega) hn2 HRR.out HP.out KH.here hl2 HA2.out HB.out KT.here).mono ?_
    rintro e w2 ⟨rfl, hb2⟩
    replace KB := KB.on hb2
    replace K0 := K0.on hb2
    clear hb2
    obtain ⟨N, hN⟩ : ∃ N, grN m n P R A B l = N := ⟨_, rfl⟩
    rw [hN] at HPN HPY hle ⊢
    obtain ⟨E, hE⟩ : ∃ E, grD m n P R A B N = E := ⟨_, rfl⟩
    rw [hE]
    have HE := Lib.hid hE; have HN := Lib.hid hN; clear hE hN
    by_cases hlt : N < l
    · have hlt' : (N : Int) < l := by omega
      have HR1 := Lib.hid (HPN.out hlt)
      go_wp2_with (first | (with_reducible refine copy_drum rfl rfl rfl _ _ rfl E rfl rfl ?_; intro V hb3 hz3 hg3; have HG3 := Lib.hid hg3; have KB3 := KB.on hb3; have h0 := Lib.hid (K0.at hb3); clear hb3 hz3 hg3) | (with_reducible refine build_drum rfl rfl ?_) | (with_reducible refine store_drum rfl _ _ rfl (w.heap.size + 1) (fun _ => 0) rfl rfl _ _ h0.out ?_))
      refine bodyPost_ret (results_drum2 rfl _ _ (w.heap.size + 1) _ (fun _ => 0) (.int .i64 6) rfl (h0.out.setRow _) rfl) rfl ⟨by rw [HR1.out.1, HR1.out.2.1], below_setRow KB3.here (by omega) _⟩
    · have hlt' : ¬ (N : Int) < l := by omega
      obtain rfl : N = l := by omega
      have HR1 := Lib.hid (HPY.out rfl)
      go_wp2_with (first | (with_reducible refine copy_drum rfl rfl rfl _ _ rfl E rfl rfl ?_; intro V hb3 hz3 hg3; have HG3 := Lib.hid hg3; have KB3 := KB.on hb3; have h0 := Lib.hid (K0.at hb3); clear hb3 hz3 hg3) | (with_reducible refine load_drum rfl _ rfl w2.heap.size rfl _ E HG3.out ?_) | (with_reducible refine store_drum rfl _ _ rfl (w.heap.size + 1) E rfl rfl _ _ h0.out ?_))
      refine bodyPost_ret (results_drum2 rfl _ _ (w.heap.size + 1) _ E (.int .i64 0) rfl (h0.out.setRow _) rfl) rfl ⟨by rw [HR1.out.1, HR1.out.2.1, HE.out], below_setRow KB3.here (by omega) _⟩
  · have HR1 := Lib.hid (pg_bad hx h0)
    clear hx hx0
    have h1 := K0.here
    go_wp2_with (first | (with_reducible refine build_drum rfl rfl ?_) | (with_reducible refine store_drum rfl _ _ rfl (w.heap.size + 1) (fun _ => 0) rfl rfl _ _ h1 ?_))
    refine bodyPost_ret (results_drum2 rfl _ _ (w.heap.size + 1) _ (fun _ => 0) (.int .i64 x) rfl (DrumAt.setRow h1 _) rfl) rfl ⟨by rw [HR1.out.1, HR1.out.2.1], below_setRow KB.here (by omega) _⟩
set_option maxRecDepth 100000 in
set_option maxHeartbeats 1000000 in
theorem specPinGreedily_any (s : Int) (a : Option Addr) (n c : Nat) (P R : Nat → Int) (q : Option Addr) (l e0 : Nat) (A B : Nat → Int) (w : World) (hs : -32768 ≤ s ∧ s ≤ 32767) (hn : n ≤ 1048576) (hP : I8 P) (hR : I8 R) (hh : HamAt w a n P R) (hl : l ≤ 1048576) (hA : I16 A) (hB : I8 B) (ht : NoteAt w q l A B) :
    Calls Try.prog 61 #[.agg #[.int .i16 s, .slice a n c], .slice q l e0] w fun e w' => e = .returned (.tuple #[.agg (dc (pgR s n P R l A B)), .int .i64 (pgC s n P R l A B)]) ∧ Below w.heap.size w w' := by
  have HP := Lib.hid hP; have HR := Lib.hid hR; have HA := Lib.hid hA; have HB := Lib.hid hB
  clear hP hR hA hB
  have KB := Kp.base w
  have KH := kp_ham hh; have KT := kp_note ht; clear hh ht
  replace KB := KB.alloc (.cells #[.int .i16 s, .slice a n c] 27)
  replace KH := KH.alloc (.cells #[.int .i16 s, .slice a n c] 27)
  replace KT := KT.alloc (.cells #[.int .i16 s, .slice a n c] 27)
  have KF := kp_new1 w #[.int .i16 s, .slice a n c] 27 (g := w.heap.size) (by simp)
  replace KB := KB.alloc (.cells (dc fun _ => 0) 33)
  replace KH := KH.alloc (.cells (dc fun _ => 0) 33)
  replace KT := KT.alloc (.cells (dc fun _ => 0) 33)
  replace KF := KF.alloc (.cells (dc fun _ => 0) 33)
  have K0 := kp_newd (w.alloc (.cells #[.int .i16 s, .slice a n c] 27)) (fun _ => 0) 33 (g := w.heap.size + 1) (by simp)
  have HZ := Lib.hid (show ((w.alloc (.cells #[.int .i16 s, .slice a n c] 27)).alloc (.cells (dc fun _ => 0) 33)).heap.size = w.heap.size + 1 + 1 by simp)
  go_enter Try.func61, Try.ntmps61
  go_wp2_with (with_reducible refine alloc_drum ?_ ?_ ?_; with_reducible rfl; with_reducible rfl)
  generalize ((w.alloc (.cells #[.int .i16 s, .slice a n c] 27)).alloc (.cells (dc fun _ => 0) 33)) = W at KB KH KT KF K0 HZ ⊢
  clear HZ
  refine (l03Fits_any w.heap.size s a n c P R q l e0 A B 0 W hs hn HP.out HR.out KH.here hl HA.out HB.out KT.here (by omega) KF.here).mono ?_
  rw [← tc0_def]
  rintro e w1 ⟨rfl, hb1⟩
  replace KB := KB.on hb1
  replace KH := KH.on hb1
  replace KT := KT.on hb1
  replace KF := KF.on hb1
  replace K0 := K0.on hb1
  clear hb1
  have hx0 := tc0_def s n P R l A B
  obtain ⟨x, hx⟩ : ∃ x, tc0 s n P R l A B = x := ⟨_, rfl⟩
  rw [hx]
  by_cases h0 : x = 0
  ·
    subst h0
    obtain ⟨hs2, hn2, hr, hl2, hA2, hB2, _⟩ := to_facts (hx0 ▸ hx) (fun h => h)
    obtain ⟨m, rfl⟩ : ∃ m : Nat, s = m := ⟨s.toNat, by omega⟩
    have HRR := Lib.hid (show ∀ t, t < n → 1 ≤ R t ∧ R t ≤ m from fun t ht => ⟨(hr t ht).2.1, (hr t ht).2.2.1⟩)
    have HA2 := Lib.hid hA2
    clear hr hA2 hB2
    have HPN := Lib.hid (fun h => pg_no hx h)
    have HPY := Lib.hid (fun h => pg_yes hx h)
    rw [Int.toNat_natCast] at HPN HPY
    have hle := grN_le (m := m) (n := n) (P := P) (R := R) (A := A) (B := B) l
    clear hx
    obtain ⟨N, hN⟩ : ∃ N, grN m n P R A B l = N := ⟨_, rfl⟩
    have HGN := Lib.hid (fun h => grS_no (m := m) (n := n) (P := P) (R := R) (A := A) (B := B) (l := l) h)
    have HGY := Lib.hid (fun h => grS_yes (m := m) (n := n) (P := P) (R := R) (A := A) (B := B) (l := l) h)
    rw [hN] at HPN HPY hle HGN HGY
    go_wp2_with fail
    refine (l03Greedy_any w.heap.size 27 m a n c P R q l e0 A B w1 (by omega) hn2 HRR.out HP.out KF.here KH.here hl2 HA2.out HB.out KT.here).mono ?_
    by_cases hlt : N < l
    · have HR1 := Lib.hid (HPN.out hlt)
      have h9 := HGN.out hlt
      rw [h9.1, h9.2]
      rintro e w2 ⟨rfl, hb2⟩
      replace KB := KB.on hb2
      replace K0 := K0.on hb2
      clear hb2
      have hlt' : (0 : Int) ≤ (N : Int) := by omega
      go_wp2_with (first | (with_reducible refine copy_drum rfl rfl rfl _ _ rfl (fun _ => 0) rfl rfl ?_; intro V hb3 hz3 hg3; have HG3 := Lib.hid hg3; have KB3 := KB.on hb3; have h0 := Lib.hid (K0.at hb3); clear hb3 hz3 hg3) | (with_reducible refine build_drum rfl rfl ?_) | (with_reducible refine store_drum rfl _ _ rfl (w.heap.size + 1) (fun _ => 0) rfl rfl _ _ h0.out ?_))
      refine bodyPost_ret (results_drum2 rfl _ _ (w.heap.size + 1) _ (fun _ => 0) (.int .i64 6) rfl (h0.out.setRow _) rfl) rfl ⟨by rw [HR1.out.1, HR1.out.2.1], below_setRow KB3.here (by omega) _⟩
    · have hNl : N = l := by omega
      have HR1 := Lib.hid (HPY.out hNl)
      have h9 := HGY.out hNl
      rw [h9.1, h9.2]
      obtain ⟨E, hE⟩ : ∃ E, grD m n P R A B l = E := ⟨_, rfl⟩
      rw [hE]
      have HE := Lib.hid hE; clear hE
      rintro e w2 ⟨rfl, hb2⟩
      replace KB := KB.on hb2
      replace K0 := K0.on hb2
      clear hb2
      go_wp2_with (first | (with_reducible refine copy_drum rfl rfl rfl _ _ rfl E rfl rfl ?_; intro V hb3 hz3 hg3; have HG3 := Lib.hid hg3; have KB3 := KB.on hb3; have h0 := Lib.hid (K0.at hb3); clear hb3 hz3 hg3) | (with_reducible refine load_drum rfl _ rfl w2.heap.size rfl _ E HG3.out ?_) | (with_reducible refine store_drum rfl _ _ rfl (w.heap.size + 1) E rfl rfl _ _ h0.out ?_))
      refine bodyPost_ret (results_drum2 rfl _ _ (w.heap.size + 1) _ E (.int .i64 0) rfl (h0.out.setRow _) rfl) rfl ⟨by rw [HR1.out.1, HR1.out.2.1, HE.out], below_setRow KB3.here (by omega) _⟩
  · have HR1 := Lib.hid (pg_bad hx h0)
    clear hx hx0
    have h1 := K0.here
    go_wp2_with (first | (with_reducible refine build_drum rfl rfl ?_) | (with_reducible refine store_drum rfl _ _ rfl (w.heap.size + 1) (fun _ => 0) rfl rfl _ _ h1 ?_))
    refine bodyPost_ret (results_drum2 rfl _ _ (w.heap.size + 1) _ (fun _ => 0) (.int .i64 x) rfl (DrumAt.setRow h1 _) rfl) rfl ⟨by rw [HR1.out.1, HR1.out.2.1], below_setRow KB.here (by omega) _⟩
set_option maxRecDepth 100000 in
set_option maxHeartbeats 1000000 in
theorem implFirstUnpinned_any (s : Int) (a : Option Addr) (n c : Nat) (P R : Nat → Int) (q : Option Addr) (l e0 : Nat) (A B : Nat → Int) (w : World) (hs : -32768 ≤ s ∧ s ≤ 32767) (hn : n ≤ 1048576) (hP : I8 P) (hR : I8 R) (hh : HamAt w a n P R) (hl : l ≤ 1048576) (hA : I16 A) (hB : I8 B) (ht : NoteAt w q l A B) :
    Calls Try.prog 53 #[.agg #[.int .i16 s, .slice a n c], .slice q l e0] w fun e w' => e = .returned (.tuple #[.int .i64 (fuV s n P R l A B), .int .i64 (fuC s n P R l A B)]) ∧ Below w.heap.size w w' := by
  have HP := Lib.hid hP; have HR := Lib.hid hR; have HA := Lib.hid hA; have HB := Lib.hid hB
  clear hP hR hA hB
  have KB := Kp.base w
  have KH := kp_ham hh; have KT := kp_note ht; clear hh ht
  replace KB := KB.alloc (.cells #[.int .i16 s, .slice a n c] 27)
  replace KH := KH.alloc (.cells #[.int .i16 s, .slice a n c] 27)
  replace KT := KT.alloc (.cells #[.int .i16 s, .slice a n c] 27)
  have KF := kp_new1 w #[.int .i16 s, .slice a n c] 27 (g := w.heap.size) (by simp)
  have HZ := Lib.hid (show (w.alloc (.cells #[.int .i16 s, .slice a n c] 27)).heap.size = w.heap.size + 1 by simp)
  go_enter Try.func53, Try.ntmps53
  go_wp2_with (first | (with_reducible refine load_iframe rfl _ rfl w.heap.size rfl _ s a n c KF.here ?_) | (with_reducible refine alloc_drum ?_ ?_ ?_; with_reducible rfl; with_reducible rfl))
  generalize (w.alloc (.cells #[.int .i16 s, .slice a n c] 27)) = W at KB KH KT KF HZ ⊢
  clear HZ
  refine (tuneOnCode_any s a n c P R q l e0 A B 0 none 0 0 (fun _ _ => 0) W hs hn HP.out HR.out KH.here hl HA.out HB.out KT.here (by omega) (by omega) (drumsNone W _)).mono ?_
  rw [okAll_none, ← tc0_def]
  rintro e w1 ⟨rfl, hb1⟩
  replace KB := KB.on hb1
  replace KH := KH.on hb1
  replace KT := KT.on hb1
  replace KF := KF.on hb1
  clear hb1
  have hx0 := tc0_def s n P R l A B
  obtain ⟨x, hx⟩ : ∃ x, tc0 s n P R l A B = x := ⟨_, rfl⟩
  rw [hx]
  by_cases h0 : x = 0
  ·
    subst h0
    obtain ⟨hs2, hn2, hr, hl2, hA2, hB2, _⟩ := to_facts (hx0 ▸ hx) (fun h => h)
    obtain ⟨m, rfl⟩ : ∃ m : Nat, s = m := ⟨s.toNat, by omega⟩
    have HRR := Lib.hid (show ∀ t, t < n → 1 ≤ R t ∧ R t ≤ m from fun t ht => ⟨(hr t ht).2.1, (hr t ht).2.2.1⟩)
    have HA2 := Lib.hid hA2
    clear hr hA2 hB2
    have HPN := Lib.hid (fun h => pg_no hx h)
    have HPY := Lib.hid (fun h => pg_yes hx h)
    rw [Int.toNat_natCast] at HPN HPY
    have hle := grN_le (m := m) (n := n) (P := P) (R := R) (A := A) (B := B) l
    clear hx
    go_wp2_with (with_reducible refine load_iframe rfl _ rfl w.heap.size rfl _ (m : Int) a n c KF.here ?_)
    refine (greedily_any m a n c P R q l e0 A B w1 (by omega) hn2 HRR.out HP.out KH.here hl2 HA2.out HB.out KT.here).mono ?_
    rintro e w2 ⟨rfl, hb2⟩
    replace KB := KB.on hb2
    clear hb2
    obtain ⟨N, hN⟩ : ∃ N, grN m n P R A B l = N := ⟨_, rfl⟩
    rw [hN] at HPN HPY hle ⊢
    obtain ⟨E, hE⟩ : ∃ E, grD m n P R A B N = E := ⟨_, rfl⟩
    rw [hE]
    clear hE hN
    by_cases hlt : N < l
    · have hlt' : ¬ (N : Int) = l := by omega
      have HR1 := Lib.hid (HPN.out hlt)
      go_wp2_with (with_reducible refine copy_drum rfl rfl rfl _ _ rfl E rfl rfl ?_; intro V hb3 hz3 hg3; have KB3 := KB.on hb3; clear hb3 hz3 hg3)
      go_ret2
      exact ⟨by rw [HR1.out.2.2.1, HR1.out.2.2.2]; rfl, KB3.here⟩
    · obtain rfl : N = l := by omega
      have HR1 := Lib.hid (HPY.out rfl)
      go_wp2_with (with_reducible refine copy_drum rfl rfl rfl _ _ rfl E rfl rfl ?_; intro V hb3 hz3 hg3; have KB3 := KB.on hb3; clear hb3 hz3 hg3)
      go_ret2
      exact ⟨by rw [HR1.out.2.2.1, HR1.out.2.2.2]; rfl, KB3.here⟩
  · have HR1 := Lib.hid (pg_bad hx h0)
    clear hx hx0
    go_wp2
    go_ret2
    exact ⟨by rw [HR1.out.2.2.1, HR1.out.2.2.2]; rfl, KB.here⟩
set_option maxRecDepth 100000 in
set_option maxHeartbeats 1000000 in
theorem specFirstUnpinned_any (s : Int) (a : Option Addr) (n c : Nat) (P R : Nat → Int) (q : Option Addr) (l e0 : Nat) (A B : Nat → Int) (w : World) (hs : -32768 ≤ s ∧ s ≤ 32767) (hn : n ≤ 1048576) (hP : I8 P) (hR : I8 R) (hh : HamAt w a n P R) (hl : l ≤ 1048576) (hA : I16 A) (hB : I8 B) (ht : NoteAt w q l A B) :
    Calls Try.prog 52 #[.agg #[.int .i16 s, .slice a n c], .slice q l e0] w fun e w' => e = .returned (.tuple #[.int .i64 (fuV s n P R l A B), .int .i64 (fuC s n P R l A B)]) ∧ Below w.heap.size w w' := by
  have HP := Lib.hid hP; have HR := Lib.hid hR; have HA := Lib.hid hA; have HB := Lib.hid hB
  clear hP hR hA hB
  have KB := Kp.base w
  have KH := kp_ham hh; have KT := kp_note ht; clear hh ht
  replace KB := KB.alloc (.cells #[.int .i16 s, .slice a n c] 27)
  replace KH := KH.alloc (.cells #[.int .i16 s, .slice a n c] 27)
  replace KT := KT.alloc (.cells #[.int .i16 s, .slice a n c] 27)
  have KF := kp_new1 w #[.int .i16 s, .slice a n c] 27 (g := w.heap.size) (by simp)
  have HZ := Lib.hid (show (w.alloc (.cells #[.int .i16 s, .slice a n c] 27)).heap.size = w.heap.size + 1 by simp)
  go_enter Try.func52, Try.ntmps52
  go_wp2_with fail
  generalize (w.alloc (.cells #[.int .i16 s, .slice a n c] 27)) = W at KB KH KT KF HZ ⊢
  clear HZ
  refine (l03Fits_any w.heap.size s a n c P R q l e0 A B 0 W hs hn HP.out HR.out KH.here hl HA.out HB.out KT.here (by omega) KF.here).mono ?_
  rw [← tc0_def]
  rintro e w1 ⟨rfl, hb1⟩
  replace KB := KB.on hb1
  replace KH := KH.on hb1
  replace KT := KT.on hb1
  replace KF := KF.on hb1
  clear hb1
  have hx0 := tc0_def s n P R l A B
  obtain ⟨x, hx⟩ : ∃ x, tc0 s n P R l A B = x := ⟨_, rfl⟩
  rw [hx]
  by_cases h0 : x = 0
  ·
    subst h0
    obtain ⟨hs2, hn2, hr, hl2, hA2, hB2, _⟩ := to_facts (hx0 ▸ hx) (fun h => h)
    obtain ⟨m, rfl⟩ : ∃ m : Nat, s = m := ⟨s.toNat, by omega⟩
    have HRR := Lib.hid (show ∀ t, t < n → 1 ≤ R t ∧ R t ≤ m from fun t ht => ⟨(hr t ht).2.1, (hr t ht).2.2.1⟩)
    have HA2 := Lib.hid hA2
    clear hr hA2 hB2
    have HPN := Lib.hid (fun h => pg_no hx h)
    have HPY := Lib.hid (fun h => pg_yes hx h)
    rw [Int.toNat_natCast] at HPN HPY
    have hle := grN_le (m := m) (n := n) (P := P) (R := R) (A := A) (B := B) l
    clear hx
    obtain ⟨N, hN⟩ : ∃ N, grN m n P R A B l = N := ⟨_, rfl⟩
    have HGN := Lib.hid (fun h => grS_no (m := m) (n := n) (P := P) (R := R) (A := A) (B := B) (l := l) h)
    have HGY := Lib.hid (fun h => grS_yes (m := m) (n := n) (P := P) (R := R) (A := A) (B := B) (l := l) h)
    rw [hN] at HPN HPY hle HGN HGY
    go_wp2_with fail
    refine (l03Greedy_any w.heap.size 27 m a n c P R q l e0 A B w1 (by omega) hn2 HRR.out HP.out KF.here KH.here hl2 HA2.out HB.out KT.here).mono ?_
    by_cases hlt : N < l
    · have HR1 := Lib.hid (HPN.out hlt)
      have h9 := HGN.out hlt
      rw [h9.1, h9.2]
      rintro e w2 ⟨rfl, hb2⟩
      replace KB := KB.on hb2
      clear hb2
      have hlt' : ¬ (N : Int) < 0 := by omega
      go_wp2_with (with_reducible refine copy_drum rfl rfl rfl _ _ rfl (fun _ => 0) rfl rfl ?_; intro V hb3 hz3 hg3; have KB3 := KB.on hb3; clear hb3 hz3 hg3)
      go_ret2
      exact ⟨by rw [HR1.out.2.2.1, HR1.out.2.2.2]; rfl, KB3.here⟩
    · have hNl : N = l := by omega
      have HR1 := Lib.hid (HPY.out hNl)
      have h9 := HGY.out hNl
      rw [h9.1, h9.2]
      obtain ⟨E, hE⟩ : ∃ E, grD m n P R A B l = E := ⟨_, rfl⟩
      rw [hE]
      clear hE
      rintro e w2 ⟨rfl, hb2⟩
      replace KB := KB.on hb2
      clear hb2
      go_wp2_with (with_reducible refine copy_drum rfl rfl rfl _ _ rfl E rfl rfl ?_; intro V hb3 hz3 hg3; have KB3 := KB.on hb3; clear hb3 hz3 hg3)
      go_ret2
      exact ⟨by rw [HR1.out.2.2.1, HR1.out.2.2.2]; rfl, KB3.here⟩
  · have HR1 := Lib.hid (pg_bad hx h0)
    clear hx hx0
    go_wp2
    go_ret2
    exact ⟨by rw [HR1.out.2.2.1, HR1.out.2.2.2]; rfl, KB.here⟩
end Go.Proofs.Ytkefjgbcpoggiaa
