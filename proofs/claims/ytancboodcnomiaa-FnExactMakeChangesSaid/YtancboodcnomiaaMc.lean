/- MakeChanges and FirstBadChange, by the reference and by the program. No conditions. -/
import Derived.Test.YtancboodcnomiaaMk
import Derived.Outline
namespace Go.Proofs.Ytancboodcnomiaa
open Go.RowKit
set_option linter.unusedVariables false
set_option linter.unusedSimpArgs false

/-- the code of a frame, a drum and m changes -/
def chc (ok : Bool) (m : Nat) : Int := if ok then (if m ≤ 2400 then 0 else 3) else 1
theorem chc_false (m : Nat) : chc false m = 1 := rfl
theorem chc_few {m : Nat} (h : m ≤ 2400) : chc true m = 0 := by simp [chc, h]
theorem chc_many {m : Nat} (h : ¬ m ≤ 2400) : chc true m = 3 := by simp [chc, h]
theorem chc_zero {ok : Bool} {m : Nat} (h : chc ok m = 0) : ok = true ∧ m ≤ 2400 := by
  cases ok
  · simp [chc] at h
  · by_cases hm : m ≤ 2400
    · exact ⟨rfl, hm⟩
    · simp [chc, hm] at h
attribute [irreducible] chc
theorem firstL_chc (ok : Bool) (m : Nat) : firstL [unl ok 1, unl (decide ((m : Int) ≤ 2400)) 3] = chc ok m := by
  cases ok
  · rw [firstL_at _ (by rw [unl_false]; simp), unl_false, chc_false]
  · rw [firstL_zero _ (unl_true 1)]
    by_cases h : m ≤ 2400
    · rw [decide_eq_true (by omega), firstL_zero _ (unl_true 3), firstL_nil, chc_few h]
    · rw [decide_eq_false (by omega), firstL_at _ (by rw [unl_false]; simp), unl_false, chc_many h]
/-- what comes of all changes -/
def mcR (s : Int) (n : Nat) (P R : Nat → Int) (D : Nat → Nat) (m : Nat) (S K : Nat → Int) (U : Nat → Bool) : Nat → Nat :=
  if chc (okAll s n P R 1 (fun _ => D)) m = 0 then mtD D S K m (mkGo s n P R D S K U m) else fun _ => 0
def mcC (s : Int) (n : Nat) (P R : Nat → Int) (D : Nat → Nat) (m : Nat) (S K : Nat → Int) (U : Nat → Bool) : Int :=
  if chc (okAll s n P R 1 (fun _ => D)) m = 0 then mtC 0 (mkGo s n P R D S K U m) else chc (okAll s n P R 1 (fun _ => D)) m
def fbV (s : Int) (n : Nat) (P R : Nat → Int) (D : Nat → Nat) (m : Nat) (S K : Nat → Int) (U : Nat → Bool) : Int :=
  if chc (okAll s n P R 1 (fun _ => D)) m = 0 then mtI 0 (mkGo s n P R D S K U m) else 0
def fbC (s : Int) (n : Nat) (P R : Nat → Int) (D : Nat → Nat) (m : Nat) (S K : Nat → Int) (U : Nat → Bool) : Int :=
  if chc (okAll s n P R 1 (fun _ => D)) m = 0 then (if mtC 0 (mkGo s n P R D S K U m) = 0 then 6 else 0) else chc (okAll s n P R 1 (fun _ => D)) m
section
variable {s : Int} {n : Nat} {P R : Nat → Int} {D : Nat → Nat} {m : Nat} {S K : Nat → Int} {U : Nat → Bool}
theorem mc_no {x : Int} (h : chc (okAll s n P R 1 (fun _ => D)) m = x) (hx : ¬ x = 0) : mcR s n P R D m S K U = (fun _ => 0) ∧ mcC s n P R D m S K U = x ∧ fbV s n P R D m S K U = 0 ∧ fbC s n P R D m S K U = x := by
  subst h; exact ⟨if_neg hx, if_neg hx, if_neg hx, if_neg hx⟩
theorem mc_yes (h : chc (okAll s n P R 1 (fun _ => D)) m = 0) : mcR s n P R D m S K U = mtD D S K m (mkGo s n P R D S K U m) ∧ mcC s n P R D m S K U = mtC 0 (mkGo s n P R D S K U m) ∧ fbV s n P R D m S K U = mtI 0 (mkGo s n P R D S K U m) ∧ fbC s n P R D m S K U = (if mtC 0 (mkGo s n P R D S K U m) = 0 then 6 else 0) :=
  ⟨if_pos h, if_pos h, if_pos h, if_pos h⟩
theorem mkGo_code {r : Nat × Int} {i : Nat} (h : mkGo s n P R D S K U i = some r) : ¬ r.2 = 0 ∧ r.1 < i := by
  induction i with
  | zero => rw [mkGo_zero] at h; simp at h
  | succ i ih =>
    cases hg : mkGo s n P R D S K U i with
    | some q =>
      have := mkGo_mono hg 1
      rw [this] at h
      obtain rfl : q = r := by simpa using h
      have := ih hg
      exact ⟨this.1, by omega⟩
    | none =>
      by_cases hc : wpC s n P R (mkD D S K i) (S i) (K i) (U i) = 0
      · rw [mkGo_no hg hc] at h; simp at h
      · rw [mkGo_found (Nat.lt_succ_self i) hg rfl hc] at h
        obtain rfl : (i, wpC s n P R (mkD D S K i) (S i) (K i) (U i)) = r := by simpa using h
        exact ⟨hc, Nat.lt_succ_self i⟩
theorem mc_zero (h : ¬ mcC s n P R D m S K U = 0) : mcR s n P R D m S K U = fun _ => 0 := by
  by_cases hc : chc (okAll s n P R 1 (fun _ => D)) m = 0
  · obtain ⟨h1, h2, _, _⟩ := mc_yes (S := S) (K := K) (U := U) hc
    rw [h2] at h
    rw [h1]
    cases hg : mkGo s n P R D S K U m with
    | some r => rw [mtD_some]
    | none => rw [hg] at h; exact absurd rfl h
  · exact (mc_no rfl hc).1
def mlI (s : Int) (n : Nat) (P R : Nat → Int) (D : Nat → Nat) (m : Nat) (S K : Nat → Int) (U : Nat → Bool) : Int :=
  if chc (okAll s n P R 1 (fun _ => D)) m = 0 then mtI m (mkGo s n P R D S K U m) else 0
theorem ml_no {x : Int} (h : chc (okAll s n P R 1 (fun _ => D)) m = x) (hx : ¬ x = 0) : mlI s n P R D m S K U = 0 := by subst h; exact if_neg hx
theorem ml_yes (h : chc (okAll s n P R 1 (fun _ => D)) m = 0) : mlI s n P R D m S K U = mtI m (mkGo s n P R D S K U m) := if_pos h
attribute [irreducible] mlI
theorem fb_yes (hc : chc (okAll s n P R 1 (fun _ => D)) m = 0) (h : mcC s n P R D m S K U = 0) : fbV s n P R D m S K U = 0 ∧ fbC s n P R D m S K U = 6 := by
  obtain ⟨_, h2, h3, h4⟩ := mc_yes (S := S) (K := K) (U := U) hc
  rw [h2] at h
  rw [h3, h4, h, if_pos rfl]
  refine ⟨?_, rfl⟩
  cases hg : mkGo s n P R D S K U m with
  | some r => rw [hg] at h; exact absurd h (mkGo_code hg).1
  | none => rfl
theorem fb_no (hc : chc (okAll s n P R 1 (fun _ => D)) m = 0) (h : ¬ mcC s n P R D m S K U = 0) : fbV s n P R D m S K U = mlI s n P R D m S K U ∧ fbV s n P R D m S K U = mtI 0 (mkGo s n P R D S K U m) ∧ fbC s n P R D m S K U = 0 := by
  obtain ⟨_, h2, h3, h4⟩ := mc_yes (S := S) (K := K) (U := U) hc
  rw [h2] at h
  rw [h3, h4, ml_yes hc, if_neg h]
  refine ⟨?_, rfl, rfl⟩
  cases hg : mkGo s n P R D S K U m with
  | some r => rfl
  | none => rw [hg] at h; exact absurd rfl h
end
attribute [irreducible] mcR mcC fbV fbC
set_option maxRecDepth 100000 in
theorem changesCode_any (s : Int) (a : Option Addr) (n c : Nat) (P R : Nat → Int) (D : Nat → Nat) (b : Option Addr) (m d : Nat) (S K : Nat → Int) (U : Nat → Bool) (w : World) (hs : -32768 ≤ s ∧ s ≤ 32767) (hn : n ≤ 1048576) (hP : I8 P) (hR : I8 R) (hh : HamAt w a n P R) (hm : m ≤ 1048576) :
    Calls Try.prog 87 #[.agg #[.int .i16 s, .slice a n c], .agg (dc D), .slice b m d] w fun e w' => e = .returned (.int .i64 (chc (okAll s n P R 1 (fun _ => D)) m)) ∧ Below w.heap.size w w' := by
  have HP := Lib.hid hP; have HR := Lib.hid hR
  clear hP hR
  have KB := Kp.base w
  have KH := kp_ham hh; clear hh
  replace KB := KB.alloc (.cells #[.int .i16 s, .slice a n c] 33)
  replace KH := KH.alloc (.cells #[.int .i16 s, .slice a n c] 33)
  have KF := kp_new1 w #[.int .i16 s, .slice a n c] 33 (g := w.heap.size) (by simp)
  replace KB := KB.alloc (.cells (dc D) 61)
  replace KH := KH.alloc (.cells (dc D) 61)
  replace KF := KF.alloc (.cells (dc D) 61)
  have K1 := kp_newd (w.alloc (.cells #[.int .i16 s, .slice a n c] 33)) (D) 61 (g := w.heap.size + 1) (by simp)
  have HZ := Lib.hid (show ((w.alloc (.cells #[.int .i16 s, .slice a n c] 33)).alloc (.cells (dc D) 61)).heap.size = w.heap.size + 1 + 1 by simp)
  go_enter Try.func87, Try.ntmps87
  go_wp2_with (first | (with_reducible refine load_iframe rfl _ rfl w.heap.size rfl _ s a n c KF.here ?_) | (with_reducible refine load_drum rfl _ rfl (w.heap.size + 1) rfl _ D K1.here ?_) | (with_reducible refine build1 rfl _ rfl D rfl ?_))
  generalize ((w.alloc (.cells #[.int .i16 s, .slice a n c] 33)).alloc (.cells (dc D) 61)) = W at KB KH KF K1 HZ ⊢
  have hl := DrumsAt.one W D (fun _ => D) rfl
  rw [HZ.out] at hl
  clear HZ
  replace KB := KB.alloc (.cells (dc D) 61)
  replace KH := KH.alloc (.cells (dc D) 61)
  refine (drumCode_any s a n c P R _ 1 1 (fun _ => D) _ (by omega) (by omega) hs HP.out HR.out KH.here hl).mono ?_
  rintro e w1 ⟨rfl, hb1⟩
  replace KB := KB.on hb1
  clear hb1 hl
  have hF := firstL_chc (okAll s n P R 1 (fun _ => D)) m
  obtain ⟨x, hx⟩ : ∃ x, unl (okAll s n P R 1 (fun _ => D)) 1 = x := ⟨_, rfl⟩
  rw [hx] at hF ⊢
  have HF := Lib.hid hF; clear hF hx
  go_wp2_with (first | (go_at_call 100; refine (unless_any _ _ _).mono ?_; rintro e w2 ⟨rfl, rfl⟩) | (go_at_call 99; refine (firstOf_any [x, unl (decide ((m : Int) ≤ 2400)) 3] w1.heap.size 2 _ (by simp) (heap_alloc_new w1 _)).mono ?_; rintro e w2 ⟨rfl, rfl⟩))
  go_ret
  exact ⟨ret_int HF.out, (KB.alloc _).here⟩
set_option maxRecDepth 100000 in
theorem implMakeChanges_any (s : Int) (a : Option Addr) (n c : Nat) (P R : Nat → Int) (D : Nat → Nat) (b : Option Addr) (m d : Nat) (S K : Nat → Int) (U : Nat → Bool) (w : World) (hs : -32768 ≤ s ∧ s ≤ 32767) (hn : n ≤ 1048576) (hP : I8 P) (hR : I8 R) (hh : HamAt w a n P R) (hD : D32 D) (hm : m ≤ 1048576) (hS : I16 S) (hK : I8 K) (hl : ChgAt w b m S K U) :
    Calls Try.prog 38 #[.agg #[.int .i16 s, .slice a n c], .agg (dc D), .slice b m d] w fun e w' => e = .returned (.tuple #[.agg (dc (mcR s n P R D m S K U)), .int .i64 (mcC s n P R D m S K U)]) ∧ Below w.heap.size w w' := by
  have HP := Lib.hid hP; have HR := Lib.hid hR; have HD := Lib.hid hD; have HS := Lib.hid hS; have HK := Lib.hid hK
  clear hP hR hD hS hK
  have KB := Kp.base w
  have KH := kp_ham hh; have KC := kp_chg hl; clear hh hl
  replace KB := KB.alloc (.cells #[.int .i16 s, .slice a n c] 33)
  replace KH := KH.alloc (.cells #[.int .i16 s, .slice a n c] 33)
  replace KC := KC.alloc (.cells #[.int .i16 s, .slice a n c] 33)
  have KF := kp_new1 w #[.int .i16 s, .slice a n c] 33 (g := w.heap.size) (by simp)
  replace KB := KB.alloc (.cells (dc D) 61)
  replace KH := KH.alloc (.cells (dc D) 61)
  replace KC := KC.alloc (.cells (dc D) 61)
  replace KF := KF.alloc (.cells (dc D) 61)
  have K1 := kp_newd (w.alloc (.cells #[.int .i16 s, .slice a n c] 33)) (D) 61 (g := w.heap.size + 1) (by simp)
  replace KB := KB.alloc (.cells (dc fun _ => 0) 61)
  replace KH := KH.alloc (.cells (dc fun _ => 0) 61)
  replace KC := KC.alloc (.cells (dc fun _ => 0) 61)
  replace KF := KF.alloc (.cells (dc fun _ => 0) 61)
  replace K1 := K1.alloc (.cells (dc fun _ => 0) 61)
  have K0 := kp_newd ((w.alloc (.cells #[.int .i16 s, .slice a n c] 33)).alloc (.cells (dc D) 61)) (fun _ => 0) 61 (g := w.heap.size + 1 + 1) (by simp)
  have HZ := Lib.hid (show (((w.alloc (.cells #[.int .i16 s, .slice a n c] 33)).alloc (.cells (dc D) 61)).alloc (.cells (dc fun _ => 0) 61)).heap.size = w.heap.size + 1 + 1 + 1 by simp)
  go_enter Try.func38, Try.ntmps38
  go_wp2_with (first | (with_reducible refine load_iframe rfl _ rfl w.heap.size rfl _ s a n c KF.here ?_) | (with_reducible refine load_drum rfl _ rfl (w.heap.size + 1) rfl _ D K1.here ?_) | (with_reducible refine alloc_drum ?_ ?_ ?_; with_reducible rfl; with_reducible rfl))
  generalize (((w.alloc (.cells #[.int .i16 s, .slice a n c] 33)).alloc (.cells (dc D) 61)).alloc (.cells (dc fun _ => 0) 61)) = W at KB KH KC KF K1 K0 HZ ⊢
  clear HZ
  refine (changesCode_any s a n c P R D b m d S K U W hs hn HP.out HR.out KH.here hm).mono ?_
  rintro e w1 ⟨rfl, hb1⟩
  replace KB := KB.on hb1
  replace KH := KH.on hb1
  replace KC := KC.on hb1
  replace KF := KF.on hb1
  replace K1 := K1.on hb1
  replace K0 := K0.on hb1
  clear hb1
  obtain ⟨x, hx⟩ : ∃ x, chc (okAll s n P R 1 (fun _ => D)) m = x := ⟨_, rfl⟩
  rw [hx]
  by_cases h0 : x = 0
  · subst h0
    have HMC := Lib.hid (mc_yes (S := S) (K := K) (U := U) hx)
    clear hx
    go_wp2_with (first | (with_reducible refine load_iframe rfl _ rfl w.heap.size rfl _ s a n c KF.here ?_) | (with_reducible refine load_drum rfl _ rfl (w.heap.size + 1) rfl _ D K1.here ?_))
    refine (makeChanges_any s a n c P R D b m d S K U w1 hs hn HP.out HR.out KH.here HD.out hm HS.out HK.out KC.here).mono ?_
    rintro e w2 ⟨rfl, hb2⟩
    replace KB := KB.on hb2
    replace K0 := K0.on hb2
    clear hb2
    rw [← HMC.out.1, ← HMC.out.2.1]
    obtain ⟨r, hr⟩ : ∃ r, mcR s n P R D m S K U = r := ⟨_, rfl⟩
    obtain ⟨y, hy⟩ : ∃ y, mcC s n P R D m S K U = y := ⟨_, rfl⟩
    rw [hr, hy]
    have HRR := Lib.hid hr; have HYY := Lib.hid hy
    clear hr hy HMC
    go_wp2_with (first | (with_reducible refine copy_drum rfl rfl rfl _ _ rfl r rfl rfl ?_; intro V hb3 hz3 hg3; have HG3 := Lib.hid hg3; have KB3 := KB.on hb3; have h0 := Lib.hid (K0.at hb3); clear hb3 hz3 hg3) | (with_reducible refine load_drum rfl _ rfl w2.heap.size rfl _ r HG3.out ?_) | (with_reducible refine store_drum rfl _ _ rfl (w.heap.size + 1 + 1) r rfl rfl _ _ h0.out ?_))
    refine bodyPost_ret (results_drum2 rfl _ _ (w.heap.size + 1 + 1) _ r (.int .i64 y) rfl (h0.out.setRow _) rfl) rfl ⟨by rw [HRR.out, HYY.out], below_setRow KB3.here (by omega) _⟩
  · have HMC := Lib.hid (mc_no (S := S) (K := K) (U := U) hx h0)
    clear hx
    have h1 := K0.here
    go_wp2_with (first | (with_reducible refine build_drum rfl rfl ?_) | (with_reducible refine store_drum rfl _ _ rfl (w.heap.size + 1 + 1) (fun _ => 0) rfl rfl _ _ h1 ?_))
    refine bodyPost_ret (results_drum2 rfl _ _ (w.heap.size + 1 + 1) _ (fun _ => 0) (.int .i64 x) rfl (DrumAt.setRow h1 _) rfl) rfl ⟨by rw [HMC.out.1, HMC.out.2.1], below_setRow KB.here (by omega) _⟩
set_option maxRecDepth 100000 in
theorem implFirstBadChange_any (s : Int) (a : Option Addr) (n c : Nat) (P R : Nat → Int) (D : Nat → Nat) (b : Option Addr) (m d : Nat) (S K : Nat → Int) (U : Nat → Bool) (w : World) (hs : -32768 ≤ s ∧ s ≤ 32767) (hn : n ≤ 1048576) (hP : I8 P) (hR : I8 R) (hh : HamAt w a n P R) (hD : D32 D) (hm : m ≤ 1048576) (hS : I16 S) (hK : I8 K) (hl : ChgAt w b m S K U) :
    Calls Try.prog 42 #[.agg #[.int .i16 s, .slice a n c], .agg (dc D), .slice b m d] w fun e w' => e = .returned (.tuple #[.int .i64 (fbV s n P R D m S K U), .int .i64 (fbC s n P R D m S K U)]) ∧ Below w.heap.size w w' := by
  have HP := Lib.hid hP; have HR := Lib.hid hR; have HD := Lib.hid hD; have HS := Lib.hid hS; have HK := Lib.hid hK
  clear hP hR hD hS hK
  have KB := Kp.base w
  have KH := kp_ham hh; have KC := kp_chg hl; clear hh hl
  replace KB := KB.alloc (.cells #[.int .i16 s, .slice a n c] 33)
  replace KH := KH.alloc (.cells #[.int .i16 s, .slice a n c] 33)
  replace KC := KC.alloc (.cells #[.int .i16 s, .slice a n c] 33)
  have KF := kp_new1 w #[.int .i16 s, .slice a n c] 33 (g := w.heap.size) (by simp)
  replace KB := KB.alloc (.cells (dc D) 61)
  replace KH := KH.alloc (.cells (dc D) 61)
  replace KC := KC.alloc (.cells (dc D) 61)
  replace KF := KF.alloc (.cells (dc D) 61)
  have K1 := kp_newd (w.alloc (.cells #[.int .i16 s, .slice a n c] 33)) (D) 61 (g := w.heap.size + 1) (by simp)
  have HZ := Lib.hid (show ((w.alloc (.cells #[.int .i16 s, .slice a n c] 33)).alloc (.cells (dc D) 61)).heap.size = w.heap.size + 1 + 1 by simp)
  go_enter Try.func42, Try.ntmps42
  go_wp2_with (first | (with_reducible refine load_iframe rfl _ rfl w.heap.size rfl _ s a n c KF.here ?_) | (with_reducible refine load_drum rfl _ rfl (w.heap.size + 1) rfl _ D K1.here ?_))
  generalize ((w.alloc (.cells #[.int .i16 s, .slice a n c] 33)).alloc (.cells (dc D) 61)) = W at KB KH KC KF K1 HZ ⊢
  clear HZ
  refine (changesCode_any s a n c P R D b m d S K U W hs hn HP.out HR.out KH.here hm).mono ?_
  rintro e w1 ⟨rfl, hb1⟩
  replace KB := KB.on hb1
  replace KH := KH.on hb1
  replace KC := KC.on hb1
  replace KF := KF.on hb1
  replace K1 := K1.on hb1
  clear hb1
  obtain ⟨x, hx⟩ : ∃ x, chc (okAll s n P R 1 (fun _ => D)) m = x := ⟨_, rfl⟩
  rw [hx]
  by_cases h0 : x = 0
  · subst h0
    have HMC := Lib.hid (mc_yes (S := S) (K := K) (U := U) hx)
    have hfy := fb_yes (S := S) (K := K) (U := U) hx
    have hfn := fb_no (S := S) (K := K) (U := U) hx
    clear hx
    go_wp2_with (first | (with_reducible refine load_iframe rfl _ rfl w.heap.size rfl _ s a n c KF.here ?_) | (with_reducible refine load_drum rfl _ rfl (w.heap.size + 1) rfl _ D K1.here ?_))
    refine (makeChanges_any s a n c P R D b m d S K U w1 hs hn HP.out HR.out KH.here HD.out hm HS.out HK.out KC.here).mono ?_
    rintro e w2 ⟨rfl, hb2⟩
    replace KB := KB.on hb2
    clear hb2
    rw [← HMC.out.2.1]
    obtain ⟨i, hi⟩ : ∃ i, mtI 0 (mkGo s n P R D S K U m) = i := ⟨_, rfl⟩
    obtain ⟨y, hy⟩ : ∃ y, mcC s n P R D m S K U = y := ⟨_, rfl⟩
    rw [hi, hy]
    rw [hy] at hfy hfn
    rw [hi] at hfn
    clear hi hy HMC
    by_cases hy0 : y = 0
    · have HF := Lib.hid (hfy hy0)
      subst hy0
      clear hfy hfn
      go_wp2_with (with_reducible refine copy_drum rfl rfl rfl _ _ rfl _ rfl rfl ?_; intro V hb3 hz3 hg3; have KB3 := KB.on hb3; clear hb3 hz3 hg3)
      go_ret2
      exact ⟨by rw [HF.out.1, HF.out.2]; rfl, KB3.here⟩
    · have HF := Lib.hid (hfn hy0)
      clear hfy hfn
      go_wp2_with (with_reducible refine copy_drum rfl rfl rfl _ _ rfl _ rfl rfl ?_; intro V hb3 hz3 hg3; have KB3 := KB.on hb3; clear hb3 hz3 hg3)
      go_ret2
      exact ⟨by rw [HF.out.2.1, HF.out.2.2]; rfl, KB3.here⟩
  · have HMC := Lib.hid (mc_no (S := S) (K := K) (U := U) hx h0)
    clear hx
    go_wp2
    go_ret2
    exact ⟨by rw [HMC.out.2.2.1, HMC.out.2.2.2]; rfl, KB.here⟩
set_option maxRecDepth 100000 in
set_option maxHeartbeats 1000000 in
theorem l05Make_any (gf : Nat) (s : Int) (a : Option Addr) (n c : Nat) (P R : Nat → Int) (D : Nat → Nat) (b : Option Addr) (m d : Nat) (S K : Nat → Int) (U : Nat → Bool) (w : World) (hs : -32768 ≤ s ∧ s ≤ 32767) (hn : n ≤ 1048576) (hP : I8 P) (hR : I8 R) (hh : HamAt w a n P R) (hf : w.heap[gf]? = some (.cells #[.int .i16 s, .slice a n c] 33 (0, 0))) (hD : D32 D) (hm : m ≤ 1048576) (hS : I16 S) (hK : I8 K) (hl : ChgAt w b m S K U) :
    Calls Try.prog 85 #[.pointer (some ⟨gf, 0, none⟩), .agg (dc D), .slice b m d] w fun e w' => e = .returned (.tuple #[.agg (dc (mcR s n P R D m S K U)), .int .i64 (mlI s n P R D m S K U), .int .i64 (mcC s n P R D m S K U)]) ∧ Below w.heap.size w w' := by
  have HP := Lib.hid hP; have HR := Lib.hid hR; have HS := Lib.hid hS; have HK := Lib.hid hK
  clear hP hR hS hK
  have KB := Kp.base w
  have KF := kp_row hf; have KH := kp_ham hh; have KC := kp_chg hl; clear hf hh hl
  have KFo := KF; have KHo := KH; have KCo := KC
  have hgf := row_lt KF.here
  replace KB := KB.alloc (.cells (dc D) 61)
  replace KF := KF.alloc (.cells (dc D) 61)
  replace KH := KH.alloc (.cells (dc D) 61)
  replace KC := KC.alloc (.cells (dc D) 61)
  have K1 := kp_newd w (D) 61 (g := w.heap.size) (by simp)
  replace KB := KB.alloc (.cells (dc fun _ => 0) 61)
  replace KF := KF.alloc (.cells (dc fun _ => 0) 61)
  replace KH := KH.alloc (.cells (dc fun _ => 0) 61)
  replace KC := KC.alloc (.cells (dc fun _ => 0) 61)
  replace K1 := K1.alloc (.cells (dc fun _ => 0) 61)
  have K0 := kp_newd (w.alloc (.cells (dc D) 61)) (fun _ => 0) 61 (g := w.heap.size + 1) (by simp)
  have HZ := Lib.hid (show ((w.alloc (.cells (dc D) 61)).alloc (.cells (dc fun _ => 0) 61)).heap.size = w.heap.size + 1 + 1 by simp)
  go_enter Try.func85, Try.ntmps85
  go_wp2_with (with_reducible refine alloc_drum ?_ ?_ ?_; with_reducible rfl; with_reducible rfl)
  generalize ((w.alloc (.cells (dc D) 61)).alloc (.cells (dc fun _ => 0) 61)) = W at KB KF KH KC K1 K0 HZ ⊢
  have hz := HZ.out; clear HZ
  refine (l02Asked_any gf w.heap.size _ s a n c P R D W hs hn HP.out HR.out KH.here KF.here K1.here).mono ?_
  rintro e w1 ⟨rfl, hb1⟩
  have hz1 := hb1.size
  replace KB := KB.on hb1
  replace KH := KH.on hb1
  replace KC := KC.on hb1
  replace KF := KF.on hb1
  replace K1 := K1.on hb1
  replace K0 := K0.on hb1
  clear hb1
  cases hok : okAll s n P R 1 (fun _ => D)
  · have HM := Lib.hid (mc_no (S := S) (K := K) (U := U) (m := m) (x := 1) (by rw [hok, chc_false]) (by simp))
    have HL := Lib.hid (ml_no (S := S) (K := K) (U := U) (m := m) (x := 1) (by rw [hok, chc_false]) (by simp))
    clear hok
    rw [unl_false]
    have h1 := K0.here
    go_wp2_with (first | (with_reducible refine build_drum rfl rfl ?_) | (with_reducible refine store_drum rfl _ _ rfl (w.heap.size + 1) (fun _ => 0) rfl rfl _ _ h1 ?_))
    refine bodyPost_ret (results_drum3 rfl _ _ (w.heap.size + 1) _ (fun _ => 0) (.int .i64 0) (.int .i64 1) rfl (DrumAt.setRow h1 _) rfl rfl) rfl ⟨by rw [HM.out.1, HM.out.2.1, HL.out], below_setRow KB.here (by omega) _⟩
  · rw [unl_true]
    by_cases h24 : m ≤ 2400
    · have hch : chc (okAll s n P R 1 (fun _ => D)) m = 0 := by rw [hok, chc_few h24]
      have HM := Lib.hid (mc_yes (S := S) (K := K) (U := U) hch)
      have HL := Lib.hid (ml_yes (S := S) (K := K) (U := U) hch)
      clear hch hok
      have HBW := Lib.hid KB.here; have H1 := Lib.hid K1.here; have H0 := Lib.hid K0.here; have HF0 := Lib.hid KF.here
      go_wp2
      go_loopw [10] (fun i w' => Below w.heap.size w1 w' ∧ ∃ k : Nat, k ≤ m ∧ i = .int .i64 k ∧ w1.heap.size ≤ w'.heap.size ∧ DrumAt w' 61 w.heap.size (mkD D S K k) ∧ DrumAt w' 61 (w.heap.size + 1) (fun _ => 0) ∧ D32 (mkD D S K k) ∧ mkGo s n P R D S K U k = none) (fun i _ => m - (intOf i).toNat)
      case atStart => exact ⟨Below.refl _ _, 0, by omega, rfl, Nat.le_refl _, by rw [mkD_zero]; exact H1.out, H0.out, by rw [mkD_zero]; exact hD, mkGo_zero⟩
      case round =>
        clear H1 H0 KB KH KC KF K1 K0
        obtain ⟨hb, k, hk, rfl, hsz, h1, h0, hD3, hG⟩ := hrel
        have HA := Lib.hid h1; have HZ0 := Lib.hid h0; have HD3 := Lib.hid hD3; have HG := Lib.hid hG
        clear h1 h0 hD3 hG
        have hbw := HBW.out.trans hb
        by_cases hlt : k < m
        · have hx := ChgAt.get (KCo.at hbw) (show 0 < m by omega)
          obtain ⟨g, off, rfl, hg, hc⟩ := hx
          have c0 := (hc k hlt).1
          have c1 := (hc k hlt).2.1
          have c2 := (hc k hlt).2.2
          have HC2 := Lib.hid c2
          clear hc
          have hk' : (k : Int) < m := by omega
          have hs1 := HS.out k
          have hs2 := HK.out k
          have q1 := i64_id (x := S k) (by omega)
          have q2 := i64_id (x := K k) (by omega)
          go_wp2_with fail
          refine (l02Place_any gf w.heap.size _ s a n c P R (mkD D S K k) (S k) (K k) wr hs hn HP.out HR.out (KHo.at hbw) (KFo.at hbw) HA.out).mono ?_
          rintro e w2 ⟨rfl, hb2⟩
          have hs3 := hb2.size
          have HA2 := Lib.hid (HA.out.below hb2 HA.out.lt); have HZ2 := Lib.hid (HZ0.out.below hb2 HZ0.out.lt)
          have HB2 := Lib.hid (hb.trans (hb2.mono (by omega)))
          have d2 := (hb2.cell (p := ⟨g, off + k * 3 + 2, none⟩) hg).trans HC2.out
          clear c0 c1 c2 hb2 hb HC2
          obtain ⟨p, hp⟩ : ∃ p, plc s n P R (mkD D S K k) (S k) (K k) = p := ⟨_, rfl⟩
          rw [hp]
          by_cases hp0 : p = 0
          · subst hp0
            obtain ⟨hokk, hkk, htt⟩ := plc_zero hp
            obtain ⟨hs22, hn22⟩ := okAll_frame hokk
            clear hokk
            obtain ⟨i, hi⟩ : ∃ i : Nat, S k = i := ⟨(S k).toNat, by omega⟩
            obtain ⟨t, ht⟩ : ∃ t : Nat, K k = t := ⟨(K k).toNat, by omega⟩
            rw [hi, ht]
            have hwc := wpC_4 (on := U k) hp
            have hwc0 := wpC_0 (on := U k) hp
            have hi96 : i < 96 := by omega
            have ht24 : t < 24 := by omega
            rw [hi, ht, Int.toNat_natCast, Int.toNat_natCast] at hwc hwc0
            have hl2 : ∀ q, Calls Try.prog 117 #[.pointer (some ⟨w.heap.size, 0, none⟩), .int .i64 (i : Int), .int .i64 (t : Int)] (w2.drewN q) fun e w' => e = .returned (.bool (hasPin (mkD D S K k) i t)) ∧ w2.drewN q = w' := fun q => l02Pin_any w.heap.size _ (mkD D S K k) i t _ HD3.out hi96 ht24 (HA2.out.drewN q)
            by_cases hpin : hasPin (mkD D S K k) i t = U k
            · have hx4 := hwc hpin
              rw [← hi, ← ht] at hx4
              have hf1 := Lib.hid (mkGo_found hlt HG.out hx4 (by simp))
              rw [hpin] at hl2
              have HL2 := Lib.hid hl2
              clear hwc hwc0 hx4 hp hpin hl2
              obtain ⟨u, hu⟩ : ∃ u, U k = u := ⟨_, rfl⟩
              rw [hu] at d2 HL2
              clear hu
              have heq : (u == u) = true := by cases u <;> rfl
              go_wp2
              go_quiet ((go_at_call 117; exact q_same (HL2.out _)))
              go_wp2_with (first | (with_reducible refine build_drum rfl rfl ?_) | (with_reducible refine store_drum rfl _ _ rfl (w.heap.size + 1) (fun _ => 0) rfl rfl _ _ (HZ2.out.drewN _) ?_))
              refine bodyPost_ret (results_drum3 rfl _ _ (w.heap.size + 1) _ (fun _ => 0) (.int .i64 k) (.int .i64 4) rfl (DrumAt.setRow (HZ2.out.drewN _) _) rfl rfl) rfl ⟨by rw [HM.out.1, HM.out.2.1, HL.out, hf1.out, mtD_some]; rfl, below_setRow (below_drewN (HBW.out.trans HB2.out) _) (by omega) _⟩
            · have hx0 := hwc0 hpin
              have hp2 : hasPin (mkD D S K k) i t = !U k := by cases hU : U k <;> rw [hU] at hpin <;> simpa using hpin
              have htr := ht24
              have hwp : wpD (mkD D S K k) (S k) (K k) = upd (mkD D S K k) i (mkD D S K k i ^^^ 2 ^ t) := by rw [wpD_def, hi, ht]; rfl
              rw [← hi, ← ht] at hx0
              have hn1 := Lib.hid (mkGo_no HG.out hx0)
              have hD4 := Lib.hid (wpD_32 (k := S k) HD3.out (wpC_track hx0))
              have hsc := Lib.hid (mkD_succ D S K k)
              rw [hp2] at hl2
              have HL2 := Lib.hid hl2; have HWP := Lib.hid hwp
              clear hwc hwc0 hx0 hp hpin hp2 hl2 hwp
              obtain ⟨u, hu⟩ : ∃ u, U k = u := ⟨_, rfl⟩
              rw [hu] at d2 HL2
              clear hu
              have heq : ((!u) == u) = false := by cases u <;> rfl
              go_wp2
              go_quiet ((go_at_call 117; exact q_same (HL2.out _)))
              have e0 := (HA2.out.drewN nq).cell i hi96
              have ef := (HA2.out.drewN nq).frozen i
              have hw1 := u64_nat t (by omega)
              have hw2 : min t 32 = t := by omega
              obtain ⟨bb, hbb⟩ : ∃ bb, bb = 2 ^ t := ⟨_, rfl⟩
              have hwr := wrap_pow ht24 hbb
              have hb32 : bb < 4294967296 := by have := pow24 ht24; omega
              rw [← hbb] at HWP
              have hbit := bits_xor_u32 (HD3.out i) hb32
              have hi96' : (i : Int) < 96 := by omega
              clear hbb heq
              go_wp2
              go_roundw
              case rel =>
                have h1 := (HA2.out.drewN nq).setCell i (mkD D S K k i ^^^ bb) hi96
                rw [← HWP.out] at h1
                refine ⟨(below_drewN HB2.out nq).setCell (Nat.le_refl _) _, k + 1, by omega, by go_num, by simp; omega, by rw [hsc.out]; exact h1, (HZ2.out.drewN nq).setOther _ _ (by simp), by rw [hsc.out]; exact hD4.out, hn1.out⟩
              case measure => simp [intOf]; omega
          · have hxp := wpC_no (on := U k) (show ¬ plc s n P R (mkD D S K k) (S k) (K k) = 0 by rw [hp]; exact hp0)
            rw [hp] at hxp
            have hf1 := Lib.hid (mkGo_found hlt HG.out hxp hp0)
            clear hp hxp
            go_wp2
            go_quiet (fail)
            go_wp2_with (first | (with_reducible refine build_drum rfl rfl ?_) | (with_reducible refine store_drum rfl _ _ rfl (w.heap.size + 1) (fun _ => 0) rfl rfl _ _ (HZ2.out.drewN _) ?_))
            refine bodyPost_ret (results_drum3 rfl _ _ (w.heap.size + 1) _ (fun _ => 0) (.int .i64 k) (.int .i64 p) rfl (DrumAt.setRow (HZ2.out.drewN _) _) rfl rfl) rfl ⟨by rw [HM.out.1, HM.out.2.1, HL.out, hf1.out, mtD_some]; rfl, below_setRow (below_drewN (HBW.out.trans HB2.out) _) (by omega) _⟩
        · have hkm : k = m := by omega
          subst hkm
          have h1 := HA.out; have h0 := HZ0.out
          have h0' := DrumAt.setRow h0 (mkD D S K k)
          go_wp2_with (first | (with_reducible refine load_drum rfl _ rfl w.heap.size rfl _ (mkD D S K k) h1 ?_) | (with_reducible refine store_drum rfl _ _ rfl (w.heap.size + 1) (mkD D S K k) rfl rfl _ _ h0 ?_))
          refine bodyPost_ret (results_drum3 rfl _ _ (w.heap.size + 1) _ (mkD D S K k) (.int .i64 k) (.int .i64 0) rfl h0' rfl rfl) rfl ⟨by rw [HM.out.1, HM.out.2.1, HL.out, HG.out, mtD_none]; rfl, below_setRow hbw (by omega) _⟩
    · have hch : chc (okAll s n P R 1 (fun _ => D)) m = 3 := by rw [hok, chc_many h24]
      have HM := Lib.hid (mc_no (S := S) (K := K) (U := U) hch (by simp))
      have HL := Lib.hid (ml_no (S := S) (K := K) (U := U) hch (by simp))
      clear hch hok
      have h1 := K0.here
      go_wp2_with (first | (with_reducible refine build_drum rfl rfl ?_) | (with_reducible refine store_drum rfl _ _ rfl (w.heap.size + 1) (fun _ => 0) rfl rfl _ _ h1 ?_))
      refine bodyPost_ret (results_drum3 rfl _ _ (w.heap.size + 1) _ (fun _ => 0) (.int .i64 0) (.int .i64 3) rfl (DrumAt.setRow h1 _) rfl rfl) rfl ⟨by rw [HM.out.1, HM.out.2.1, HL.out], below_setRow KB.here (by omega) _⟩
set_option maxRecDepth 100000 in
theorem specMakeChanges_any (s : Int) (a : Option Addr) (n c : Nat) (P R : Nat → Int) (D : Nat → Nat) (b : Option Addr) (m d : Nat) (S K : Nat → Int) (U : Nat → Bool) (w : World) (hs : -32768 ≤ s ∧ s ≤ 32767) (hn : n ≤ 1048576) (hP : I8 P) (hR : I8 R) (hh : HamAt w a n P R) (hD : D32 D) (hm : m ≤ 1048576) (hS : I16 S) (hK : I8 K) (hl : ChgAt w b m S K U) :
    Calls Try.prog 35 #[.agg #[.int .i16 s, .slice a n c], .agg (dc D), .slice b m d] w fun e w' => e = .returned (.tuple #[.agg (dc (mcR s n P R D m S K U)), .int .i64 (mcC s n P R D m S K U)]) ∧ Below w.heap.size w w' := by
  have HP := Lib.hid hP; have HR := Lib.hid hR; have HD := Lib.hid hD; have HS := Lib.hid hS; have HK := Lib.hid hK
  clear hP hR hD hS hK
  have KB := Kp.base w
  have KH := kp_ham hh; have KC := kp_chg hl; clear hh hl
  replace KB := KB.alloc (.cells #[.int .i16 s, .slice a n c] 33)
  replace KH := KH.alloc (.cells #[.int .i16 s, .slice a n c] 33)
  replace KC := KC.alloc (.cells #[.int .i16 s, .slice a n c] 33)
  have KF := kp_new1 w #[.int .i16 s, .slice a n c] 33 (g := w.heap.size) (by simp)
  replace KB := KB.alloc (.cells (dc D) 61)
  replace KH := KH.alloc (.cells (dc D) 61)
  replace KC := KC.alloc (.cells (dc D) 61)
  replace KF := KF.alloc (.cells (dc D) 61)
  have K1 := kp_newd (w.alloc (.cells #[.int .i16 s, .slice a n c] 33)) (D) 61 (g := w.heap.size + 1) (by simp)
  replace KB := KB.alloc (.cells (dc fun _ => 0) 61)
  replace KH := KH.alloc (.cells (dc fun _ => 0) 61)
  replace KC := KC.alloc (.cells (dc fun _ => 0) 61)
  replace KF := KF.alloc (.cells (dc fun _ => 0) 61)
  replace K1 := K1.alloc (.cells (dc fun _ => 0) 61)
  have K0 := kp_newd ((w.alloc (.cells #[.int .i16 s, .slice a n c] 33)).alloc (.cells (dc D) 61)) (fun _ => 0) 61 (g := w.heap.size + 1 + 1) (by simp)
  have HZ := Lib.hid (show (((w.alloc (.cells #[.int .i16 s, .slice a n c] 33)).alloc (.cells (dc D) 61)).alloc (.cells (dc fun _ => 0) 61)).heap.size = w.heap.size + 1 + 1 + 1 by simp)
  go_enter Try.func35, Try.ntmps35
  go_wp2_with (first | (with_reducible refine load_drum rfl _ rfl (w.heap.size + 1) rfl _ D K1.here ?_) | (with_reducible refine alloc_drum ?_ ?_ ?_; with_reducible rfl; with_reducible rfl))
  generalize (((w.alloc (.cells #[.int .i16 s, .slice a n c] 33)).alloc (.cells (dc D) 61)).alloc (.cells (dc fun _ => 0) 61)) = W at KB KH KC KF K1 K0 HZ ⊢
  clear HZ
  refine (l05Make_any w.heap.size s a n c P R D b m d S K U W hs hn HP.out HR.out KH.here KF.here HD.out hm HS.out HK.out KC.here).mono ?_
  rintro e w2 ⟨rfl, hb2⟩
  replace KB := KB.on hb2
  replace K0 := K0.on hb2
  clear hb2
  have hmz := mc_zero (s := s) (n := n) (P := P) (R := R) (D := D) (m := m) (S := S) (K := K) (U := U)
  obtain ⟨r, hr⟩ : ∃ r, mcR s n P R D m S K U = r := ⟨_, rfl⟩
  obtain ⟨y, hy⟩ : ∃ y, mcC s n P R D m S K U = y := ⟨_, rfl⟩
  obtain ⟨i, hi⟩ : ∃ i, mlI s n P R D m S K U = i := ⟨_, rfl⟩
  rw [hr, hy] at hmz
  rw [hr, hy, hi]
  have HRR := Lib.hid hr; have HYY := Lib.hid hy
  clear hr hy hi
  by_cases hy0 : y = 0
  · subst hy0
    clear hmz
    go_wp2_with (first | (with_reducible refine copy_drum rfl rfl rfl _ _ rfl r rfl rfl ?_; intro V hb3 hz3 hg3; have HG3 := Lib.hid hg3; have KB3 := KB.on hb3; have h0 := Lib.hid (K0.at hb3); clear hb3 hz3 hg3) | (with_reducible refine load_drum rfl _ rfl w2.heap.size rfl _ r HG3.out ?_) | (with_reducible refine store_drum rfl _ _ rfl (w.heap.size + 1 + 1) r rfl rfl _ _ h0.out ?_))
    refine bodyPost_ret (results_drum2 rfl _ _ (w.heap.size + 1 + 1) _ r (.int .i64 0) rfl (h0.out.setRow _) rfl) rfl ⟨by rw [HRR.out, HYY.out], below_setRow KB3.here (by omega) _⟩
  · have HZR := Lib.hid (hmz hy0)
    clear hmz
    go_wp2_with (first | (with_reducible refine copy_drum rfl rfl rfl _ _ rfl r rfl rfl ?_; intro V hb3 hz3 hg3; have KB3 := KB.on hb3; have h0 := Lib.hid (K0.at hb3); clear hb3 hz3 hg3) | (with_reducible refine build_drum rfl rfl ?_) | (with_reducible refine store_drum rfl _ _ rfl (w.heap.size + 1 + 1) (fun _ => 0) rfl rfl _ _ h0.out ?_))
    refine bodyPost_ret (results_drum2 rfl _ _ (w.heap.size + 1 + 1) _ (fun _ => 0) (.int .i64 y) rfl (h0.out.setRow _) rfl) rfl ⟨by rw [HRR.out, HYY.out, HZR.out], below_setRow KB3.here (by omega) _⟩
set_option maxRecDepth 100000 in
theorem specFirstBadChange_any (s : Int) (a : Option Addr) (n c : Nat) (P R : Nat → Int) (D : Nat → Nat) (b : Option Addr) (m d : Nat) (S K : Nat → Int) (U : Nat → Bool) (w : World) (hs : -32768 ≤ s ∧ s ≤ 32767) (hn : n ≤ 1048576) (hP : I8 P) (hR : I8 R) (hh : HamAt w a n P R) (hD : D32 D) (hm : m ≤ 1048576) (hS : I16 S) (hK : I8 K) (hl : ChgAt w b m S K U) :
    Calls Try.prog 41 #[.agg #[.int .i16 s, .slice a n c], .agg (dc D), .slice b m d] w fun e w' => e = .returned (.tuple #[.int .i64 (fbV s n P R D m S K U), .int .i64 (fbC s n P R D m S K U)]) ∧ Below w.heap.size w w' := by
  have HP := Lib.hid hP; have HR := Lib.hid hR; have HD := Lib.hid hD; have HS := Lib.hid hS; have HK := Lib.hid hK
  clear hP hR hD hS hK
  have KB := Kp.base w
  have KH := kp_ham hh; have KC := kp_chg hl; clear hh hl
  replace KB := KB.alloc (.cells #[.int .i16 s, .slice a n c] 33)
  replace KH := KH.alloc (.cells #[.int .i16 s, .slice a n c] 33)
  replace KC := KC.alloc (.cells #[.int .i16 s, .slice a n c] 33)
  have KF := kp_new1 w #[.int .i16 s, .slice a n c] 33 (g := w.heap.size) (by simp)
  replace KB := KB.alloc (.cells (dc D) 61)
  replace KH := KH.alloc (.cells (dc D) 61)
  replace KC := KC.alloc (.cells (dc D) 61)
  replace KF := KF.alloc (.cells (dc D) 61)
  have K1 := kp_newd (w.alloc (.cells #[.int .i16 s, .slice a n c] 33)) (D) 61 (g := w.heap.size + 1) (by simp)
  have HZ := Lib.hid (show ((w.alloc (.cells #[.int .i16 s, .slice a n c] 33)).alloc (.cells (dc D) 61)).heap.size = w.heap.size + 1 + 1 by simp)
  go_enter Try.func41, Try.ntmps41
  go_wp2_with fail
  generalize ((w.alloc (.cells #[.int .i16 s, .slice a n c] 33)).alloc (.cells (dc D) 61)) = W at KB KH KC KF K1 HZ ⊢
  clear HZ
  refine (l02Asked_any w.heap.size (w.heap.size + 1) _ s a n c P R D W hs hn HP.out HR.out KH.here KF.here K1.here).mono ?_
  rintro e w1 ⟨rfl, hb1⟩
  replace KB := KB.on hb1
  replace KH := KH.on hb1
  replace KC := KC.on hb1
  replace KF := KF.on hb1
  replace K1 := K1.on hb1
  clear hb1
  cases hok : okAll s n P R 1 (fun _ => D)
  · have HM := Lib.hid (mc_no (S := S) (K := K) (U := U) (m := m) (x := 1) (by rw [hok, chc_false]) (by simp))
    clear hok
    rw [unl_false]
    go_wp2
    go_ret2
    exact ⟨by rw [HM.out.2.2.1, HM.out.2.2.2]; rfl, KB.here⟩
  · rw [unl_true]
    by_cases h24 : m ≤ 2400
    · have hch : chc (okAll s n P R 1 (fun _ => D)) m = 0 := by rw [hok, chc_few h24]
      have hfy := fb_yes (S := S) (K := K) (U := U) hch
      have hfn := fb_no (S := S) (K := K) (U := U) hch
      clear hch hok
      go_wp2_with (with_reducible refine load_drum rfl _ rfl (w.heap.size + 1) rfl _ D K1.here ?_)
      refine (l05Make_any w.heap.size s a n c P R D b m d S K U w1 hs hn HP.out HR.out KH.here KF.here HD.out hm HS.out HK.out KC.here).mono ?_
      rintro e w2 ⟨rfl, hb2⟩
      replace KB := KB.on hb2
      clear hb2
      obtain ⟨y, hy⟩ : ∃ y, mcC s n P R D m S K U = y := ⟨_, rfl⟩
      obtain ⟨i, hi⟩ : ∃ i, mlI s n P R D m S K U = i := ⟨_, rfl⟩
      rw [hy] at hfy hfn
      rw [hi] at hfn
      rw [hy, hi]
      clear hy hi
      by_cases hy0 : y = 0
      · have HF := Lib.hid (hfy hy0)
        subst hy0
        clear hfy hfn
        go_wp2_with (with_reducible refine copy_drum rfl rfl rfl _ _ rfl _ rfl rfl ?_; intro V hb3 hz3 hg3; have KB3 := KB.on hb3; clear hb3 hz3 hg3)
        go_ret2
        exact ⟨by rw [HF.out.1, HF.out.2]; rfl, KB3.here⟩
      · have HF := Lib.hid (hfn hy0)
        clear hfy hfn
        go_wp2_with (with_reducible refine copy_drum rfl rfl rfl _ _ rfl _ rfl rfl ?_; intro V hb3 hz3 hg3; have KB3 := KB.on hb3; clear hb3 hz3 hg3)
        go_ret2
        exact ⟨by rw [HF.out.1, HF.out.2.2]; rfl, KB3.here⟩
    · have hch : chc (okAll s n P R 1 (fun _ => D)) m = 3 := by rw [hok, chc_many h24]
      have HM := Lib.hid (mc_no (S := S) (K := K) (U := U) hch (by simp))
      clear hch hok
      go_wp2
      go_ret2
      exact ⟨by rw [HM.out.2.2.1, HM.out.2.2.2]; rfl, KB.here⟩
end Go.Proofs.Ytancboodcnomiaa
