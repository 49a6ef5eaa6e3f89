/- TracksOf and CheckPinning, by the reference and by the program. No conditions. -/
import Derived.Test.YteffaghcjpeblaaTq
import Derived.Test.YteffaghcjpeblaaLc
import Derived.Outline
namespace Go.Proofs.Yteffaghcjpeblaa
open Go.RowKit
set_option linter.unusedVariables false
set_option linter.unusedSimpArgs false

/-- what is asked of a frame, a tune and a drum -/
def tqC (s : Int) (n : Nat) (P R : Nat → Int) (l : Nat) (A B : Nat → Int) (D : Nat → Nat) : Int := whC (okAll s n P R 1 (fun _ => D)) (vTune l A B) s (tLen l A)
/-- TracksOf -/
def tvV (s : Int) (n : Nat) (P R : Nat → Int) (l : Nat) (A B : Nat → Int) (D : Nat → Nat) : List Int := if tqC s n P R l A B D = 0 then (if tkB s.toNat n P R D l A B = true then toL P n D A B l else []) else []
def tvC (s : Int) (n : Nat) (P R : Nat → Int) (l : Nat) (A B : Nat → Int) (D : Nat → Nat) : Int := if tqC s n P R l A B D = 0 then (if tkB s.toNat n P R D l A B = true then 0 else 8) else tqC s n P R l A B D
/-- CheckPinning -/
def cpB (s : Int) (n : Nat) (P R : Nat → Int) (l : Nat) (A B : Nat → Int) (D : Nat → Nat) : Bool := decide (tqC s n P R l A B D = 0) && tkB s.toNat n P R D l A B
section
variable {s : Int} {n : Nat} {P R : Nat → Int} {l : Nat} {A B : Nat → Int} {D : Nat → Nat} {z : Int}
theorem tq_no (h : tqC s n P R l A B D = z) (hz : ¬ z = 0) : tvV s n P R l A B D = [] ∧ tvC s n P R l A B D = z ∧ cpB s n P R l A B D = false := by
  subst h
  exact ⟨if_neg hz, if_neg hz, by unfold cpB; rw [decide_eq_false hz]; rfl⟩
theorem tq_yes (h : tqC s n P R l A B D = 0) (h2 : tkB s.toNat n P R D l A B = true) : tvV s n P R l A B D = toL P n D A B l ∧ tvC s n P R l A B D = 0 ∧ cpB s n P R l A B D = true := by
  unfold tvV tvC cpB
  rw [if_pos h, if_pos h, if_pos h2, if_pos h2, decide_eq_true h, h2]
  exact ⟨rfl, rfl, rfl⟩
theorem tq_bad (h : tqC s n P R l A B D = 0) (h2 : tkB s.toNat n P R D l A B = false) : tvV s n P R l A B D = [] ∧ tvC s n P R l A B D = 8 ∧ cpB s n P R l A B D = false := by
  have h3 : ¬ tkB s.toNat n P R D l A B = true := by rw [h2]; simp
  unfold tvV tvC cpB
  rw [if_pos h, if_pos h, if_neg h3, if_neg h3, h2, Bool.and_false]
  exact ⟨rfl, rfl, rfl⟩
theorem tvV_len : (tvV s n P R l A B D).length ≤ 1000000 := by
  unfold tvV
  split
  · rename_i h
    have hv := (whC_ok h).2
    have h120 := (vTune_facts hv).1
    split
    · rename_i h2
      rw [toL_len_one (tkB_iff.1 h2).2.1]; omega
    · simp
  · simp
theorem tq_facts (h : tqC s n P R l A B D = 0) : (2 ≤ s ∧ s ≤ 96) ∧ (1 ≤ n ∧ n ≤ 24) ∧ vDrum s n D = true ∧ vTune l A B = true ∧ ∀ i, i < l → A i < s := by
  obtain ⟨h1, h2⟩ := whC_ok h
  unfold tqC at h
  rw [h1, h2] at h
  rw [okOne', Bool.and_eq_true] at h1
  have hlen : tLen l A ≤ s := by
    apply Classical.byContradiction
    intro hx
    rw [whC_long hx] at h
    exact absurd h (by decide)
  refine ⟨(vFrame_iff.1 h1.1).1, (vFrame_iff.1 h1.1).2.1, h1.2, h2, fun i hi => ?_⟩
  rw [tLen_pos A (by omega)] at hlen
  by_cases e : i = l - 1
  · subst e; omega
  · have hs := List.pairwise_iff_getElem.1 (StrN_of_tune h2) i (l - 1) (by simpa using hi) (by simp; omega) (by omega)
    simp only [List.getElem_map, List.getElem_range] at hs
    have := bfN_iff.1 hs
    simp only at this
    omega
end
theorem tqC_def (s : Int) (n : Nat) (P R : Nat → Int) (l : Nat) (A B : Nat → Int) (D : Nat → Nat) : whC (okAll s n P R 1 (fun _ => D)) (vTune l A B) s (tLen l A) = tqC s n P R l A B D := rfl
attribute [irreducible] tqC tvV tvC cpB
theorem drumsOne' {w : World} {T g : Nat} {E : Nat → Nat} (h : DrumAt w T g E) : DrumsAt w (some ⟨g, 0, none⟩) 1 (fun _ => E) := fun _ =>
  ⟨g, 0, rfl, DrumAt.lt h, fun i hi => by obtain rfl : i = 0 := by omega
                                          exact DrumAt.cells h⟩
set_option maxRecDepth 100000 in
set_option maxHeartbeats 2000000 in
theorem specCheckPinning_any (s : Int) (a : Option Addr) (n c : Nat) (P R : Nat → Int) (q : Option Addr) (l e0 : Nat) (A B : Nat → Int) (D : Nat → Nat) (w : World) (hs : -32768 ≤ s ∧ s ≤ 32767) (hn : n ≤ 1048576) (hP : I8 P) (hR : I8 R) (hh : HamAt w a n P R) (hl : l ≤ 1048576) (hA : I16 A) (hB : I8 B) (ht : NoteAt w q l A B) (hD : D32 D) :
    Calls Try.prog 15 #[.agg #[.int .i16 s, .slice a n c], .slice q l e0, .agg (dc D)] w fun e w' => e = .returned (.tuple #[.bool (cpB s n P R l A B D), .int .i64 (tqC s n P R l A B D)]) ∧ Below w.heap.size w w' := by
  have HP := Lib.hid hP; have HR := Lib.hid hR; have HA := Lib.hid hA; have HB := Lib.hid hB; have HD := Lib.hid hD
  clear hP hR hA hB hD
  have KB := Kp.base w
  have KH := kp_ham hh; have KT := kp_note ht; clear hh ht
  replace KB := KB.alloc (.cells #[.int .i16 s, .slice a n c] 27)
  replace KH := KH.alloc (.cells #[.int .i16 s, .slice a n c] 27)
  replace KT := KT.alloc (.cells #[.int .i16 s, .slice a n c] 27)
  have KF := kp_new1 w #[.int .i16 s, .slice a n c] 27 (g := w.heap.size) (by simp)
  replace KB := KB.alloc (.cells (dc D) 47)
  replace KH := KH.alloc (.cells (dc D) 47)
  replace KT := KT.alloc (.cells (dc D) 47)
  replace KF := KF.alloc (.cells (dc D) 47)
  have KD := kp_newd (w.alloc (.cells #[.int .i16 s, .slice a n c] 27)) (D) 47 (g := w.heap.size + 1) (by simp)
  have HZ := Lib.hid (show ((w.alloc (.cells #[.int .i16 s, .slice a n c] 27)).alloc (.cells (dc D) 47)).heap.size = w.heap.size + 1 + 1 by simp)
  go_enter Try.func15, Try.ntmps15
  go_wp2_with fail
  generalize ((w.alloc (.cells #[.int .i16 s, .slice a n c] 27)).alloc (.cells (dc D) 47)) = W at KB KH KT KF KD HZ ⊢
  clear HZ
  refine (l03Whole_any w.heap.size (w.heap.size + 1) 47 s a n c P R q l e0 A B D W hs hn HP.out HR.out KH.here hl HA.out HB.out KT.here KF.here KD.here).mono ?_
  rw [tqC_def]
  rintro e w1 ⟨rfl, hb1⟩
  replace KB := KB.on hb1
  replace KH := KH.on hb1
  replace KT := KT.on hb1
  replace KF := KF.on hb1
  replace KD := KD.on hb1
  clear hb1
  have hsz := KB.here.size
  obtain ⟨z, hz⟩ : ∃ y, tqC s n P R l A B D = y := ⟨_, rfl⟩
  rw [hz]
  by_cases h0 : z = 0
  · subst h0
    have HZ0 := Lib.hid hz; clear hz
    have hz := HZ0.out
    obtain ⟨hs2, hn2, hdv, hvt, hAs⟩ := tq_facts hz
    obtain ⟨m, rfl⟩ : ∃ m : Nat, s = m := ⟨s.toNat, by omega⟩
    have hpl := l03Played_any w.heap.size (w.heap.size + 1) 27 47 m a n c P R D q l e0 A B w1 (by omega) hn2 HD.out HP.out HR.out hvt hAs KF.here KD.here KH.here KT.here
    have hty := fun h => tq_yes (s := (m : Int)) (n := n) (P := P) (R := R) (l := l) (A := A) (B := B) (D := D) hz (by rw [Int.toNat_natCast]; exact h)
    have htn := fun h => tq_bad (s := (m : Int)) (n := n) (P := P) (R := R) (l := l) (A := A) (B := B) (D := D) hz (by rw [Int.toNat_natCast]; exact h)
    obtain ⟨tk, htk⟩ : ∃ y, tkB m n P R D l A B = y := ⟨_, rfl⟩
    rw [htk] at hpl hty htn
    have HPL := Lib.hid hpl; have HTY := Lib.hid hty; have HTN := Lib.hid htn
    clear hpl hty htn htk hdv hvt hAs hz
    have HR0 := Lib.hid (show cpB (m : Int) n P R l A B D = tk by cases tk; exact (HTN.out rfl).2.2; exact (HTY.out rfl).2.2)
    go_wp2_with (go_at_call 36; refine HPL.out.mono ?_; rintro e w2 ⟨v2, rfl, hb2, _⟩; have HB2 := Lib.hid (KB.at hb2); clear hb2)
    refine bodyPost_ret (v := .tuple #[.bool tk, .int .i64 0]) (by simp [results, Try.results15, go_sem]) rfl ⟨by rw [HR0.out, HZ0.out], HB2.out⟩
  · have hno := Lib.hid (tq_no hz h0)
    have hbe := KB.here
    go_wp2
    refine bodyPost_ret (v := .tuple #[.bool false, .int .i64 z]) (by simp [results, Try.results15, go_sem]) rfl ⟨by rw [hno.out.2.2, hz], hbe⟩
set_option maxRecDepth 100000 in
set_option maxHeartbeats 2000000 in
theorem implCheckPinning_any (s : Int) (a : Option Addr) (n c : Nat) (P R : Nat → Int) (q : Option Addr) (l e0 : Nat) (A B : Nat → Int) (D : Nat → Nat) (w : World) (hs : -32768 ≤ s ∧ s ≤ 32767) (hn : n ≤ 1048576) (hP : I8 P) (hR : I8 R) (hh : HamAt w a n P R) (hl : l ≤ 1048576) (hA : I16 A) (hB : I8 B) (ht : NoteAt w q l A B) (hD : D32 D) :
    Calls Try.prog 18 #[.agg #[.int .i16 s, .slice a n c], .slice q l e0, .agg (dc D)] w fun e w' => e = .returned (.tuple #[.bool (cpB s n P R l A B D), .int .i64 (tqC s n P R l A B D)]) ∧ Below w.heap.size w w' := by
  have HP := Lib.hid hP; have HR := Lib.hid hR; have HA := Lib.hid hA; have HB := Lib.hid hB; have HD := Lib.hid hD
  clear hP hR hA hB hD
  have KB := Kp.base w
  have KH := kp_ham hh; have KT := kp_note ht; clear hh ht
  replace KB := KB.alloc (.cells #[.int .i16 s, .slice a n c] 27)
  replace KH := KH.alloc (.cells #[.int .i16 s, .slice a n c] 27)
  replace KT := KT.alloc (.cells #[.int .i16 s, .slice a n c] 27)
  have KF := kp_new1 w #[.int .i16 s, .slice a n c] 27 (g := w.heap.size) (by simp)
  replace KB := KB.alloc (.cells (dc D) 47)
  replace KH := KH.alloc (.cells (dc D) 47)
  replace KT := KT.alloc (.cells (dc D) 47)
  replace KF := KF.alloc (.cells (dc D) 47)
  have KD := kp_newd (w.alloc (.cells #[.int .i16 s, .slice a n c] 27)) (D) 47 (g := w.heap.size + 1) (by simp)
  have HZ := Lib.hid (show ((w.alloc (.cells #[.int .i16 s, .slice a n c] 27)).alloc (.cells (dc D) 47)).heap.size = w.heap.size + 1 + 1 by simp)
  go_enter Try.func18, Try.ntmps18
  go_wp2_with (first | (with_reducible refine load_iframe rfl _ rfl w.heap.size rfl _ s a n c KF.here ?_) | (with_reducible refine load_drum rfl _ rfl (w.heap.size + 1) rfl _ D KD.here ?_) | (with_reducible refine build1 rfl _ rfl D rfl ?_))
  generalize ((w.alloc (.cells #[.int .i16 s, .slice a n c] 27)).alloc (.cells (dc D) 47)) = W at KB KH KT KF KD HZ ⊢
  have hdl := DrumAt.new W 47 D
  have hdl2 := hdl
  rw [HZ.out] at hdl2
  clear HZ
  replace KB := KB.alloc (.cells (dc D) 47)
  replace KH := KH.alloc (.cells (dc D) 47)
  replace KT := KT.alloc (.cells (dc D) 47)
  replace KF := KF.alloc (.cells (dc D) 47)
  replace KD := KD.alloc (.cells (dc D) 47)
  refine (tuneOnCode_any s a n c P R q l e0 A B 0 _ 1 1 (fun _ => D) _ hs hn HP.out HR.out KH.here hl HA.out HB.out KT.here (by omega) (by omega) (by first | exact drumsOne' hdl | exact drumsOne' hdl2)).mono ?_
  rw [whC_to, tqC_def]
  rintro e w1 ⟨rfl, hb1⟩
  replace KB := KB.on hb1
  replace KH := KH.on hb1
  replace KT := KT.on hb1
  replace KF := KF.on hb1
  replace KD := KD.on hb1
  clear hb1 hdl hdl2
  have hsz := KB.here.size
  obtain ⟨z, hz⟩ : ∃ y, tqC s n P R l A B D = y := ⟨_, rfl⟩
  rw [hz]
  by_cases h0 : z = 0
  · subst h0
    have HZ0 := Lib.hid hz; clear hz
    have hz := HZ0.out
    obtain ⟨hs2, hn2, hdv, hvt, hAs⟩ := tq_facts hz
    obtain ⟨m, rfl⟩ : ∃ m : Nat, s = m := ⟨s.toNat, by omega⟩
    have hpl := tracksOf_any m a n c P R D q l e0 A B w1 (by omega) hn2 HD.out hdv HP.out HR.out hvt hAs HA.out HB.out KH.here KT.here
    have hty := fun h => tq_yes (s := (m : Int)) (n := n) (P := P) (R := R) (l := l) (A := A) (B := B) (D := D) hz (by rw [Int.toNat_natCast]; exact h)
    have htn := fun h => tq_bad (s := (m : Int)) (n := n) (P := P) (R := R) (l := l) (A := A) (B := B) (D := D) hz (by rw [Int.toNat_natCast]; exact h)
    obtain ⟨tk, htk⟩ : ∃ y, tkB m n P R D l A B = y := ⟨_, rfl⟩
    rw [htk] at hpl hty htn
    have HPL := Lib.hid hpl; have HTY := Lib.hid hty; have HTN := Lib.hid htn
    clear hpl hty htn htk hdv hvt hAs hz
    have HR0 := Lib.hid (show cpB (m : Int) n P R l A B D = tk by cases tk; exact (HTN.out rfl).2.2; exact (HTY.out rfl).2.2)
    go_wp2_with (first | (with_reducible refine load_iframe rfl _ rfl w.heap.size rfl _ (m : Int) a n c KF.here ?_) | (with_reducible refine load_drum rfl _ rfl (w.heap.size + 1) rfl _ D KD.here ?_) | (go_at_call 39; refine HPL.out.mono ?_; rintro e w2 ⟨v2, rfl, hb2, _⟩; have HB2 := Lib.hid (KB.at hb2); clear hb2))
    refine bodyPost_ret (v := .tuple #[.bool tk, .int .i64 0]) (by simp [results, Try.results18, go_sem]) rfl ⟨by rw [HR0.out, HZ0.out], HB2.out⟩
  · have hno := Lib.hid (tq_no hz h0)
    have hbe := KB.here
    go_wp2
    refine bodyPost_ret (v := .tuple #[.bool false, .int .i64 z]) (by simp [results, Try.results18, go_sem]) rfl ⟨by rw [hno.out.2.2, hz], hbe⟩
end Go.Proofs.Yteffaghcjpeblaa
