/- Tunes: codes of tunes, of a frame and a tune. No conditions. -/
import Derived.Test.YteffaghcjpeblaaTv
import Derived.Test.YteffaghcjpeblaaLc
import Derived.Outline
namespace Go.Proofs.Yteffaghcjpeblaa
open Go.RowKit
set_option linter.unusedVariables false
set_option linter.unusedSimpArgs false

set_option maxRecDepth 100000 in
theorem length_any (q : Option Addr) (l c : Nat) (A P : Nat → Int) (w : World) (hl : l ≤ 1000000000) (hA : I16 A) (hh : NoteAt w q l A P) :
    Calls Try.prog 28 #[.slice q l c] w fun e w' => e = .returned (.int .i64 (tLen l A)) ∧ w = w' := by
  by_cases h : l = 0
  · subst h
    have HT := Lib.hid (tLen_zero A)
    go_enter Try.func28, Try.ntmps28
    go_wp2
    go_ret
    exact ⟨ret_int HT.out.symm, rfl⟩
  · obtain ⟨p, rfl⟩ : ∃ p, l = p + 1 := ⟨l - 1, by omega⟩
    have HT := Lib.hid (tLen_pos A (show 0 < p + 1 by omega))
    rw [Nat.add_sub_cancel] at HT
    have hx := NoteAt.get hh (show 0 < p + 1 by omega)
    obtain ⟨g, off, rfl, hg, hc⟩ := hx
    have c0 := (hc p (by omega)).1
    have c1 := (hc p (by omega)).2
    clear hc hh
    have hAp := hA p
    have q1 := i64_id (x := (p : Int)) (by omega)
    have q2 := i64_id (x := A p + 1) (by omega)
    have q3 := i64_id (x := A p) (by omega)
    have q4 : ¬ ((p : Int) + 1 = 0) := by omega
    go_enter Try.func28, Try.ntmps28
    go_wp2
    go_ret
    exact ⟨ret_int HT.out.symm, rfl⟩
set_option maxRecDepth 100000 in
theorem l01Length_any (q : Option Addr) (l c : Nat) (A P : Nat → Int) (w : World) (hl : l ≤ 1000000000) (hA : I16 A) (hh : NoteAt w q l A P) :
    Calls Try.prog 21 #[.slice q l c] w fun e w' => e = .returned (.int .i64 (tLen l A)) ∧ w = w' := by
  by_cases h : l = 0
  · subst h
    have HT := Lib.hid (tLen_zero A)
    go_enter Try.func21, Try.ntmps21
    go_wp2
    go_ret
    exact ⟨ret_int HT.out.symm, rfl⟩
  · obtain ⟨p, rfl⟩ : ∃ p, l = p + 1 := ⟨l - 1, by omega⟩
    have HT := Lib.hid (tLen_pos A (show 0 < p + 1 by omega))
    rw [Nat.add_sub_cancel] at HT
    have hx := NoteAt.get hh (show 0 < p + 1 by omega)
    obtain ⟨g, off, rfl, hg, hc⟩ := hx
    have c0 := (hc p (by omega)).1
    have c1 := (hc p (by omega)).2
    clear hc hh
    have hAp := hA p
    have q1 := i64_id (x := (p : Int)) (by omega)
    have q2 := i64_id (x := A p + 1) (by omega)
    have q3 := i64_id (x := A p) (by omega)
    have q4 : ¬ ((p : Int) + 1 = 0) := by omega
    go_enter Try.func21, Try.ntmps21
    go_wp2
    go_ret
    exact ⟨ret_int HT.out.symm, rfl⟩
/-- tunes that lie side by side -/
def TuneSAt (w : World) (b : Option Addr) (m : Nat) (a : Nat → Option Addr) (n c : Nat → Nat) (A P : Nat → Nat → Int) : Prop :=
  0 < m → ∃ g off, b = some ⟨g, off, none⟩ ∧ g < w.heap.size ∧ ∀ i, i < m → w.cell? ⟨g, off + i, none⟩ = some (.slice (a i) (n i) (c i)) ∧ NoteAt w (a i) (n i) (A i) (P i)
theorem TuneSAt.get {w : World} {b : Option Addr} {m : Nat} {a : Nat → Option Addr} {n c : Nat → Nat} {A P : Nat → Nat → Int} (h : TuneSAt w b m a n c A P) (hm : 0 < m) :
    ∃ g off, b = some ⟨g, off, none⟩ ∧ g < w.heap.size ∧ ∀ i, i < m → w.cell? ⟨g, off + i, none⟩ = some (.slice (a i) (n i) (c i)) ∧ NoteAt w (a i) (n i) (A i) (P i) := h hm
theorem TuneSAt.below {w w' : World} {b : Option Addr} {m : Nat} {a : Nat → Option Addr} {n c : Nat → Nat} {A P : Nat → Nat → Int} (h : TuneSAt w b m a n c A P) (hb : Below w.heap.size w w') : TuneSAt w' b m a n c A P := by
  intro hm
  obtain ⟨g, off, rfl, hg, hc⟩ := h hm
  refine ⟨g, off, rfl, Nat.lt_of_lt_of_le hg hb.size, fun i hi => ⟨?_, (hc i hi).2.below hb⟩⟩
  rw [hb.cell (p := ⟨g, off + i, none⟩) hg]
  exact (hc i hi).1
theorem kp_tunes {w : World} {b : Option Addr} {m : Nat} {a : Nat → Option Addr} {n c : Nat → Nat} {A P : Nat → Nat → Int} (h : TuneSAt w b m a n c A P) : Kp w (fun V => TuneSAt V b m a n c A P) := Kp.mk fun _ hb => h.below hb
/-- all tunes are valid -/
def tAll (m : Nat) (n : Nat → Nat) (A P : Nat → Nat → Int) : Bool := !anyB (fun i => !vTune (n i) (A i) (P i)) m
theorem tAll_iff {m : Nat} {n : Nat → Nat} {A P : Nat → Nat → Int} : tAll m n A P = true ↔ ∀ i, i < m → vTune (n i) (A i) (P i) = true := by
  unfold tAll
  constructor
  · intro h i hi
    cases hv : vTune (n i) (A i) (P i)
    · rw [anyB_iff.2 ⟨i, hi, by simp only [hv]; rfl⟩] at h; cases h
    · rfl
  · intro h
    rw [anyB_false fun i hi => by simp only [h i hi]; rfl]; rfl
theorem tAll_not (m : Nat) (n : Nat → Nat) (A P : Nat → Nat → Int) : anyB (fun i => !vTune (n i) (A i) (P i)) m = !tAll m n A P := by unfold tAll; rw [Bool.not_not]
theorem tAll_one (n : Nat) (A P : Nat → Int) : tAll 1 (fun _ => n) (fun _ => A) (fun _ => P) = vTune n A P := by
  rw [Bool.eq_iff_iff, tAll_iff]
  exact ⟨fun h => h 0 (by omega), fun h i _ => h⟩
attribute [irreducible] tAll
theorem tuneCode1_any (q : Option Addr) (l c : Nat) (A P : Nat → Int) (w : World) (hl : l ≤ 1000000000) (hA : I16 A) (hP : I8 P) (hh : NoteAt w q l A P) :
    Calls Try.prog 45 #[.slice q l c] w fun e w' => e = .returned (.bool (!vTune l A P)) ∧ Below w.heap.size w w' := by
  go_enter Try.func45, Try.ntmps45
  go_wp2_with (go_at_call 46; refine (validTune_any q l c A P _ hl hA hP hh).mono ?_; rintro e w' ⟨rfl, hb⟩)
  go_ret
  exact ⟨rfl, hb⟩
set_option maxRecDepth 100000 in
theorem indexFuncTune (b : Option Addr) (m d : Nat) (a : Nat → Option Addr) (n c : Nat → Nat) (A P : Nat → Nat → Int) (w : World) (hm : m ≤ 1000000000) (hn : ∀ i, i < m → n i ≤ 1000000000) (hA : ∀ i, I16 (A i)) (hP : ∀ i, I8 (P i)) (hh : TuneSAt w b m a n c A P) :
    Calls Try.prog 68 #[.slice b m d, .func (.func 45) #[] #[]] w fun e w' => ∃ r, e = .returned (.int .i64 r) ∧ IdxOf (fun i => !vTune (n i) (A i) (P i)) m r ∧ Below w.heap.size w w' := by
  have HA := Lib.hid hA; have HP := Lib.hid hP; have HN := Lib.hid hn; clear hA hP hn
  have KH := kp_tunes hh; clear hh
  go_enter Try.func68, Try.ntmps68
  go_wp2
  go_loopw [8] (fun i w' => Below w.heap.size w w' ∧ ∃ k : Nat, k ≤ m ∧ i = .int .i64 k ∧ ∀ j : Nat, j < k → (!vTune (n j) (A j) (P j)) = false) (fun i _ => m - (intOf i).toNat)
  case atStart => exact ⟨Below.refl _ _, 0, by omega, rfl, fun j hj => by omega⟩
  case round =>
    obtain ⟨hb, k, hk, rfl, hK⟩ := hrel
    have HK := Lib.hid hK; clear hK
    replace KH := KH.on hb
    by_cases hlt : k < m
    · have hx := TuneSAt.get KH.here (show 0 < m by omega)
      obtain ⟨g, off, rfl, hg, hc⟩ := hx
      have c0 := (hc k hlt).1
      have HNT := Lib.hid (hc k hlt).2
      clear hc
      have hk' : (k : Int) < m := by omega
      cases hp : (!vTune (n k) (A k) (P k))
      · have HPP := Lib.hid hp
        go_wp2_with (go_at_call 45; refine (tuneCode1_any _ _ _ _ _ _ (HN.out k hlt) (HA.out k) (HP.out k) HNT.out).mono ?_; rw [hp]; rintro e w1 ⟨rfl, hb1⟩)
        go_roundw
        case rel => exact ⟨hb.trans (hb1.mono hb.size), k + 1, by omega, by go_num, fun j hj => if e : j = k then e ▸ HPP.out else HK.out j (by omega)⟩
        case measure => simp [intOf]; omega
      · have HPP := Lib.hid hp
        go_wp2_with (go_at_call 45; refine (tuneCode1_any _ _ _ _ _ _ (HN.out k hlt) (HA.out k) (HP.out k) HNT.out).mono ?_; rw [hp]; rintro e w1 ⟨rfl, hb1⟩)
        go_ret
        exact ⟨_, rfl, .inr ⟨k, rfl, hlt, HPP.out, HK.out⟩, hb.trans (hb1.mono hb.size)⟩
    · go_wp2
      go_ret
      exact ⟨_, rfl, .inl ⟨rfl, fun j hj => HK.out j (by omega)⟩, hb⟩
theorem containsFuncTune (b : Option Addr) (m d : Nat) (a : Nat → Option Addr) (n c : Nat → Nat) (A P : Nat → Nat → Int) (w : World) (hm : m ≤ 1000000000) (hn : ∀ i, i < m → n i ≤ 1000000000) (hA : ∀ i, I16 (A i)) (hP : ∀ i, I8 (P i)) (hh : TuneSAt w b m a n c A P) :
    Calls Try.prog 44 #[.slice b m d, .func (.func 45) #[] #[]] w fun e w' => e = .returned (.bool (!tAll m n A P)) ∧ Below w.heap.size w w' := by
  have HH := Lib.hid hh; have HA := Lib.hid hA; have HP := Lib.hid hP; have HN := Lib.hid hn; clear hh hA hP hn
  go_enter Try.func44, Try.ntmps44
  go_wp2_with (go_at_call 68; refine (indexFuncTune b m d a n c A P _ hm HN.out HA.out HP.out HH.out).mono ?_; rintro e w1 ⟨r, rfl, hr, hb⟩)
  go_ret
  exact ⟨ret_bool (by rw [hr.any, tAll_not]), hb⟩
theorem tuneCode_any (b : Option Addr) (m d : Nat) (a : Nat → Option Addr) (n c : Nat → Nat) (A P : Nat → Nat → Int) (w : World) (hm : m ≤ 1000000000) (hn : ∀ i, i < m → n i ≤ 1000000000) (hA : ∀ i, I16 (A i)) (hP : ∀ i, I8 (P i)) (hh : TuneSAt w b m a n c A P) :
    Calls Try.prog 25 #[.slice b m d] w fun e w' => e = .returned (.int .i64 (unl (tAll m n A P) 1)) ∧ Below w.heap.size w w' := by
  have HH := Lib.hid hh; have HA := Lib.hid hA; have HP := Lib.hid hP; have HN := Lib.hid hn; clear hh hA hP hn
  go_enter Try.func25, Try.ntmps25
  go_wp2_with (first | (go_at_call 44; refine (containsFuncTune b m d a n c A P _ hm HN.out HA.out HP.out HH.out).mono ?_; rintro e w1 ⟨rfl, hb⟩) | (go_at_call 26; refine (unless_any _ _ _).mono ?_; rintro e w2 ⟨rfl, rfl⟩))
  go_ret
  exact ⟨rfl, hb⟩
/-- the code of a frame, drums, a tune and a budget -/
def toC (ok v : Bool) (s len budget : Int) : Int := if ok && v then unl (decide (len ≤ s) && inB budget 0 20000) 2 else 1
theorem toC_no {ok v : Bool} {s len budget : Int} (h : (ok && v) = false) : toC ok v s len budget = 1 := by unfold toC; rw [h]; rfl
theorem toC_yes {s len budget : Int} : toC true true s len budget = unl (decide (len ≤ s) && inB budget 0 20000) 2 := rfl
theorem toC_zero {ok v : Bool} {s len budget : Int} (h : toC ok v s len budget = 0) : ok = true ∧ v = true ∧ len ≤ s ∧ 0 ≤ budget ∧ budget ≤ 20000 := by
  cases ok
  · rw [toC_no rfl] at h; exact absurd h (by decide)
  · cases v
    · rw [toC_no rfl] at h; exact absurd h (by decide)
    · rw [toC_yes] at h
      by_cases h1 : len ≤ s
      · rw [decide_eq_true h1, Bool.true_and] at h
        cases h2 : inB budget 0 20000
        · rw [h2, unl_false] at h; exact absurd h (by decide)
        · exact ⟨rfl, rfl, h1, inB_iff.1 h2⟩
      · rw [decide_eq_false h1, Bool.false_and, unl_false] at h; exact absurd h (by decide)
theorem firstL_to (ok v : Bool) : firstL [unl ok 1, unl v 1] = unl (ok && v) 1 := by
  cases ok
  · rw [firstL_at _ (by rw [unl_false]; simp)]; rfl
  · rw [firstL_zero _ (unl_true 1)]
    cases v
    · rw [firstL_at _ (by rw [unl_false]; simp)]; rfl
    · rw [firstL_zero _ (unl_true 1), firstL_nil, Bool.and_self, unl_true]
attribute [irreducible] toC
theorem TuneSAt.one (w : World) (q : Option Addr) (l c : Nat) (A P : Nat → Int) (h : NoteAt w q l A P) : TuneSAt (w.alloc (.cells #[.slice q l c] 31)) (some ⟨w.heap.size, 0, none⟩) 1 (fun _ => q) (fun _ => l) (fun _ => c) (fun _ => A) (fun _ => P) := fun _ =>
  ⟨w.heap.size, 0, rfl, by simp, fun i hi => by
    obtain rfl : i = 0 := by omega
    exact ⟨row_cell 0 (heap_alloc_new w _), (kp_note h).alloc _ |>.here⟩⟩
set_option maxRecDepth 100000 in
set_option maxHeartbeats 1000000 in
theorem tuneOnCode_any (s : Int) (a : Option Addr) (n c : Nat) (P R : Nat → Int) (q : Option Addr) (l e0 : Nat) (A B : Nat → Int) (x : Int) (b : Option Addr) (m d : Nat) (L : Nat → Nat → Nat) (w : World) (hs : -32768 ≤ s ∧ s ≤ 32767) (hn : n ≤ 1048576) (hP : I8 P) (hR : I8 R) (hh : HamAt w a n P R) (hl : l ≤ 1048576) (hA : I16 A) (hB : I8 B) (ht : NoteAt w q l A B) (hx : -9223372036854775808 ≤ x ∧ x ≤ 9223372036854775807) (hm : m ≤ 1048576) (hL : DrumsAt w b m L) :
    Calls Try.prog 38 #[.agg #[.int .i16 s, .slice a n c], .slice q l e0, .int .i64 x, .slice b m d] w fun e w' => e = .returned (.int .i64 (toC (okAll s n P R m L) (vTune l A B) s (tLen l A) x)) ∧ Below w.heap.size w w' := by
  have HP := Lib.hid hP; have HR := Lib.hid hR; have HA := Lib.hid hA; have HB := Lib.hid hB
  clear hP hR hA hB
  have KB := Kp.base w
  have KH := kp_ham hh; have KT := kp_note ht; have KL := kp_drums hL; clear hh ht hL
  replace KB := KB.alloc (.cells #[.int .i16 s, .slice a n c] 27)
  replace KH := KH.alloc (.cells #[.int .i16 s, .slice a n c] 27)
  replace KT := KT.alloc (.cells #[.int .i16 s, .slice a n c] 27)
  replace KL := KL.alloc (.cells #[.int .i16 s, .slice a n c] 27)
  have KF := kp_new1 w #[.int .i16 s, .slice a n c] 27 (g := w.heap.size) (by simp)
  have HZ := Lib.hid (show (w.alloc (.cells #[.int .i16 s, .slice a n c] 27)).heap.size = w.heap.size + 1 by simp)
  go_enter Try.func38, Try.ntmps38
  go_wp2_with (with_reducible refine load_iframe rfl _ rfl w.heap.size rfl _ s a n c KF.here ?_)
  generalize (w.alloc (.cells #[.int .i16 s, .slice a n c] 27)) = W at KB KH KT KL KF HZ ⊢
  clear HZ
  refine (drumCode_any s a n c P R b m d L W (by omega) (by omega) hs HP.out HR.out KH.here KL.here).mono ?_
  rintro e w1 ⟨rfl, hb1⟩
  replace KB := KB.on hb1
  replace KT := KT.on hb1
  replace KF := KF.on hb1
  clear hb1
  obtain ⟨ok, hok⟩ : ∃ y, okAll s n P R m L = y := ⟨_, rfl⟩
  rw [hok]
  have HOK := Lib.hid hok; clear hok
  have hts := TuneSAt.one w1 q l e0 A B KT.here
  have HTS := Lib.hid hts; clear hts
  go_wp2_with fail
  replace KB := KB.alloc (.cells #[.slice q l e0] 31)
  replace KT := KT.alloc (.cells #[.slice q l e0] 31)
  replace KF := KF.alloc (.cells #[.slice q l e0] 31)
  refine (tuneCode_any _ 1 1 (fun _ => q) (fun _ => l) (fun _ => e0) (fun _ => A) (fun _ => B) _ (by omega) (fun _ _ => by omega) (fun _ => HA.out) (fun _ => HB.out) HTS.out).mono ?_
  rw [tAll_one]
  rintro e w2 ⟨rfl, hb2⟩
  replace KB := KB.on hb2
  replace KT := KT.on hb2
  replace KF := KF.on hb2
  clear hb2 HTS
  obtain ⟨v, hv⟩ : ∃ y, vTune l A B = y := ⟨_, rfl⟩
  rw [hv]
  have HV := Lib.hid hv; clear hv
  have hF := firstL_to ok v
  cases hov : (ok && v)
  · rw [hov, unl_false] at hF
    have HF := Lib.hid hF; clear hF
    have HT := Lib.hid (toC_no (s := s) (len := tLen l A) (budget := x) hov)
    go_wp2_with (go_at_call 24; refine (firstOf_any [unl ok 1, unl v 1] w2.heap.size 2 _ (by simp) (heap_alloc_new w2 _)).mono ?_; rintro e w3 ⟨rfl, rfl⟩; rw [HF.out])
    go_ret
    exact ⟨ret_int (by rw [HOK.out, HV.out, HT.out]), (KB.alloc _).here⟩
  · rw [hov, unl_true] at hF
    have HF := Lib.hid hF; clear hF
    rw [Bool.and_eq_true] at hov
    obtain ⟨rfl, rfl⟩ := hov
    have HT := Lib.hid (toC_yes (s := s) (len := tLen l A) (budget := x))
    go_wp2_with (go_at_call 24; refine (firstOf_any [unl true 1, unl true 1] w2.heap.size 2 _ (by simp) (heap_alloc_new w2 _)).mono ?_; rintro e w3 ⟨rfl, rfl⟩; rw [HF.out])
    replace KB := KB.alloc (.cells #[.int .i64 (unl true 1), .int .i64 (unl true 1)] 2)
    replace KT := KT.alloc (.cells #[.int .i64 (unl true 1), .int .i64 (unl true 1)] 2)
    replace KF := KF.alloc (.cells #[.int .i64 (unl true 1), .int .i64 (unl true 1)] 2)
    generalize w2.alloc (.cells #[.int .i64 (unl true 1), .int .i64 (unl true 1)] 2) = V at KB KT KF ⊢
    have c0 := row_cell 0 KF.here
    have HLEN := Lib.hid (fun N : Nat => length_any q l e0 A B (V.drewN N) (by omega) HA.out (KT.at (below_drewN (Below.refl _ _) N)))
    obtain ⟨y, hy⟩ : ∃ y, tLen l A = y := ⟨_, rfl⟩
    rw [hy] at HLEN HT
    have HY := Lib.hid hy; clear hy
    by_cases h1 : y ≤ s
    · rw [decide_eq_true h1, Bool.true_and] at HT
      have q3 := i64_id (x := s) (by omega)
      have HW := Lib.hid (fun W : World => within_any x 0 20000 W)
      have HU := Lib.hid (fun (b : Bool) (W : World) => unless_any b 2 W)
      cases h2 : inB x 0 20000
      all_goals
        rw [h2] at HT HW
        go_quiet (first | (go_at_call 28; exact q_same (HLEN.out _)) | (go_at_call 47; exact q_same (HW.out _)) | (go_at_call 26; exact q_same (HU.out _ _)))
        go_wp2
        go_ret
        exact ⟨ret_int (by rw [HY.out, HOK.out, HV.out, HT.out]), below_drewN KB.here _⟩
    · rw [decide_eq_false h1, Bool.false_and] at HT
      have q3 := i64_id (x := s) (by omega)
      have HU := Lib.hid (fun (b : Bool) (W : World) => unless_any b 2 W)
      go_quiet (first | (go_at_call 28; exact q_same (HLEN.out _)) | (go_at_call 26; exact q_same (HU.out _ _)))
      go_wp2
      go_ret
      exact ⟨ret_int (by rw [HY.out, HOK.out, HV.out, HT.out]), below_drewN KB.here _⟩
theorem okAll_none (s : Int) (n : Nat) (P R : Nat → Int) (L : Nat → Nat → Nat) : okAll s n P R 0 L = vFrame s n P R := by
  rw [Bool.eq_iff_iff, okAll_iff]
  exact ⟨fun h => h.1, fun h => ⟨h, fun i hi => absurd hi (by omega)⟩⟩
theorem drumsNone (w : World) (L : Nat → Nat → Nat) : DrumsAt w none 0 L := fun h => absurd h (by omega)
end Go.Proofs.Yteffaghcjpeblaa
