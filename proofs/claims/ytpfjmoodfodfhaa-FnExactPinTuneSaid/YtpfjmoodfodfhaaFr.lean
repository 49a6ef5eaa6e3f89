/- Free places of a track, the tracks that are free for a note. No conditions. -/
import Derived.Test.YtpfjmoodfodfhaaCl
import Derived.Test.YtpfjmoodfodfhaaWp
import Derived.Test.YtpfjmoodfodfhaaTu
import Derived.Test.YtpfjmoodfodfhaaOwnI
import Derived.Outline
namespace Go.Proofs.Ytpfjmoodfodfhaa
open Go.RowKit
set_option linter.unusedVariables false
set_option linter.unusedSimpArgs false

/-- x is the first of 1 .. m - 1 where p holds, m if there is none -/
def FarI (p : Nat → Bool) (m x : Nat) : Prop := 1 ≤ x ∧ x ≤ m ∧ (∀ j, 1 ≤ j → j < x → p j = false) ∧ (x < m → p x = true)
theorem FarI.le {p : Nat → Bool} {m x r : Nat} (h : FarI p m x) (hr : r ≤ m) : r ≤ x ↔ ∀ j, 1 ≤ j → j < r → p j = false := by
  obtain ⟨h1, h2, h3, h4⟩ := h
  constructor
  · intro hx j hj hjr
    exact h3 j hj (by omega)
  · intro ha
    rcases Nat.lt_or_ge x r with hlt | hge
    · have := ha x h1 hlt
      rw [h4 (by omega)] at this; cases this
    · exact hge
/-- a step is a free place of a track -/
def frP (m : Nat) (R : Nat → Int) (D : Nat → Nat) (k t : Nat) : Prop := hasPin D k t = false ∧ ∀ j : Nat, 1 ≤ j → j < (R t).toNat → hasPin D ((k + j) % m) t = false ∧ hasPin D ((k + m - j) % m) t = false
section
open Classical
noncomputable def frB (m : Nat) (R : Nat → Int) (D : Nat → Nat) (k t : Nat) : Bool := decide (frP m R D k t)
theorem frB_true {m : Nat} {R : Nat → Int} {D : Nat → Nat} {k t : Nat} (h : frP m R D k t) : frB m R D k t = true := by unfold frB; exact decide_eq_true h
theorem frB_false {m : Nat} {R : Nat → Int} {D : Nat → Nat} {k t : Nat} (h : ¬ frP m R D k t) : frB m R D k t = false := by unfold frB; exact decide_eq_false h
theorem frB_iff {m : Nat} {R : Nat → Int} {D : Nat → Nat} {k t : Nat} : frB m R D k t = true ↔ frP m R D k t := by unfold frB; exact decide_eq_true_iff
end
attribute [irreducible] frB
/-- the tracks below j that have a pitch and are free -/
noncomputable def frL (m : Nat) (P R : Nat → Int) (D : Nat → Nat) (k : Nat) (p : Int) : Nat → List Int
  | 0 => []
  | j + 1 => if P j = p ∧ frB m R D k j = true then frL m P R D k p j ++ [(j : Int)] else frL m P R D k p j
section
variable {m : Nat} {P R : Nat → Int} {D : Nat → Nat} {k : Nat} {p : Int} {j : Nat}
theorem frL_zero : frL m P R D k p 0 = [] := rfl
theorem frL_yes (h : P j = p) (h2 : frB m R D k j = true) : frL m P R D k p (j + 1) = frL m P R D k p j ++ [(j : Int)] := if_pos ⟨h, h2⟩
theorem frL_pitch (h : ¬ P j = p) : frL m P R D k p (j + 1) = frL m P R D k p j := if_neg fun h2 => h h2.1
theorem frL_held (h : frB m R D k j = false) : frL m P R D k p (j + 1) = frL m P R D k p j := if_neg fun h2 => by rw [h] at h2; cases h2.2
theorem frL_len (j : Nat) : (frL m P R D k p j).length ≤ j := by
  induction j with
  | zero => simp [frL_zero]
  | succ j ih =>
    by_cases h : P j = p ∧ frB m R D k j = true
    · rw [frL_yes h.1 h.2, List.length_append]; simp; omega
    · rw [show frL m P R D k p (j + 1) = frL m P R D k p j from if_neg h]; omega
theorem frL_mem (j : Nat) : ∀ x ∈ frL m P R D k p j, ∃ t : Nat, x = t ∧ t < j ∧ P t = p ∧ frB m R D k t = true := by
  induction j with
  | zero => intro x hx; rw [frL_zero] at hx; cases hx
  | succ j ih =>
    intro x hx
    by_cases h : P j = p ∧ frB m R D k j = true
    · rw [frL_yes h.1 h.2, List.mem_append] at hx
      rcases hx with hx | hx
      · obtain ⟨t, e, h1, h2⟩ := ih x hx; exact ⟨t, e, by omega, h2⟩
      · rw [List.mem_singleton] at hx; exact ⟨j, hx, by omega, h⟩
    · rw [show frL m P R D k p (j + 1) = frL m P R D k p j from if_neg h] at hx
      obtain ⟨t, e, h1, h2⟩ := ih x hx; exact ⟨t, e, by omega, h2⟩
end
attribute [irreducible] frL
set_option maxRecDepth 100000 in
theorem behindF_any (gd Td : Nat) (m : Nat) (a : Option Addr) (n c : Nat) (D : Nat → Nat) (k t : Nat) (w : World) (hm : 2 ≤ m ∧ m ≤ 96) (hk : k < m) (ht : t < 24) (hD : D32 D) (hd : DrumAt w Td gd D) :
    Calls Try.prog 150 #[.agg #[.int .i16 (m : Int), .slice a n c], .pointer (some ⟨gd, 0, none⟩), .int .i64 (k : Int), .int .i64 (t : Int), .int .i64 1] w fun e w' => (∃ x : Nat, e = .returned (.int .i64 x) ∧ FarI (fun f => hasPin D ((k + f) % m) t) m x) ∧ Below w.heap.size w w' := by
  have HD := Lib.hid hD; have KD := kp_drum hd; clear hD hd
  have KB := Kp.base w
  replace KB := KB.alloc (.cells #[.int .i16 (m : Int), .slice a n c] 27)
  replace KD := KD.alloc (.cells #[.int .i16 (m : Int), .slice a n c] 27)
  have KF := kp_new1 w #[.int .i16 (m : Int), .slice a n c] 27 (g := w.heap.size) (by simp)
  have HZ := Lib.hid (show (w.alloc (.cells #[.int .i16 (m : Int), .slice a n c] 27)).heap.size = w.heap.size + 1 by simp)
  have f0 := row_cell 0 KF.here
  have q0 := i64_id (x := (m : Int)) (by omega)
  go_enter Try.func150, Try.ntmps150
  go_wp2
  clear f0
  generalize w.alloc (.cells #[.int .i16 (m : Int), .slice a n c] 27) = W at KB KD KF HZ ⊢
  have HB := Lib.hid KB.here; have HDR := Lib.hid KD.here; clear KB KD KF HZ
  go_loopw [12] (fun i w' => W = w' ∧ ∃ f : Nat, 1 ≤ f ∧ f ≤ m ∧ i = .int .i64 f ∧ ∀ j, 1 ≤ j → j < f → hasPin D ((k + j) % m) t = false) (fun i _ => (m - intOf i).toNat)
  case atStart => exact ⟨rfl, 1, by omega, by omega, rfl, fun j h1 h2 => by omega⟩
  case round =>
    obtain ⟨rfl, f, hf1, hfm, rfl, hno⟩ := hrel
    have HNO := Lib.hid hno; clear hno
    by_cases hlt : f < m
    · have hlt' : (f : Int) < m := by omega
      have hq := Nat.mod_lt (k + f) (show 0 < m by omega)
      have hmod := nmod2 k f m
      have hmod' := ntmod2 k f m
      obtain ⟨r, hr⟩ : ∃ r, (k + f) % m = r := ⟨_, rfl⟩
      rw [hr] at hq hmod hmod'
      have HR := Lib.hid hr; clear hr
      have q1 := i64_id (x := (k : Int) + (f : Int)) (by omega)
      have q2 := i64_id (x := (k : Int) + (f : Int) + (m : Int)) (by omega)
      have q3 := i64_id (x := (f : Int)) (by omega)
      have hm0 : ¬ m = 0 := by omega
      cases hp : hasPin D r t
      · have HP := Lib.hid hp
        go_wp2_with (go_at_call 135; refine (has_any gd Td D r t _ HD.out (by omega) (by omega) HDR.out).mono ?_; rw [hp]; rintro e w2 ⟨rfl, rfl⟩)
        go_roundw
        case rel => exact ⟨trivial, f + 1, by omega, by omega, by go_num, fun j h1 h2 => if e : j = f then by rw [e, HR.out]; exact HP.out else HNO.out j h1 (by omega)⟩
        case measure => simp [intOf]; omega
      · have HX := Lib.hid (show FarI (fun f => hasPin D ((k + f) % m) t) m f from ⟨hf1, hfm, HNO.out, fun _ => by show hasPin D ((k + f) % m) t = true; rw [HR.out]; exact hp⟩)
        go_wp2_with (go_at_call 135; refine (has_any gd Td D r t _ HD.out (by omega) (by omega) HDR.out).mono ?_; rw [hp]; rintro e w2 ⟨rfl, rfl⟩)
        go_ret
        exact ⟨⟨f, rfl, HX.out⟩, HB.out⟩
    · have hfe : f = m := by omega
      subst hfe
      have HX := Lib.hid (show FarI (fun j => hasPin D ((k + j) % f) t) f f from ⟨hf1, hfm, HNO.out, fun h => by omega⟩)
      go_wp2
      go_ret
      exact ⟨⟨f, rfl, HX.out⟩, HB.out⟩
set_option maxRecDepth 100000 in
theorem behindR_any (gd Td : Nat) (m : Nat) (a : Option Addr) (n c : Nat) (D : Nat → Nat) (k t : Nat) (w : World) (hm : 2 ≤ m ∧ m ≤ 96) (hk : k < m) (ht : t < 24) (hD : D32 D) (hd : DrumAt w Td gd D) :
    Calls Try.prog 150 #[.agg #[.int .i16 (m : Int), .slice a n c], .pointer (some ⟨gd, 0, none⟩), .int .i64 (k : Int), .int .i64 (t : Int), .int .i64 (-1)] w fun e w' => (∃ x : Nat, e = .returned (.int .i64 x) ∧ FarI (fun f => hasPin D ((k + m - f) % m) t) m x) ∧ Below w.heap.size w w' := by
  have HD := Lib.hid hD; have KD := kp_drum hd; clear hD hd
  have KB := Kp.base w
  replace KB := KB.alloc (.cells #[.int .i16 (m : Int), .slice a n c] 27)
  replace KD := KD.alloc (.cells #[.int .i16 (m : Int), .slice a n c] 27)
  have KF := kp_new1 w #[.int .i16 (m : Int), .slice a n c] 27 (g := w.heap.size) (by simp)
  have HZ := Lib.hid (show (w.alloc (.cells #[.int .i16 (m : Int), .slice a n c] 27)).heap.size = w.heap.size + 1 by simp)
  have f0 := row_cell 0 KF.here
  have q0 := i64_id (x := (m : Int)) (by omega)
  go_enter Try.func150, Try.ntmps150
  go_wp2
  clear f0
  generalize w.alloc (.cells #[.int .i16 (m : Int), .slice a n c] 27) = W at KB KD KF HZ ⊢
  have HB := Lib.hid KB.here; have HDR := Lib.hid KD.here; clear KB KD KF HZ
  go_loopw [12] (fun i w' => W = w' ∧ ∃ f : Nat, 1 ≤ f ∧ f ≤ m ∧ i = .int .i64 f ∧ ∀ j, 1 ≤ j → j < f → hasPin D ((k + m - j) % m) t = false) (fun i _ => (m - intOf i).toNat)
  case atStart => exact ⟨rfl, 1, by omega, by omega, rfl, fun j h1 h2 => by omega⟩
  case round =>
    obtain ⟨rfl, f, hf1, hfm, rfl, hno⟩ := hrel
    have HNO := Lib.hid hno; clear hno
    by_cases hlt : f < m
    · have hlt' : (f : Int) < m := by omega
      have hq := Nat.mod_lt (k + m - f) (show 0 < m by omega)
      have he : (k : Int) + -(f : Int) + (m : Int) = ((k + m - f : Nat) : Int) := by omega
      have hmod : ((k : Int) + -(f : Int) + (m : Int)) % (m : Int) = (((k + m - f) % m : Nat) : Int) := by rw [he, ← Int.natCast_emod]
      have hmod' : ((k : Int) + -(f : Int) + (m : Int)).tmod (m : Int) = (((k + m - f) % m : Nat) : Int) := by rw [he, ← Int.ofNat_tmod]
      obtain ⟨r, hr⟩ : ∃ r, (k + m - f) % m = r := ⟨_, rfl⟩
      rw [hr] at hq hmod hmod'
      have HR := Lib.hid hr; clear hr he
      have q1 := i64_id (x := (k : Int) + -(f : Int)) (by omega)
      have q2 := i64_id (x := (k : Int) + -(f : Int) + (m : Int)) (by omega)
      have q3 := i64_id (x := -(f : Int)) (by omega)
      have hm0 : ¬ m = 0 := by omega
      cases hp : hasPin D r t
      · have HP := Lib.hid hp
        go_wp2_with (go_at_call 135; refine (has_any gd Td D r t _ HD.out (by omega) (by omega) HDR.out).mono ?_; rw [hp]; rintro e w2 ⟨rfl, rfl⟩)
        go_roundw
        case rel => exact ⟨trivial, f + 1, by omega, by omega, by go_num, fun j h1 h2 => if e : j = f then by rw [e, HR.out]; exact HP.out else HNO.out j h1 (by omega)⟩
        case measure => simp [intOf]; omega
      · have HX := Lib.hid (show FarI (fun f => hasPin D ((k + m - f) % m) t) m f from ⟨hf1, hfm, HNO.out, fun _ => by show hasPin D ((k + m - f) % m) t = true; rw [HR.out]; exact hp⟩)
        go_wp2_with (go_at_call 135; refine (has_any gd Td D r t _ HD.out (by omega) (by omega) HDR.out).mono ?_; rw [hp]; rintro e w2 ⟨rfl, rfl⟩)
        go_ret
        exact ⟨⟨f, rfl, HX.out⟩, HB.out⟩
    · have hfe : f = m := by omega
      subst hfe
      have HX := Lib.hid (show FarI (fun j => hasPin D ((k + f - j) % f) t) f f from ⟨hf1, hfm, HNO.out, fun h => by omega⟩)
      go_wp2
      go_ret
      exact ⟨⟨f, rfl, HX.out⟩, HB.out⟩
theorem frP_iff {m r x y k t : Nat} {R : Nat → Int} {D : Nat → Nat} (hR : R t = r) (hrm : r ≤ m) (hp : hasPin D k t = false) (hx : FarI (fun f => hasPin D ((k + f) % m) t) m x) (hy : FarI (fun f => hasPin D ((k + m - f) % m) t) m y) : frP m R D k t ↔ r ≤ x ∧ r ≤ y := by
  rw [hx.le hrm, hy.le hrm]
  unfold frP
  rw [hR, Int.toNat_natCast]
  exact ⟨fun h => ⟨fun j h1 h2 => (h.2 j h1 h2).1, fun j h1 h2 => (h.2 j h1 h2).2⟩, fun h => ⟨hp, fun j h1 h2 => ⟨h.1 j h1 h2, h.2 j h1 h2⟩⟩⟩
set_option maxRecDepth 100000 in
set_option maxHeartbeats 1000000 in
theorem isFree_any (gd Td : Nat) (m : Nat) (a : Option Addr) (n c : Nat) (P R : Nat → Int) (D : Nat → Nat) (k t : Nat) (w : World) (hm : 2 ≤ m ∧ m ≤ 96) (hk : k < m) (ht : t < n) (hn : n ≤ 24) (hr : 1 ≤ R t ∧ R t ≤ m) (hD : D32 D) (hd : DrumAt w Td gd D) (hh : HamAt w a n P R) :
    Calls Try.prog 160 #[.agg #[.int .i16 (m : Int), .slice a n c], .pointer (some ⟨gd, 0, none⟩), .int .i64 (k : Int), .int .i64 (t : Int)] w fun e w' => e = .returned (.bool (frB m R D k t)) ∧ Below w.heap.size w w' := by
  have HD := Lib.hid hD; have KD := kp_drum hd; clear hD hd
  have hx := HamAt.get hh (show 0 < n by omega)
  obtain ⟨g, off, rfl, hg, hc⟩ := hx
  have KC := kp_cell (hc t ht).2 hg
  clear hc hh
  have KB := Kp.base w
  replace KB := KB.alloc (.cells #[.int .i16 (m : Int), .slice (some ⟨g, off, none⟩) n c] 27)
  replace KD := KD.alloc (.cells #[.int .i16 (m : Int), .slice (some ⟨g, off, none⟩) n c] 27)
  replace KC := KC.alloc (.cells #[.int .i16 (m : Int), .slice (some ⟨g, off, none⟩) n c] 27)
  have KF := kp_new1 w #[.int .i16 (m : Int), .slice (some ⟨g, off, none⟩) n c] 27 (g := w.heap.size) (by simp)
  have HZ := Lib.hid (show (w.alloc (.cells #[.int .i16 (m : Int), .slice (some ⟨g, off, none⟩) n c] 27)).heap.size = w.heap.size + 1 by simp)
  go_enter Try.func160, Try.ntmps160
  have c1 := KC.here
  have f0 := row_cell 0 KF.here
  have f1 := row_cell 1 KF.here
  obtain ⟨r, hrr⟩ : ∃ r : Nat, R t = r := ⟨(R t).toNat, by omega⟩
  have HRR := Lib.hid hrr
  rw [hrr] at c1 hr
  clear hrr
  have ht' : (t : Int) < n := by omega
  have q0 := i64_id (x := (r : Int)) (by omega)
  cases hp : hasPin D k t
  · have HP := Lib.hid hp
    go_wp2_with (first | (with_reducible refine load_iframe rfl _ rfl w.heap.size rfl _ (m : Int) (some ⟨g, off, none⟩) n c KF.here ?_) | (go_at_call 135; refine (has_any gd Td D k t _ HD.out (by omega) (by omega) KD.here).mono ?_; rw [hp]; rintro e w2 ⟨rfl, rfl⟩))
    generalize (w.alloc (.cells #[.int .i16 (m : Int), .slice (some ⟨g, off, none⟩) n c] 27)) = W at KB KD KC KF HZ ⊢
    clear HZ c1 f0 f1 KC
    refine (behindF_any gd Td m _ n c D k t W hm hk (by omega) HD.out KD.here).mono ?_
    rintro e w1 ⟨⟨x, rfl, hx⟩, hb1⟩
    replace KB := KB.on hb1
    replace KD := KD.on hb1
    replace KF := KF.on hb1
    have HX := Lib.hid hx; clear hx hb1
    by_cases h1 : r ≤ x
    · have h1' : (r : Int) ≤ x := by omega
      have f0 := row_cell 0 KF.here
      have f1 := row_cell 1 KF.here
      go_wp2_with fail
      refine (behindR_any gd Td m _ n c D k t w1 hm hk (by omega) HD.out KD.here).mono ?_
      rintro e w2 ⟨⟨y, rfl, hy⟩, hb2⟩
      replace KB := KB.on hb2
      have HY := Lib.hid hy; clear hy hb2
      go_wp2
      go_ret
      refine ⟨ret_bool ?_, KB.here⟩
      have hi := frP_iff HRR.out (by omega) HP.out HX.out HY.out
      by_cases h2 : r ≤ y
      · rw [frB_true (hi.2 ⟨h1, h2⟩)]; simp; omega
      · rw [frB_false (fun h => h2 (hi.1 h).2)]; simp; omega
    · have h1' : ¬ (r : Int) ≤ x := by omega
      go_wp2
      go_ret
      refine ⟨ret_bool ?_, KB.here⟩
      rw [frB_false (fun h => h1 ((HX.out.le (by omega)).2 (fun j h2 h3 => (h.2 j h2 (by rw [HRR.out]; exact h3)).1)))]
  · have HP := Lib.hid hp
    go_wp2_with (first | (go_at_call 135; refine (has_any gd Td D k t _ HD.out (by omega) (by omega) KD.here).mono ?_; rw [hp]; rintro e w2 ⟨rfl, rfl⟩))
    go_ret
    refine ⟨ret_bool ?_, KB.here⟩
    rw [frB_false (fun h => by have := h.1; rw [HP.out] at this; cases this)]
set_option maxRecDepth 100000 in
theorem pitch_any (s : Int) (a : Option Addr) (n c : Nat) (P R : Nat → Int) (t : Nat) (w : World) (ht : t < n) (hn : n ≤ 24) (hP : I8 P) (hh : HamAt w a n P R) :
    Calls Try.prog 159 #[.agg #[.int .i16 s, .slice a n c], .int .i64 (t : Int)] w fun e w' => e = .returned (.int .i64 (P t)) ∧ Below w.heap.size w w' := by
  have hPt := hP t
  have KB := Kp.base w; have KH := kp_ham hh; clear hh
  replace KB := KB.alloc (.cells #[.int .i16 s, .slice a n c] 27)
  replace KH := KH.alloc (.cells #[.int .i16 s, .slice a n c] 27)
  have KF := kp_new1 w #[.int .i16 s, .slice a n c] 27 (g := w.heap.size) (by simp)
  have HZ := Lib.hid (show (w.alloc (.cells #[.int .i16 s, .slice a n c] 27)).heap.size = w.heap.size + 1 by simp)
  go_enter Try.func159, Try.ntmps159
  have hx := HamAt.get KH.here (show 0 < n by omega)
  obtain ⟨g, off, rfl, hg, hc⟩ := hx
  have c0 := (hc t ht).1
  have f1 := row_cell 1 KF.here
  clear hc
  have ht' : (t : Int) < n := by omega
  have q0 := i64_id (x := P t) (by omega)
  go_wp2
  go_ret
  exact ⟨rfl, KB.here⟩
set_option maxRecDepth 100000 in
set_option maxHeartbeats 1000000 in
theorem freeTracks_any (gd Td : Nat) (m : Nat) (a : Option Addr) (n c : Nat) (P R : Nat → Int) (D : Nat → Nat) (k : Nat) (p : Int) (w : World) (hm : 2 ≤ m ∧ m ≤ 96) (hk : k < m) (hn : n ≤ 24) (hr : ∀ t, t < n → 1 ≤ R t ∧ R t ≤ m) (hP : I8 P) (hD : D32 D) (hd : DrumAt w Td gd D) (hh : HamAt w a n P R) :
    Calls Try.prog 133 #[.agg #[.int .i16 (m : Int), .slice a n c], .pointer (some ⟨gd, 0, none⟩), .int .i64 (k : Int), .int .i64 p] w fun e w' => ∃ v, e = .returned v ∧ Below w.heap.size w w' ∧ OwnI w' w.heap.size v (frL m P R D k p n) := by
  have HD := Lib.hid hD; have HP := Lib.hid hP; have HRR := Lib.hid hr; have KD := kp_drum hd; clear hD hd hP hr
  have KB := Kp.base w; have KH := kp_ham hh; clear hh
  replace KB := KB.alloc (.cells #[.int .i16 (m : Int), .slice a n c] 27)
  replace KD := KD.alloc (.cells #[.int .i16 (m : Int), .slice a n c] 27)
  replace KH := KH.alloc (.cells #[.int .i16 (m : Int), .slice a n c] 27)
  have KF := kp_new1 w #[.int .i16 (m : Int), .slice a n c] 27 (g := w.heap.size) (by simp)
  have HZ := Lib.hid (show (w.alloc (.cells #[.int .i16 (m : Int), .slice a n c] 27)).heap.size = w.heap.size + 1 by simp)
  go_enter Try.func133, Try.ntmps133
  have f1 := row_cell 1 (KF.alloc (.cells #[] 2)).here
  go_wp2_with (go_at_call 138; refine (sizeHammer_any _ _ _ _ (by omega)).mono ?_; rintro e w5 ⟨rfl, rfl⟩)
  clear f1
  generalize (w.alloc (.cells #[.int .i16 (m : Int), .slice a n c] 27)) = W at KB KD KH KF HZ ⊢
  have hz := HZ.out
  rw [← hz]
  have hws : w.heap.size ≤ W.heap.size := KB.here.size
  clear HZ hz
  have hn0 := OwnI.nil W W.heap.size (Nat.le_refl _)
  rw [← frL_zero (m := m) (P := P) (R := R) (D := D) (k := k) (p := p)] at hn0
  have HN0 := Lib.hid hn0; clear hn0
  go_loopw [9, 15] (fun v i w' => Below W.heap.size W w' ∧ ∃ j : Nat, j ≤ n ∧ i = .int .i64 j ∧ OwnI w' W.heap.size v (frL m P R D k p j)) (fun _ i _ => n - (intOf i).toNat)
  case atStart => exact ⟨(Below.refl _ _).alloc (Nat.le_refl _) _, 0, by omega, rfl, HN0.out⟩
  case round =>
    clear HN0
    obtain ⟨hb, j, hj, rfl, hown⟩ := hrel
    have HOWN := Lib.hid hown
    replace KB := KB.on hb
    replace KD := KD.on hb
    replace KH := KH.on hb
    replace KF := KF.on hb
    obtain ⟨vb, vc, rfl, _⟩ := OwnI.at hown
    clear hown
    have hsz := hb.size
    by_cases hlt : j < n
    · have hj' : (j : Int) < n := by omega
      have hlen := frL_len (m := m) (P := P) (R := R) (D := D) (k := k) (p := p) j
      have hyes := frL_yes (m := m) (P := P) (R := R) (D := D) (k := k) (p := p) (j := j)
      have hpit := frL_pitch (m := m) (P := P) (R := R) (D := D) (k := k) (p := p) (j := j)
      have hhel := frL_held (m := m) (P := P) (R := R) (D := D) (k := k) (p := p) (j := j)
      have HY := Lib.hid hyes; have HPI := Lib.hid hpit; have HHE := Lib.hid hhel; have HLEN := Lib.hid hlen; clear hyes hpit hhel hlen
      go_wp2_with (with_reducible refine load_iframe rfl _ rfl w.heap.size rfl _ (m : Int) a n c KF.here ?_)
      refine (pitch_any (m : Int) a n c P R j wr hlt hn HP.out KH.here).mono ?_
      rintro e w1 ⟨rfl, hb1⟩
      replace KB := KB.on hb1
      replace KD := KD.on hb1
      replace KH := KH.on hb1
      replace KF := KF.on hb1
      have hb2 := hb.trans (hb1.mono hsz)
      have hsz2 := hb2.size
      have HO1 := Lib.hid (HOWN.out.below hb1)
      by_cases hpj : P j = p
      · have f0 := row_cell 0 KF.here
        have f1 := row_cell 1 KF.here
        go_wp2_with fail
        clear f0 f1
        refine (isFree_any gd Td m a n c P R D k j w1 hm hk hlt hn (HRR.out j hlt) HD.out KD.here KH.here).mono ?_
        cases hf : frB m R D k j
        · have HX := Lib.hid (HHE.out hf)
          rintro e w3 ⟨rfl, hb3⟩
          have hb4 := hb2.trans (hb3.mono hsz2)
          have HO3 := Lib.hid (HO1.out.below hb3)
          go_wp2
          go_roundw
          case rel => exact ⟨hb4, j + 1, by omega, by go_num, by rw [HX.out]; exact HO3.out⟩
          case measure => simp [intOf]; omega
        · have HX := Lib.hid (HY.out hpj hf)
          rintro e w3 ⟨rfl, hb3⟩
          have hb4 := hb2.trans (hb3.mono hsz2)
          have hsz4 := hb4.size
          have HO3 := Lib.hid (HO1.out.below hb3)
          have hlen := HLEN.out
          go_wp2_with (at_builtin; refine append_int rfl _ _ rfl W.heap.size _ (frL m P R D k p j) rfl (HO3.out.alloc _) w3.heap.size (j : Int) rfl (by simp) (by omega) (by simp; omega) ?_; intro v2 w5 hown2 hb5; have HO5 := Lib.hid hown2; have HB5 := Lib.hid hb5; clear hown2 hb5)
          go_roundw
          case rel => exact ⟨(hb4.alloc hsz4 _).trans HB5.out, j + 1, by omega, by go_num, by rw [HX.out]; exact HO5.out⟩
          case measure => simp [intOf]; omega
      · have HX := Lib.hid (HPI.out hpj)
        go_wp2
        go_roundw
        case rel => exact ⟨hb2, j + 1, by omega, by go_num, by rw [HX.out]; exact HO1.out⟩
        case measure => simp [intOf]; omega
    · have hjn : n = j := by omega
      subst hjn
      go_wp2
      go_ret
      exact ⟨_, rfl, KB.here, HOWN.out.mono hws⟩
set_option maxRecDepth 100000 in
set_option maxHeartbeats 1000000 in
theorem l02Free_any (gf gd Tf Td : Nat) (m : Nat) (a : Option Addr) (n c : Nat) (P R : Nat → Int) (D : Nat → Nat) (k t : Nat) (w : World) (hm : 2 ≤ m ∧ m ≤ 96) (hk : k < m) (ht : t < n) (hn : n ≤ 24) (hr : 1 ≤ R t ∧ R t ≤ m) (hD : D32 D) (hf : w.heap[gf]? = some (.cells #[.int .i16 (m : Int), .slice a n c] Tf (0, 0))) (hd : DrumAt w Td gd D) (hh : HamAt w a n P R) :
    Calls Try.prog 158 #[.pointer (some ⟨gf, 0, none⟩), .pointer (some ⟨gd, 0, none⟩), .int .i64 (k : Int), .int .i64 (t : Int)] w fun e w' => e = .returned (.bool (frB m R D k t)) ∧ w = w' := by
  have HD := Lib.hid hD; have HDR := Lib.hid hd; clear hD hd
  have f0 := row_cell 0 hf
  have f1 := row_cell 1 hf
  have hx := HamAt.get hh (show 0 < n by omega)
  obtain ⟨g, off, rfl, hg, hc⟩ := hx
  have c1 := (hc t ht).2
  clear hc hh hf
  obtain ⟨r, hrr⟩ : ∃ r : Nat, R t = r := ⟨(R t).toNat, by omega⟩
  have HRR := Lib.hid (show (R t).toNat = r by rw [hrr]; exact Int.toNat_natCast r)
  rw [hrr] at c1 hr
  clear hrr
  have ht' : (t : Int) < n := by omega
  have q0 := i64_id (x := (r : Int)) (by omega)
  have q9 := i64_id (x := (m : Int)) (by omega)
  cases hp : hasPin D k t
  · have HP := Lib.hid hp
    go_enter Try.func158, Try.ntmps158
    go_wp2_with (go_at_call 165; refine (l02Pin_any gd Td D k t _ HD.out (by omega) (by omega) HDR.out).mono ?_; rw [hp]; rintro e w2 ⟨rfl, rfl⟩)
    go_loopw [11] (fun i w' => w = w' ∧ ∃ j : Nat, 1 ≤ j ∧ j ≤ r ∧ i = .int .i64 j ∧ ∀ x, 1 ≤ x → x < j → hasPin D ((k + x) % m) t = false ∧ hasPin D ((k + m - x) % m) t = false) (fun i _ => (r - intOf i).toNat)
    case atStart => exact ⟨rfl, 1, by omega, by omega, rfl, fun x h1 h2 => by omega⟩
    case round =>
      obtain ⟨rfl, j, hj1, hjr, rfl, hno⟩ := hrel
      have HNO := Lib.hid hno; clear hno
      by_cases hlt : j < r
      · have hlt' : (j : Int) < r := by omega
        have hq := Nat.mod_lt (k + j) (show 0 < m by omega)
        have hmod := nmod k j m
        have hmod' := ntmod k j m
        obtain ⟨x, hx⟩ : ∃ x, (k + j) % m = x := ⟨_, rfl⟩
        rw [hx] at hq hmod hmod'
        have HX := Lib.hid hx; clear hx
        have hq2 := Nat.mod_lt (k + m - j) (show 0 < m by omega)
        have he : (k : Int) + (m : Int) - (j : Int) = ((k + m - j : Nat) : Int) := by omega
        have hmod2 : ((k : Int) + (m : Int) - (j : Int)) % (m : Int) = (((k + m - j) % m : Nat) : Int) := by rw [he, ← Int.natCast_emod]
        have hmod2' : ((k : Int) + (m : Int) - (j : Int)).tmod (m : Int) = (((k + m - j) % m : Nat) : Int) := by rw [he, ← Int.ofNat_tmod]
        obtain ⟨y, hy⟩ : ∃ y, (k + m - j) % m = y := ⟨_, rfl⟩
        rw [hy] at hq2 hmod2 hmod2'
        have HY := Lib.hid hy; clear hy he
        have q1 := i64_id (x := (k : Int) + (j : Int)) (by omega)
        have q2 := i64_id (x := (k : Int) + (m : Int)) (by omega)
        have q3 := i64_id (x := (k : Int) + (m : Int) - (j : Int)) (by omega)
        have hm0 : ¬ m = 0 := by omega
        have HC1 := Lib.hid (l02Pin_any gd Td D x t w HD.out (by omega) (by omega) HDR.out)
        have HC2 := Lib.hid (l02Pin_any gd Td D y t w HD.out (by omega) (by omega) HDR.out)
        cases hp1 : hasPin D x t
        · have HP1 := Lib.hid hp1
          rw [hp1] at HC1
          cases hp2 : hasPin D y t
          · have HP2 := Lib.hid hp2
            rw [hp2] at HC2
            go_wp2_with (go_at_call 165; (first | (with_reducible refine HC1.out.mono ?_) | (with_reducible refine HC2.out.mono ?_)); rintro e w2 ⟨rfl, rfl⟩)
            go_roundw
            case rel => exact ⟨trivial, j + 1, by omega, by omega, by go_num, fun z h1 h2 => if e : z = j then by rw [e, HX.out, HY.out]; exact ⟨HP1.out, HP2.out⟩ else HNO.out z h1 (by omega)⟩
            case measure => simp [intOf]; omega
          · have HP2 := Lib.hid hp2
            rw [hp2] at HC2
            go_wp2_with (go_at_call 165; (first | (with_reducible refine HC1.out.mono ?_) | (with_reducible refine HC2.out.mono ?_)); rintro e w2 ⟨rfl, rfl⟩)
            go_ret
            exact ⟨ret_bool (by rw [frB_false (fun h => by have := (h.2 j hj1 (by rw [HRR.out]; exact hlt)).2; rw [HY.out, HP2.out] at this; cases this)]), rfl⟩
        · have HP1 := Lib.hid hp1
          rw [hp1] at HC1
          go_wp2_with (go_at_call 165; with_reducible refine HC1.out.mono ?_; rintro e w2 ⟨rfl, rfl⟩)
          go_ret
          exact ⟨ret_bool (by rw [frB_false (fun h => by have := (h.2 j hj1 (by rw [HRR.out]; exact hlt)).1; rw [HX.out, HP1.out] at this; cases this)]), rfl⟩
      · have hjr2 : j = r := by omega
        subst hjr2
        go_wp2
        go_ret
        exact ⟨ret_bool (by rw [frB_true ⟨HP.out, fun x h1 h2 => HNO.out x h1 (by rw [HRR.out] at h2; exact h2)⟩]), rfl⟩
  · have HP := Lib.hid hp
    go_enter Try.func158, Try.ntmps158
    go_wp2_with (go_at_call 165; refine (l02Pin_any gd Td D k t _ HD.out (by omega) (by omega) HDR.out).mono ?_; rw [hp]; rintro e w2 ⟨rfl, rfl⟩)
    go_ret
    exact ⟨ret_bool (by rw [frB_false (fun h => by have := h.1; rw [HP.out] at this; cases this)]), rfl⟩
set_option maxRecDepth 100000 in
set_option maxHeartbeats 1000000 in
theorem l03Tracks_any (gf gd Tf Td : Nat) (m : Nat) (a : Option Addr) (n c : Nat) (P R : Nat → Int) (D : Nat → Nat) (k : Nat) (p : Int) (w : World) (hm : 2 ≤ m ∧ m ≤ 96) (hk : k < m) (hn : n ≤ 24) (hr : ∀ t, t < n → 1 ≤ R t ∧ R t ≤ m) (hP : I8 P) (hD : D32 D) (hf : w.heap[gf]? = some (.cells #[.int .i16 (m : Int), .slice a n c] Tf (0, 0))) (hd : DrumAt w Td gd D) (hh : HamAt w a n P R) :
    Calls Try.prog 131 #[.pointer (some ⟨gf, 0, none⟩), .pointer (some ⟨gd, 0, none⟩), .agg #[.int .i16 (k : Int), .int .i8 p]] w fun e w' => ∃ v, e = .returned v ∧ Below w.heap.size w w' ∧ OwnI w' w.heap.size v (frL m P R D k p n) := by
  have HD := Lib.hid hD; have HP := Lib.hid hP; have HRR := Lib.hid hr; have KD := kp_drum hd; clear hD hd hP hr
  have KB := Kp.base w; have KH := kp_ham hh; have KF := kp_row hf; clear hh hf
  replace KB := KB.alloc (.cells #[.int .i16 (k : Int), .int .i8 p] 95)
  replace KD := KD.alloc (.cells #[.int .i16 (k : Int), .int .i8 p] 95)
  replace KH := KH.alloc (.cells #[.int .i16 (k : Int), .int .i8 p] 95)
  replace KF := KF.alloc (.cells #[.int .i16 (k : Int), .int .i8 p] 95)
  have KN := kp_new1 w #[.int .i16 (k : Int), .int .i8 p] 95 (g := w.heap.size) (by simp)
  have HZ := Lib.hid (show (w.alloc (.cells #[.int .i16 (k : Int), .int .i8 p] 95)).heap.size = w.heap.size + 1 by simp)
  go_enter Try.func131, Try.ntmps131
  go_wp2
  generalize (w.alloc (.cells #[.int .i16 (k : Int), .int .i8 p] 95)) = W at KB KD KH KF KN HZ ⊢
  have hz := HZ.out
  rw [← hz]
  have hws : w.heap.size ≤ W.heap.size := KB.here.size
  clear HZ hz
  have hn0 := OwnI.nil W W.heap.size (Nat.le_refl _)
  rw [← frL_zero (m := m) (P := P) (R := R) (D := D) (k := k) (p := p)] at hn0
  have HN0 := Lib.hid hn0; clear hn0
  go_loopw [7, 8] (fun v i w' => Below W.heap.size W w' ∧ ∃ j : Nat, j ≤ n ∧ i = .int .i64 j ∧ OwnI w' W.heap.size v (frL m P R D k p j)) (fun _ i _ => n - (intOf i).toNat)
  case atStart => exact ⟨(Below.refl _ _).alloc (Nat.le_refl _) _, 0, by omega, rfl, HN0.out⟩
  case round =>
    clear HN0
    obtain ⟨hb, j, hj, rfl, hown⟩ := hrel
    have HOWN := Lib.hid hown
    replace KB := KB.on hb
    replace KD := KD.on hb
    replace KH := KH.on hb
    replace KF := KF.on hb
    replace KN := KN.on hb
    obtain ⟨vb, vc, rfl, _⟩ := OwnI.at hown
    clear hown
    have hsz := hb.size
    have f0 := row_cell 0 KF.here
    have f1 := row_cell 1 KF.here
    by_cases hlt : j < n
    · have hj' : (j : Int) < n := by omega
      have hlen := frL_len (m := m) (P := P) (R := R) (D := D) (k := k) (p := p) j
      have hyes := frL_yes (m := m) (P := P) (R := R) (D := D) (k := k) (p := p) (j := j)
      have hpit := frL_pitch (m := m) (P := P) (R := R) (D := D) (k := k) (p := p) (j := j)
      have hhel := frL_held (m := m) (P := P) (R := R) (D := D) (k := k) (p := p) (j := j)
      have HY := Lib.hid hyes; have HPI := Lib.hid hpit; have HHE := Lib.hid hhel; have HLEN := Lib.hid hlen; clear hyes hpit hhel hlen
      have hx := HamAt.get KH.here (show 0 < n by omega)
      obtain ⟨g, off, rfl, hg, hc⟩ := hx
      have c0 := (hc j hlt).1
      clear hc
      have n0 := row_cell 0 KN.here
      have n1 := row_cell 1 KN.here
      have q0 := i64_id (x := (k : Int)) (by omega)
      have HFR := Lib.hid (fun N : Nat => l02Free_any gf gd Tf Td m _ n c P R D k j (wr.drewN N) hm hk hlt hn (HRR.out j hlt) HD.out (KF.at (below_drewN (Below.refl _ _) N)) (KD.at (below_drewN (Below.refl _ _) N)) (KH.at (below_drewN (Below.refl _ _) N)))
      by_cases hpj : P j = p
      · cases hf : frB m R D k j
        · have HX := Lib.hid (HHE.out hf)
          rw [hf] at HFR
          go_wp2
          go_quiet ((go_at_call 158; exact q_same (HFR.out _)))
          go_wp2
          go_roundw
          case rel => exact ⟨below_drewN hb _, j + 1, by omega, by go_num, by rw [HX.out]; exact HOWN.out.below (below_drewN (Below.refl _ _) _)⟩
          case measure => simp [intOf]; omega
        · have HX := Lib.hid (HY.out hpj hf)
          rw [hf] at HFR
          go_wp2
          go_quiet ((go_at_call 158; exact q_same (HFR.out _)))
          have hbV := below_drewN hb nq
          have HO3 := Lib.hid (HOWN.out.below (below_drewN (Below.refl _ _) nq))
          generalize wr.drewN nq = V at hbV HO3 ⊢
          have hsz4 := hbV.size
          have hlen := HLEN.out
          go_wp2_with (at_builtin; refine append_int rfl _ _ rfl W.heap.size _ (frL m P R D k p j) rfl (HO3.out.alloc _) V.heap.size (j : Int) rfl (by simp) (by omega) (by simp; omega) ?_; intro v2 w5 hown2 hb5; have HO5 := Lib.hid hown2; have HB5 := Lib.hid hb5; clear hown2 hb5)
          go_roundw
          case rel => exact ⟨(hbV.alloc hsz4 _).trans HB5.out, j + 1, by omega, by go_num, by rw [HX.out]; exact HO5.out⟩
          case measure => simp [intOf]; omega
      · have HX := Lib.hid (HPI.out hpj)
        go_wp2
        go_quiet (fail)
        go_wp2
        go_roundw
        case rel => exact ⟨below_drewN hb _, j + 1, by omega, by go_num, by rw [HX.out]; exact HOWN.out.below (below_drewN (Below.refl _ _) _)⟩
        case measure => simp [intOf]; omega
    · have hjn : n = j := by omega
      subst hjn
      go_wp2
      go_ret
      exact ⟨_, rfl, KB.here, HOWN.out.mono hws⟩
end Go.Proofs.Ytpfjmoodfodfhaa
