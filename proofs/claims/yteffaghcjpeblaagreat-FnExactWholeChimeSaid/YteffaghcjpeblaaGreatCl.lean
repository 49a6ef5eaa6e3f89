/- Clashes, by the reference and by the program. No conditions. -/
import Derived.Test.YteffaghcjpeblaaGreatLs
import Derived.Outline
namespace Go.Proofs.YteffaghcjpeblaaGreat
open Go.RowKit
set_option linter.unusedVariables false
set_option linter.unusedSimpArgs false

/-- how many steps behind the step k the next pin of the track t comes, of the first j steps behind; m: none -/
def nxtTo (D : Nat → Nat) (m k t : Nat) : Nat → Option Nat
  | 0 => none
  | j + 1 => match nxtTo D m k t j with
    | some x => some x
    | none => if hasPin D ((k + (j + 1)) % m) t then some (j + 1) else none
/-- the next pin -/
def nxt (D : Nat → Nat) (m k t : Nat) : Nat := (nxtTo D m k t (m - 1)).getD m
theorem nxt_at {D : Nat → Nat} {m k t f : Nat} (hf : 1 ≤ f) (hfm : f < m) (h : hasPin D ((k + f) % m) t = true) (hno : ∀ j, 1 ≤ j → j < f → hasPin D ((k + j) % m) t = false) : nxt D m k t = f := by
  have h0 : ∀ j, j < f → nxtTo D m k t j = none := by
    intro j
    induction j with
    | zero => intro _; rfl
    | succ j ih =>
      intro hj
      have := hno (j + 1) (by omega) hj
      simp [nxtTo, ih (by omega), this]
  have h1 : ∀ j, f ≤ j → nxtTo D m k t j = some f := by
    intro j hj
    induction j with
    | zero => omega
    | succ j ih =>
      by_cases e : j + 1 = f
      · subst e; simp [nxtTo, h0 j (by omega), h]
      · simp [nxtTo, ih (by omega)]
  unfold nxt
  rw [h1 (m - 1) (by omega)]
  rfl
theorem nxt_none {D : Nat → Nat} {m k t : Nat} (hno : ∀ j, 1 ≤ j → j < m → hasPin D ((k + j) % m) t = false) : nxt D m k t = m := by
  have h0 : ∀ j, j < m → nxtTo D m k t j = none := by
    intro j
    induction j with
    | zero => intro _; rfl
    | succ j ih =>
      intro hj
      have := hno (j + 1) (by omega) hj
      simp [nxtTo, ih (by omega), this]
  unfold nxt
  rcases Nat.lt_or_ge 0 m with h | h
  · rw [h0 (m - 1) (by omega)]; rfl
  · have : m = 0 := by omega
    subst this
    rfl
theorem nxt_le (D : Nat → Nat) (m k t : Nat) : nxt D m k t ≤ m := by
  by_cases h : ∃ f, 1 ≤ f ∧ f < m ∧ hasPin D ((k + f) % m) t = true
  · obtain ⟨f, h1, h2, h3⟩ := h
    have : ∀ g, 1 ≤ g → g < m → hasPin D ((k + g) % m) t = true → nxt D m k t ≤ m := by
      intro g
      induction g using Nat.strongRecOn with
      | _ g ih =>
        intro a1 a2 a3
        by_cases hx : ∃ j, 1 ≤ j ∧ j < g ∧ hasPin D ((k + j) % m) t = true
        · obtain ⟨j, b1, b2, b3⟩ := hx; exact ih j b2 b1 (by omega) b3
        · rw [nxt_at a1 a2 a3 fun j b1 b2 => by
            cases hh : hasPin D ((k + j) % m) t
            · rfl
            · exact absurd ⟨j, b1, b2, hh⟩ hx]
          omega
    exact this f h1 h2 h3
  · rw [nxt_none fun j b1 b2 => by
      cases hh : hasPin D ((k + j) % m) t
      · rfl
      · exact absurd ⟨j, b1, b2, hh⟩ h]
    exact Nat.le_refl _
attribute [irreducible] nxt nxtTo
/-- there is a clash at the pin -/
def clB (m : Nat) (R : Nat → Int) (D : Nat → Nat) (k t : Nat) : Bool := hasPin D k t && decide ((nxt D m k t : Int) < R t)
theorem clB_pin {m : Nat} {R : Nat → Int} {D : Nat → Nat} {k t : Nat} (h : hasPin D k t = true) : clB m R D k t = decide ((nxt D m k t : Int) < R t) := by unfold clB; rw [h]; rfl
theorem clB_no {m : Nat} {R : Nat → Int} {D : Nat → Nat} {k t : Nat} (h : hasPin D k t = false) : clB m R D k t = false := by unfold clB; rw [h]; rfl
attribute [irreducible] clB
theorem nmod (k b m : Nat) : ((k : Int) + (b : Int)) % (m : Int) = (((k + b) % m : Nat) : Int) := by rw [← Int.natCast_add, ← Int.natCast_emod]
theorem ntmod (k b m : Nat) : ((k : Int) + (b : Int)).tmod (m : Int) = (((k + b) % m : Nat) : Int) := by rw [← Int.natCast_add, ← Int.ofNat_tmod]
theorem nmod2 (k b m : Nat) : ((k : Int) + (b : Int) + (m : Int)) % (m : Int) = (((k + b) % m : Nat) : Int) := by rw [Int.add_emod_right, nmod]
theorem ntmod2 (k b m : Nat) : ((k : Int) + (b : Int) + (m : Int)).tmod (m : Int) = (((k + b) % m : Nat) : Int) := by rw [← Int.natCast_add, ← Int.natCast_add, ← Int.ofNat_tmod, Nat.add_mod_right]
set_option maxRecDepth 100000 in
theorem l02Next_any (gf gd Tf Td : Nat) (m : Nat) (a : Option Addr) (n c : Nat) (D : Nat → Nat) (k t : Nat) (w : World) (hm : 2 ≤ m ∧ m ≤ 96) (hk : k < m) (ht : t < 24) (hD : D32 D)
    (hf : w.heap[gf]? = some (.cells #[.int .i16 (m : Int), .slice a n c] Tf (0, 0))) (hd : DrumAt w Td gd D) :
    Calls Tryz.prog 133 #[.pointer (some ⟨gf, 0, none⟩), .pointer (some ⟨gd, 0, none⟩), .int .i64 (k : Int), .int .i64 (t : Int)] w fun e w' => e = .returned (.int .i64 (nxt D m k t : Nat)) ∧ w = w' := by
  have HD := Lib.hid hD; have HDR := Lib.hid hd; clear hD hd
  have f0 := row_cell 0 hf
  have q0 := i64_id (x := (m : Int)) (by omega)
  go_enter Tryz.func133, Tryz.ntmps133
  go_wp2
  go_loopw [10] (fun i w' => w = w' ∧ ∃ f : Nat, 1 ≤ f ∧ f ≤ m ∧ i = .int .i64 f ∧ ∀ j, 1 ≤ j → j < f → hasPin D ((k + j) % m) t = false) (fun i _ => (m - intOf i).toNat)
  case atStart => exact ⟨rfl, 1, by omega, by omega, rfl, fun j h1 h2 => by omega⟩
  case round =>
    obtain ⟨rfl, f, hf1, hfm, rfl, hno⟩ := hrel
    have HNO := Lib.hid hno; clear hno
    by_cases hlt : f < m
    · have hlt' : (f : Int) < m := by omega
      have hq := Nat.mod_lt (k + f) (show 0 < m by omega)
      have hmod := nmod k f m
      have hmod' := ntmod k f m
      obtain ⟨r, hr⟩ : ∃ r, (k + f) % m = r := ⟨_, rfl⟩
      rw [hr] at hq hmod hmod'
      have HR := Lib.hid hr; clear hr
      have q1 := i64_id (x := (k : Int) + (f : Int)) (by omega)
      have hm0 : ¬ m = 0 := by omega
      cases hp : hasPin D r t
      · have HP := Lib.hid hp
        go_wp2_with (go_at_call 73; refine (l02Pin_any gd Td D r t _ HD.out (by omega) (by omega) HDR.out).mono ?_; rw [hp]; rintro e w2 ⟨rfl, rfl⟩)
        go_roundw
        case rel => exact ⟨trivial, f + 1, by omega, by omega, by go_num, fun j h1 h2 => if e : j = f then by rw [e, HR.out]; exact HP.out else HNO.out j h1 (by omega)⟩
        case measure => simp [intOf]; omega
      · have HX := Lib.hid (nxt_at hf1 hlt (show hasPin D ((k + f) % m) t = true by rw [HR.out]; exact hp) HNO.out)
        go_wp2_with (go_at_call 73; refine (l02Pin_any gd Td D r t _ HD.out (by omega) (by omega) HDR.out).mono ?_; rw [hp]; rintro e w2 ⟨rfl, rfl⟩)
        go_ret
        exact ⟨by rw [HX.out]; rfl, rfl⟩
    · have hfe : f = m := by omega
      subst hfe
      have HX := Lib.hid (nxt_none HNO.out)
      go_wp2
      go_ret
      exact ⟨by rw [HX.out]; rfl, rfl⟩
set_option maxRecDepth 100000 in
theorem behind_any (gd Td : Nat) (m : Nat) (a : Option Addr) (n c : Nat) (D : Nat → Nat) (k t : Nat) (w : World) (hm : 2 ≤ m ∧ m ≤ 96) (hk : k < m) (ht : t < 24) (hD : D32 D) (hd : DrumAt w Td gd D) :
    Calls Tryz.prog 136 #[.agg #[.int .i16 (m : Int), .slice a n c], .pointer (some ⟨gd, 0, none⟩), .int .i64 (k : Int), .int .i64 (t : Int), .int .i64 1] w fun e w' => e = .returned (.int .i64 (nxt D m k t : Nat)) ∧ Below w.heap.size w w' := by
  have HD := Lib.hid hD; have KD := kp_drum hd; clear hD hd
  have KB := Kp.base w
  replace KB := KB.alloc (.cells #[.int .i16 (m : Int), .slice a n c] 36)
  replace KD := KD.alloc (.cells #[.int .i16 (m : Int), .slice a n c] 36)
  have KF := kp_new1 w #[.int .i16 (m : Int), .slice a n c] 36 (g := w.heap.size) (by simp)
  have HZ := Lib.hid (show (w.alloc (.cells #[.int .i16 (m : Int), .slice a n c] 36)).heap.size = w.heap.size + 1 by simp)
  have f0 := row_cell 0 KF.here
  have q0 := i64_id (x := (m : Int)) (by omega)
  go_enter Tryz.func136, Tryz.ntmps136
  go_wp2
  clear f0
  generalize w.alloc (.cells #[.int .i16 (m : Int), .slice a n c] 36) = W at KB KD KF HZ ⊢
  have HB := Lib.hid KB.here; have HDR := Lib.hid KD.here; clear KB KD KF HZ
  go_loopw [12] (fun i w' => W = w' ∧ ∃ f : Nat, 1 ≤ f ∧ f ≤ m ∧ i = .int .i64 f ∧ ∀ j, 1 ≤ j → j < f → hasPin D ((k + j) % m) t = false) (fun i _ => (m - intOf i).toNat)
  case atStart => exact ⟨rfl, 1, by omega, by omega, rfl, fun j h1 h2 => by omega⟩
  case round =>
    obtain ⟨rfl, f, hf1, hfm, rfl, hno⟩ := hrel
    have HNO := Lib.hid hno; clear hno
    by_cases hlt : f < m
    · have hlt' : (f : Int) < m := by omega
      have hq := Nat.mod_lt (k + f) (show 0 < m by omega)
      have hmod := nmod2 k f m
      have hmod' := ntmod2 k f m
      obtain ⟨r, hr⟩ : ∃ r, (k + f) % m = r := ⟨_, rfl⟩
      rw [hr] at hq hmod hmod'
      have HR := Lib.hid hr; clear hr
      have q1 := i64_id (x := (k : Int) + (f : Int)) (by omega)
      have q2 := i64_id (x := (k : Int) + (f : Int) + (m : Int)) (by omega)
      have q3 := i64_id (x := (f : Int)) (by omega)
      have hm0 : ¬ m = 0 := by omega
      cases hp : hasPin D r t
      · have HP := Lib.hid hp
        go_wp2_with (go_at_call 81; refine (has_any gd Td D r t _ HD.out (by omega) (by omega) HDR.out).mono ?_; rw [hp]; rintro e w2 ⟨rfl, rfl⟩)
        go_roundw
        case rel => exact ⟨trivial, f + 1, by omega, by omega, by go_num, fun j h1 h2 => if e : j = f then by rw [e, HR.out]; exact HP.out else HNO.out j h1 (by omega)⟩
        case measure => simp [intOf]; omega
      · have HX := Lib.hid (nxt_at hf1 hlt (show hasPin D ((k + f) % m) t = true by rw [HR.out]; exact hp) HNO.out)
        go_wp2_with (go_at_call 81; refine (has_any gd Td D r t _ HD.out (by omega) (by omega) HDR.out).mono ?_; rw [hp]; rintro e w2 ⟨rfl, rfl⟩)
        go_ret
        exact ⟨by rw [HX.out]; rfl, HB.out⟩
    · have hfe : f = m := by omega
      subst hfe
      have HX := Lib.hid (nxt_none HNO.out)
      go_wp2
      go_ret
      exact ⟨by rw [HX.out]; rfl, HB.out⟩
set_option maxRecDepth 100000 in
theorem clashes_any (gd Td : Nat) (m : Nat) (a : Option Addr) (n c : Nat) (P R : Nat → Int) (D : Nat → Nat) (k t : Nat) (w : World) (hm : 2 ≤ m ∧ m ≤ 96) (hn : n ≤ 24) (hk : k < m) (ht : t < n) (hD : D32 D) (hR : I8 R) (hp : hasPin D k t = true) (hd : DrumAt w Td gd D) (hh : HamAt w a n P R) :
    Calls Tryz.prog 119 #[.agg #[.int .i16 (m : Int), .slice a n c], .pointer (some ⟨gd, 0, none⟩), .int .i64 (k : Int), .int .i64 (t : Int)] w fun e w' => e = .returned (.bool (clB m R D k t)) ∧ Below w.heap.size w w' := by
  obtain ⟨gh, off, rfl, _, _⟩ := hh.get (show 0 < n by omega)
  have HC := Lib.hid (clB_pin (m := m) (R := R) hp)
  have HD := Lib.hid hD; have KD := kp_drum hd; have KH := kp_ham hh; clear hD hd hh hp
  have hle := nxt_le D m k t
  have hrt := hR t
  have HR := Lib.hid hR; clear hR
  have KB := Kp.base w
  replace KB := KB.alloc (.cells #[.int .i16 (m : Int), .slice (some ⟨gh, off, none⟩) n c] 36)
  replace KD := KD.alloc (.cells #[.int .i16 (m : Int), .slice (some ⟨gh, off, none⟩) n c] 36)
  replace KH := KH.alloc (.cells #[.int .i16 (m : Int), .slice (some ⟨gh, off, none⟩) n c] 36)
  have KF := kp_new1 w #[.int .i16 (m : Int), .slice (some ⟨gh, off, none⟩) n c] 36 (g := w.heap.size) (by simp)
  have HZ := Lib.hid (show (w.alloc (.cells #[.int .i16 (m : Int), .slice (some ⟨gh, off, none⟩) n c] 36)).heap.size = w.heap.size + 1 by simp)
  go_enter Tryz.func119, Tryz.ntmps119
  have hS := below_drew (w.alloc (.cells #[.int .i16 (m : Int), .slice (some ⟨gh, off, none⟩) n c] 36))
  have ht' : (t : Int) < n := by omega
  have HCE := Lib.hid (fun V (hV : Below (w.alloc (.cells #[.int .i16 (m : Int), .slice (some ⟨gh, off, none⟩) n c] 36)).heap.size (w.alloc (.cells #[.int .i16 (m : Int), .slice (some ⟨gh, off, none⟩) n c] 36)) V) => by
    obtain ⟨g, o, e, hg, hc⟩ := ((KH.on hV).here : HamAt V _ n P R).get (show 0 < n by omega)
    simp at e
    obtain ⟨rfl, rfl⟩ := e
    exact (hc t ht).2 : ∀ V, Below (w.alloc (.cells #[.int .i16 (m : Int), .slice (some ⟨gh, off, none⟩) n c] 36)).heap.size (w.alloc (.cells #[.int .i16 (m : Int), .slice (some ⟨gh, off, none⟩) n c] 36)) V → V.cell? ⟨gh, off + t * 2 + 1, none⟩ = some (.int .i8 (R t)))
  go_wp2
  refine wp_region_S (fun V => Below (w.alloc (.cells #[.int .i16 (m : Int), .slice (some ⟨gh, off, none⟩) n c] 36)).heap.size (w.alloc (.cells #[.int .i16 (m : Int), .slice (some ⟨gh, off, none⟩) n c] 36)) V) (by kernel_rfl) hS ?_
  refine take_val 0 (.agg #[.int .i16 (m : Int), .slice (some ⟨gh, off, none⟩) n c]) rfl (by kernel_rfl) (by kernel_rfl) (by kernel_rfl) (fun _ _ _ h => h) rfl (fun V hV => ex_load_iframe _ rfl w.heap.size rfl _ (m : Int) (some ⟨gh, off, none⟩) n c (KF.at hV)) hS ?_
  simp only [List.getElem_toArray, List.getElem_cons_zero, List.getElem_cons_succ, Act.put, List.setIfInBounds_toArray, List.set_cons_zero, List.set_cons_succ]
  refine take_val 1 (.pointer (some ⟨gd, 0, none⟩)) rfl (by kernel_rfl) (by kernel_rfl) (by kernel_rfl) (fun _ _ _ h => h) rfl (fun V hV => by simp [go_sem]) hS ?_
  simp only [List.getElem_toArray, List.getElem_cons_zero, List.getElem_cons_succ, Act.put, List.setIfInBounds_toArray, List.set_cons_zero, List.set_cons_succ]
  refine take_val 2 (.int .i64 (k : Int)) rfl (by kernel_rfl) (by kernel_rfl) (by kernel_rfl) (fun _ _ _ h => h) rfl (fun V hV => by simp [go_sem]) hS ?_
  simp only [List.getElem_toArray, List.getElem_cons_zero, List.getElem_cons_succ, Act.put, List.setIfInBounds_toArray, List.set_cons_zero, List.set_cons_succ]
  refine take_val 3 (.int .i64 (t : Int)) rfl (by kernel_rfl) (by kernel_rfl) (by kernel_rfl) (fun _ _ _ h => h) rfl (fun V hV => by simp [go_sem]) hS ?_
  simp only [List.getElem_toArray, List.getElem_cons_zero, List.getElem_cons_succ, Act.put, List.setIfInBounds_toArray, List.set_cons_zero, List.set_cons_succ]
  refine take_val 5 (.pointer (some ⟨w.heap.size, 1, none⟩)) rfl (by kernel_rfl) (by kernel_rfl) (by kernel_rfl) (fun _ _ _ h => h) rfl (fun V hV => by simp [go_sem]) hS ?_
  simp only [List.getElem_toArray, List.getElem_cons_zero, List.getElem_cons_succ, Act.put, List.setIfInBounds_toArray, List.set_cons_zero, List.set_cons_succ]
  refine take_val 6 (.slice (some ⟨gh, off, none⟩) n c) rfl (by kernel_rfl) (by kernel_rfl) (by kernel_rfl) (fun _ _ _ h => h) rfl (fun V hV => by have h := row_cell 1 (KF.at hV); simp [go_sem, h]) hS ?_
  simp only [List.getElem_toArray, List.getElem_cons_zero, List.getElem_cons_succ, Act.put, List.setIfInBounds_toArray, List.set_cons_zero, List.set_cons_succ]
  refine take_val 7 (.int .i64 (t : Int)) rfl (by kernel_rfl) (by kernel_rfl) (by kernel_rfl) (fun _ _ _ h => h) rfl (fun V hV => by simp [go_sem]) hS ?_
  simp only [List.getElem_toArray, List.getElem_cons_zero, List.getElem_cons_succ, Act.put, List.setIfInBounds_toArray, List.set_cons_zero, List.set_cons_succ]
  refine take_val 8 (.pointer (some ⟨gh, off + t * 2, none⟩)) rfl (by kernel_rfl) (by kernel_rfl) (by kernel_rfl) (fun _ _ _ h => h) rfl (fun V hV => by simp [go_sem, ht, ht']) hS ?_
  simp only [List.getElem_toArray, List.getElem_cons_zero, List.getElem_cons_succ, Act.put, List.setIfInBounds_toArray, List.set_cons_zero, List.set_cons_succ]
  refine take_val 9 (.pointer (some ⟨gh, off + t * 2 + 1, none⟩)) rfl (by kernel_rfl) (by kernel_rfl) (by kernel_rfl) (fun _ _ _ h => h) rfl (fun V hV => by simp [go_sem]) hS ?_
  simp only [List.getElem_toArray, List.getElem_cons_zero, List.getElem_cons_succ, Act.put, List.setIfInBounds_toArray, List.set_cons_zero, List.set_cons_succ]
  refine take_val 10 (.int .i8 (R t)) rfl (by kernel_rfl) (by kernel_rfl) (by kernel_rfl) (fun _ _ _ h => h) rfl (fun V hV => by have h := HCE.out V hV; simp [go_sem, h]) hS ?_
  simp only [List.getElem_toArray, List.getElem_cons_zero, List.getElem_cons_succ, Act.put, List.setIfInBounds_toArray, List.set_cons_zero, List.set_cons_succ]
  refine take_val 11 (.int .i64 (R t)) rfl (by kernel_rfl) (by kernel_rfl) (by kernel_rfl) (fun _ _ _ h => h) rfl (fun V hV => by have h := i64_id (x := R t) (by omega); simp [go_sem, h]) hS ?_
  simp only [List.getElem_toArray, List.getElem_cons_zero, List.getElem_cons_succ, Act.put, List.setIfInBounds_toArray, List.set_cons_zero, List.set_cons_succ]
  refine step_call 4 136 #[.agg #[.int .i16 (m : Int), .slice (some ⟨gh, off, none⟩) n c], .pointer (some ⟨gd, 0, none⟩), .int .i64 (k : Int), .int .i64 (t : Int), .int .i64 1] (by kernel_rfl) rfl rfl (by simp [go_sem]) ?_
  refine (behind_any gd Td m (some ⟨gh, off, none⟩) n c D k t _ hm hk (by omega) HD.out (KD.at hS)).mono ?_
  rintro e w2 ⟨rfl, hb2⟩
  have hS2 := hS.trans (hb2.mono hS.size)
  refine ⟨_, rfl, hS2, ?_⟩
  simp only [List.getElem_toArray, List.getElem_cons_zero, List.getElem_cons_succ, Act.put, List.setIfInBounds_toArray, List.set_cons_zero, List.set_cons_succ]
  refine take_val 12 (.bool (decide ((nxt D m k t : Int) < R t))) rfl (by kernel_rfl) (by kernel_rfl) (by kernel_rfl) (fun _ _ _ h => h) rfl (fun V hV => by simp [go_sem]) hS2 ?_
  simp only [List.getElem_toArray, List.getElem_cons_zero, List.getElem_cons_succ, Act.put, List.setIfInBounds_toArray, List.set_cons_zero, List.set_cons_succ]
  refine take_val 13 (.bool (decide ((nxt D m k t : Int) < R t))) rfl (by kernel_rfl) (by kernel_rfl) (by kernel_rfl) (fun _ _ _ h => h) rfl (fun V hV => by simp [go_sem]) hS2 ?_
  simp only [List.getElem_toArray, List.getElem_cons_zero, List.getElem_cons_succ, Act.put, List.setIfInBounds_toArray, List.set_cons_zero, List.set_cons_succ]
  refine wpAnyH_done (by kernel_rfl) ?_ _
  have hb3 := KB.at hS2
  go_wp2
  go_ret
  exact ⟨ret_bool HC.out.symm, hb3⟩
set_option maxRecDepth 100000 in
theorem l02Clash_any (gf gd Tf Td : Nat) (m : Nat) (a : Option Addr) (n c : Nat) (P R : Nat → Int) (D : Nat → Nat) (k t : Nat) (w : World) (hm : 2 ≤ m ∧ m ≤ 96) (hn : n ≤ 24) (hk : k < m) (ht : t < n) (hD : D32 D) (hR : I8 R)
    (hf : w.heap[gf]? = some (.cells #[.int .i16 (m : Int), .slice a n c] Tf (0, 0))) (hd : DrumAt w Td gd D) (hh : HamAt w a n P R) :
    Calls Tryz.prog 112 #[.pointer (some ⟨gf, 0, none⟩), .pointer (some ⟨gd, 0, none⟩), .int .i64 (k : Int), .int .i64 (t : Int)] w fun e w' => e = .returned (.bool (clB m R D k t)) ∧ ∃ q, w' = w.drewN q := by
  obtain ⟨gh, off, rfl, hgh, hcell⟩ := hh.get (show 0 < n by omega)
  have HD := Lib.hid hD; have HDR := Lib.hid hd; have HF := Lib.hid hf; clear hD hd
  have hle := nxt_le D m k t
  have hrt := hR t
  have HR := Lib.hid hR; clear hR
  have c1 := (hcell t ht).2
  have f1 := row_cell 1 HF.out
  clear hcell
  go_enter Tryz.func112, Tryz.ntmps112
  cases hp : hasPin D k t
  · have HC := Lib.hid (clB_no (m := m) (R := R) hp)
    have hl2 : ∀ q, Calls Tryz.prog 73 #[.pointer (some ⟨gd, 0, none⟩), .int .i64 (k : Int), .int .i64 (t : Int)] (w.drewN q) fun e w' => e = .returned (.bool (hasPin D k t)) ∧ w.drewN q = w' := fun q => l02Pin_any gd Td D k t _ HD.out (by omega) (by omega) (HDR.out.drewN q)
    rw [hp] at hl2
    have HL := Lib.hid hl2; clear hl2 hp
    go_wp2
    go_quiet ((go_at_call 73; exact q_same (HL.out _)))
    go_wp2
    go_ret
    exact ⟨ret_bool HC.out.symm, _, rfl⟩
  · have HC := Lib.hid (clB_pin (m := m) (R := R) hp)
    have HN := Lib.hid (fun q => l02Next_any gf gd Tf Td m (some ⟨gh, off, none⟩) n c D k t (w.drewN q) hm hk (by omega) HD.out HF.out (HDR.out.drewN q))
    have hl2 : ∀ q, Calls Tryz.prog 73 #[.pointer (some ⟨gd, 0, none⟩), .int .i64 (k : Int), .int .i64 (t : Int)] (w.drewN q) fun e w' => e = .returned (.bool (hasPin D k t)) ∧ w.drewN q = w' := fun q => l02Pin_any gd Td D k t _ HD.out (by omega) (by omega) (HDR.out.drewN q)
    rw [hp] at hl2
    have HL := Lib.hid hl2; clear hl2 hp
    have q3 := i64_id (x := R t) (by omega)
    obtain ⟨x, hx⟩ : ∃ x, nxt D m k t = x := ⟨_, rfl⟩
    rw [hx] at HN HC
    clear hx hle
    go_wp2
    go_quiet (first | (go_at_call 73; exact q_same (HL.out _)) | (go_at_call 133; exact q_same (HN.out _)))
    go_wp2
    go_ret
    exact ⟨ret_bool HC.out.symm, _, rfl⟩
set_option maxRecDepth 100000 in
set_option maxHeartbeats 1000000 in
theorem l02Clashes_any (gf gd Tf Td : Nat) (m : Nat) (a : Option Addr) (n c : Nat) (P R : Nat → Int) (D : Nat → Nat) (w : World) (hm : 2 ≤ m ∧ m ≤ 96) (hn : 1 ≤ n ∧ n ≤ 24) (hD : D32 D) (hR : I8 R)
    (hf : w.heap[gf]? = some (.cells #[.int .i16 (m : Int), .slice a n c] Tf (0, 0))) (hd : DrumAt w Td gd D) (hh : HamAt w a n P R) :
    Calls Tryz.prog 72 #[.pointer (some ⟨gf, 0, none⟩), .pointer (some ⟨gd, 0, none⟩)] w fun e w' => ∃ v, e = .returned v ∧ Below w.heap.size w w' ∧ OwnP w' w.heap.size v (plL (clB m R D) n (m * n)) := by
  have HD := Lib.hid hD; have HR := Lib.hid hR; clear hD hR
  have KF := kp_row hf; have KD := kp_drum hd; have KH := kp_ham hh; clear hf hd hh
  have hn0 : OwnP (w.alloc (.cells #[] 152)) w.heap.size (.slice (some ⟨w.heap.size, 0, none⟩) 0 0) (plL (clB m R D) n 0) := by rw [plL_zero]; exact OwnL.nil w w.heap.size (Nat.le_refl _)
  have HN0 := Lib.hid hn0; clear hn0
  go_enter Tryz.func72, Tryz.ntmps72
  go_wp2
  go_loopw [5, 6] (fun v i w' => Below w.heap.size w w' ∧ ∃ k : Nat, k ≤ m ∧ i = .int .i64 k ∧ OwnP w' w.heap.size v (plL (clB m R D) n (k * n))) (fun _ i _ => (m - intOf i).toNat)
  case atStart => exact ⟨(Below.refl _ _).alloc (Nat.le_refl _) _, 0, by omega, rfl, by rw [Nat.zero_mul]; exact HN0.out⟩
  case round =>
    clear HN0
    obtain ⟨hb, k, hk, rfl, hown⟩ := hrel
    have HOWN := Lib.hid hown; clear hown
    have f0 := row_cell 0 (KF.at hb)
    have q0 := i64_id (x := (m : Int)) (by omega)
    by_cases hlt : k < m
    · have hlt' : (k : Int) < m := by omega
      go_wp2
      go_loopw [5, 7] (fun v i w' => Below w.heap.size w w' ∧ ∃ t : Nat, t ≤ n ∧ i = .int .i64 t ∧ OwnP w' w.heap.size v (plL (clB m R D) n (k * n + t))) (fun _ i _ => n - (intOf i).toNat)
      case atStart => exact ⟨hb, 0, by omega, rfl, HOWN.out⟩
      case round =>
        clear HOWN f0 hb
        obtain ⟨hb, t, ht, rfl, hown⟩ := hrel
        have HOWN := Lib.hid hown; clear hown
        have f1 := row_cell 1 (KF.at hb)
        by_cases hlt2 : t < n
        · have ht' : (t : Int) < n := by omega
          have hsz := hb.size
          have hlen := plL_len (clB m R D) n (k * n + t)
          have hj := place_lt (s := m) hlt hlt2
          have hj2 := place_bound (s := m) (n := n) (by omega) (by omega)
          have HLEN := Lib.hid (show (plL (clB m R D) n (k * n + t)).length ≤ 3000 by omega)
          clear hlen hj hj2
          cases hp : clB m R D k t
          · have hy := Lib.hid (plL_no hlt2 hp)
            go_wp2_with fail
            refine (l02Clash_any gf gd Tf Td m a n c P R D k t _ hm hn.2 hlt hlt2 HD.out HR.out (KF.at hb) (KD.at hb) (KH.at hb)).mono ?_
            rw [hp]
            rintro e w2 ⟨rfl, q, rfl⟩
            have hb2 := below_drewN hb q
            have HO2 := Lib.hid (OwnP.below HOWN.out (below_drewN (Below.refl _ _) q))
            go_wp2
            go_roundw
            case rel => exact ⟨hb2, t + 1, by omega, by go_num, by rw [← Nat.add_assoc, hy.out]; exact HO2.out⟩
            case measure => simp [intOf]; omega
          · have hy := Lib.hid (plL_yes hlt2 hp)
            go_wp2_with fail
            refine (l02Clash_any gf gd Tf Td m a n c P R D k t _ hm hn.2 hlt hlt2 HD.out HR.out (KF.at hb) (KD.at hb) (KH.at hb)).mono ?_
            rw [hp]
            rintro e w2 ⟨rfl, q, rfl⟩
            have hb2 := below_drewN hb q
            have HO2 := Lib.hid (OwnP.below HOWN.out (below_drewN (Below.refl _ _) q))
            obtain ⟨w3, hw3⟩ : ∃ x, wr.drewN q = x := ⟨_, rfl⟩
            rw [hw3] at hb2 HO2 ⊢
            clear hw3
            have hb1 := hb2.alloc hb2.size (.cells #[.int .i64 (k : Int), .int .i64 (t : Int)] 152)
            have hz3 := hb2.size
            go_wp2_with (at_builtin; refine append_pairs rfl _ _ rfl w.heap.size _ (plL (clB m R D) n (k * n + t)) rfl (OwnP.alloc HO2.out _) ⟨w3.heap.size, 0, none⟩ 1 1 [((k : Int), (t : Int))] rfl rfl (one_cells (heap_alloc_new w3 _)) (by have := HLEN.out; omega) (by simp; omega) ?_; intro v2 w4 hown2 hb4; have HO4 := Lib.hid hown2; have hb5 := hb1.trans hb4; clear hown2 hb4)
            go_roundw
            case rel => exact ⟨hb5, t + 1, by omega, by go_num, by rw [← Nat.add_assoc, hy.out]; exact HO4.out⟩
            case measure => simp [intOf]; omega
        · have htn : t = n := by omega
          subst htn
          go_wp2
          go_roundw
          case rel => exact ⟨hb, k + 1, by omega, by go_num, by rw [Nat.add_mul, Nat.one_mul]; exact HOWN.out⟩
          case measure => simp [intOf]; omega
    · have hks : k = m := by omega
      subst hks
      go_wp2
      go_ret
      exact ⟨_, rfl, hb, HOWN.out⟩
/-- one more, if so -/
def adB (b : Bool) (x : Int × Int) (l : List (Int × Int)) : List (Int × Int) := if b then l ++ [x] else l
theorem adB_yes (x : Int × Int) (l : List (Int × Int)) : adB true x l = l ++ [x] := rfl
theorem adB_no (x : Int × Int) (l : List (Int × Int)) : adB false x l = l := rfl
theorem adB_plL {p : Nat → Nat → Bool} {n k t : Nat} (ht : t < n) : adB (p k t) ((k : Int), (t : Int)) (plL p n (k * n + t)) = plL p n (k * n + t + 1) := by
  cases h : p k t
  · rw [plL_no ht h, adB_no]
  · rw [plL_yes ht h, adB_yes]
attribute [irreducible] adB
set_option maxRecDepth 100000 in
theorem allClashes1_any (go gf gd base : Nat) (m : Nat) (a : Option Addr) (n c : Nat) (P R : Nat → Int) (D : Nat → Nat) (v : Value) (l : List (Int × Int)) (k t : Nat) (W : World) (hm : 2 ≤ m ∧ m ≤ 96) (hn : n ≤ 24) (hk : k < m) (ht : t < n) (hD : D32 D) (hR : I8 R) (hp : hasPin D k t = true)
    (hgo : W.heap[go]? = some (.cells #[v] 115 (0, 0))) (hown : OwnP W base v l) (hl : l.length ≤ 10000) (hbase : base ≤ W.heap.size) (hf : W.heap[gf]? = some (.cells #[.int .i16 (m : Int), .slice a n c] 36 (0, 0))) (hd : DrumAt W 41 gd D) (hh : HamAt W a n P R) :
    Calls Tryz.prog 118 #[.int .i64 (k : Int), .int .i64 (t : Int), .pointer (some ⟨gf, 0, none⟩), .pointer (some ⟨gd, 0, none⟩), .pointer (some ⟨go, 0, none⟩)] W fun e W' => e = .returned (.tuple #[]) ∧ KeepT 152 115 W W' ∧ (∀ B, B ≤ base → B ≤ go → Below B W W') ∧ ∃ v', W'.heap[go]? = some (.cells #[v'] 115 (0, 0)) ∧ OwnP W' base v' (adB (clB m R D k t) ((k : Int), (t : Int)) l) := by
  obtain ⟨b, c1, rfl⟩ := OwnL.form hown
  have HGO := Lib.hid hgo; have HOWN := Lib.hid hown; have HL := Lib.hid hl; have HB := Lib.hid hbase; have HF := Lib.hid hf; have HDR := Lib.hid hd; have HH := Lib.hid hh; have HD := Lib.hid hD; have HR := Lib.hid hR; have HP := Lib.hid hp
  clear hgo hown hf hd hh hD hR hp
  obtain ⟨nl, hnl⟩ : ∃ n, l.length = n := ⟨_, rfl⟩
  rw [hnl] at HGO HOWN hl
  have HN := Lib.hid hnl; clear hnl
  go_enter Tryz.func118, Tryz.ntmps118
  go_wp2_with (with_reducible refine load_iframe rfl _ rfl gf rfl _ (m : Int) a n c HF.out ?_)
  refine (clashes_any gd 41 m a n c P R D k t W hm hn hk ht HD.out HR.out HP.out HDR.out HH.out).mono ?_
  rintro e w1 ⟨rfl, hb1⟩
  have HB1 := Lib.hid hb1
  have hgo1 : w1.heap[go]? = some (.cells #[.slice b nl c1] 115 (0, 0)) := (hb1.block _ (row_lt HGO.out)).trans HGO.out
  have hown1 := OwnP.below HOWN.out hb1
  have hz1 := hb1.size
  have HK1 := Lib.hid (KeepT.below (T1 := 152) (T2 := 115) hb1)
  cases hc : clB m R D k t
  · have HGO1 := Lib.hid hgo1; have HO1 := Lib.hid hown1; have HC := Lib.hid hc; clear hgo1 hown1 hc hb1
    go_wp2
    go_end0
    exact ⟨rfl, HK1.out, fun B h1 h2 => HB1.out.mono (Nat.le_trans h1 HB.out), _, HGO1.out, by rw [HC.out, adB_no]; exact HO1.out⟩
  · have c0 := row_cell 0 hgo1
    have HGO1 := Lib.hid hgo1; have HO1 := Lib.hid hown1; have HC := Lib.hid hc; clear hgo1 hown1 hc hb1
    obtain ⟨o1, ho1⟩ : ∃ o : Obj, o = .cells #[.int .i64 (k : Int), .int .i64 (t : Int)] 152 := ⟨_, rfl⟩
    have HW1 := Lib.hid (show (w1.alloc o1).heap[go]? = some (.cells #[.slice b nl c1] 115 (0, 0)) from (heap_alloc_old w1 o1 (row_lt HGO1.out)).trans HGO1.out)
    rw [ho1] at HW1
    clear ho1 o1
    go_wp2_with (at_builtin; go_loud (refine append_Lg Tryz.underlying115 infoP2 rfl (by decide) (by decide) encP_len encP_one rfl _ _ rfl base _ l rfl (OwnP.alloc HO1.out _) ⟨w1.heap.size, 0, none⟩ 1 1 [((k : Int), (t : Int))] rfl rfl (one_cells (heap_alloc_new w1 _)) (by rw [HN.out]; omega) (Nat.le_trans HB.out (by simp; omega)) ?_; intro v2 w2 hown2 hg2; obtain ⟨b2, c3, hv2⟩ := OwnL.form hown2; obtain ⟨n2, hn2⟩ : ∃ m, (l ++ [((k : Int), (t : Int))]).length = m := ⟨_, rfl⟩; rw [hn2] at hv2; subst hv2; clear hn2; have HO2 := Lib.hid hown2; have HG2 := Lib.hid hg2; have HR2 := Lib.hid (show w2.heap[go]? = some (.cells #[.slice b nl c1] 115 (0, 0)) from (keep_grown (T2 := 152) (OwnP.alloc HO1.out _) hg2).2 go _ _ _ HW1.out (by decide) (by decide)); have c2 := row_cell 0 HR2.out; have f2 := frozen_of_row w2 go 0 _ _ HR2.out; clear hown2 hg2 c0))
    go_end0
    refine ⟨rfl, HK1.out.trans (((keep_alloc _ _ w1 _).trans (keep_grown (T2 := 115) (OwnP.alloc HO1.out _) HG2.out)).trans (keep_set HR2.out _)), fun B h1 h2 => ?_, _, heap_setCell_same w2 go 0 _ _ _ HR2.out, by rw [HC.out, adB_yes]; exact own_set HO2.out HR2.out (by decide) _⟩
    have ho := OwnP.alloc HO1.out (.cells #[.int .i64 (k : Int), .int .i64 (t : Int)] 152)
    have hbw : B ≤ W.heap.size := Nat.le_trans h1 HB.out
    have ha : Below B W (w1.alloc (.cells #[.int .i64 (k : Int), .int .i64 (t : Int)] 152)) := (HB1.out.mono hbw).alloc (by omega) _
    exact (ha.trans (below_grown HG2.out (by simp; omega) (fun x hx => Nat.le_trans h1 (OwnP.lt ho x hx).1))).setCell h2 _
/-- what holds while the clashes are listed -/
def ClInv (w : World) (go : Nat) (p : Nat → Nat → Bool) (m : Nat) (a : Option Addr) (n c : Nat) (D : Nat → Nat) (j : Nat) (W : World) : Prop :=
  LsInv w go p n j W ∧ W.heap[w.heap.size]? = some (.cells #[.int .i16 (m : Int), .slice a n c] 36 (0, 0)) ∧ DrumAt W 41 (w.heap.size + 1) D
set_option maxRecDepth 100000 in
theorem allClashes_any (m : Nat) (a : Option Addr) (n c : Nat) (P R : Nat → Int) (D : Nat → Nat) (w : World) (hm : 2 ≤ m ∧ m ≤ 96) (hn : 1 ≤ n ∧ n ≤ 24) (hD : D32 D) (hR : I8 R) (hh : HamAt w a n P R) :
    Calls Tryz.prog 86 #[.agg #[.int .i16 (m : Int), .slice a n c], .agg (dc D)] w fun e w' => ∃ v, e = .returned v ∧ Below w.heap.size w w' ∧ OwnP w' w.heap.size v (plL (clB m R D) n (m * n)) := by
  have HD := Lib.hid hD; have HR := Lib.hid hR; clear hD hR
  have KB := Kp.base w; have KH0 := kp_ham hh; clear hh
  replace KB := KB.alloc (.cells #[.int .i16 (m : Int), .slice a n c] 36)
  have KF := kp_new1 w #[.int .i16 (m : Int), .slice a n c] 36 (g := w.heap.size) (by simp)
  replace KB := KB.alloc (.cells (dc D) 41)
  replace KF := KF.alloc (.cells (dc D) 41)
  have KD := kp_newd (w.alloc (.cells #[.int .i16 (m : Int), .slice a n c] 36)) (D) 41 (g := w.heap.size + 1) (by simp)
  have HZ := Lib.hid (show ((w.alloc (.cells #[.int .i16 (m : Int), .slice a n c] 36)).alloc (.cells (dc D) 41)).heap.size = w.heap.size + 1 + 1 by simp)
  go_enter Tryz.func86, Tryz.ntmps86
  go_wp2_with (first | (with_reducible refine load_iframe rfl _ rfl w.heap.size rfl _ (m : Int) a n c ((KF.alloc _).alloc _).here ?_) | (with_reducible refine load_drum rfl _ rfl (w.heap.size + 1) rfl _ D ((KD.alloc _).alloc _).here ?_))
  have hb0 : Below w.heap.size w ((((w.alloc (.cells #[.int .i16 (m : Int), .slice a n c] 36)).alloc (.cells (dc D) 41)).alloc (.cells #[] 152)).alloc (.cells #[.slice (some ⟨w.heap.size + 1 + 1, 0, none⟩) 0 0] 115)) := (((KB.alloc _).alloc _)).here
  have h0 : ClInv w (w.heap.size + 1 + 1 + 1) (clB m R D) m a n c D 0 ((((w.alloc (.cells #[.int .i16 (m : Int), .slice a n c] 36)).alloc (.cells (dc D) 41)).alloc (.cells #[] 152)).alloc (.cells #[.slice (some ⟨w.heap.size + 1 + 1, 0, none⟩) 0 0] 115)) := by
    refine ⟨⟨hb0, by omega, .slice (some ⟨w.heap.size + 1 + 1, 0, none⟩) 0 0, ?_, ?_⟩, ((KF.alloc _).alloc _).here, ((KD.alloc _).alloc _).here⟩
    · have h := heap_alloc_new (((w.alloc (.cells #[.int .i16 (m : Int), .slice a n c] 36)).alloc (.cells (dc D) 41)).alloc (.cells #[] 152)) (.cells #[.slice (some ⟨w.heap.size + 1 + 1, 0, none⟩) 0 0] 115)
      simpa using h
    · rw [plL_zero]
      have h := OwnL.nil (T := 152) (sz := 2) (enc := encP) ((w.alloc (.cells #[.int .i16 (m : Int), .slice a n c] 36)).alloc (.cells (dc D) 41)) w.heap.size (by simp; omega)
      rw [show ((w.alloc (.cells #[.int .i16 (m : Int), .slice a n c] 36)).alloc (.cells (dc D) 41)).heap.size = w.heap.size + 1 + 1 by simp] at h
      exact OwnP.alloc h _
  refine (pins_any 152 115 (m : Int) a n c D 118 #[.pointer (some ⟨w.heap.size, 0, none⟩), .pointer (some ⟨w.heap.size + 1, 0, none⟩), .pointer (some ⟨w.heap.size + 1 + 1 + 1, 0, none⟩)] (ClInv w (w.heap.size + 1 + 1 + 1) (clB m R D) m a n c D) _ (by omega) hn HD.out ⟨by decide, by decide⟩ ⟨by decide, by decide⟩ (call_enter _ _ Tryz.func118 (by kernel_rfl) (by kernel_rfl)) ?_ ?_ ?_ h0).mono ?_
  · rintro j k t W hk ht rfl hp ⟨⟨hb, hgo, v, hc, hown⟩, hf, hd⟩
    have hlen := plL_len (clB m R D) n (k * n + t)
    have hj := place_lt (s := m) (by omega : k < m) ht
    have hj2 := place_bound (s := m) (n := n) (by omega) (by omega)
    refine (allClashes1_any _ w.heap.size (w.heap.size + 1) w.heap.size m a n c P R D v _ k t W hm hn.2 (by omega) ht HD.out HR.out hp hc hown (by omega) hb.size hf hd (KH0.at hb)).mono ?_
    rintro e W' ⟨rfl, hkp, hbl, v', hc', hown'⟩
    exact ⟨rfl, ⟨⟨hb.trans (hbl _ (Nat.le_refl _) hgo), hgo, v', hc', by rw [← adB_plL ht]; exact hown'⟩, hkp.row hf (by decide) (by decide), hkp.row hd (by decide) (by decide)⟩, hkp⟩
  · rintro j k t W hk ht rfl hp ⟨⟨hb, hgo, v, hc, hown⟩, hf, hd⟩
    exact ⟨⟨hb, hgo, v, hc, by rw [plL_no ht (clB_no hp)]; exact hown⟩, hf, hd⟩
  · rintro j W W' ⟨⟨hb, hgo, v, hc, hown⟩, hf, hd⟩ hb2
    exact ⟨⟨hb.trans (hb2.mono hb.size), hgo, v, (hb2.block _ (row_lt hc)).trans hc, OwnP.below hown hb2⟩, (hb2.block _ (row_lt hf)).trans hf, hd.below hb2 hd.lt⟩
  · rintro e w2 ⟨rfl, ⟨⟨hb, hgo, v, hc, hown⟩, _⟩, _⟩
    have c0 := row_cell 0 hc
    obtain ⟨b, c2, rfl⟩ := OwnL.form hown
    rw [Int.toNat_natCast] at hown c0
    have HO := Lib.hid hown; clear hown hc
    clear h0
    go_wp2
    go_ret
    exact ⟨_, rfl, hb, HO.out⟩
end Go.Proofs.YteffaghcjpeblaaGreat
