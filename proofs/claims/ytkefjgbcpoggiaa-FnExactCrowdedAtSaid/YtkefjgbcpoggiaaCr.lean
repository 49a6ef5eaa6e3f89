/- CrowdedAt, by the reference and by the program. No conditions. -/
import Derived.Test.YtkefjgbcpoggiaaGp
import Derived.Test.YtkefjgbcpoggiaaPins
import Derived.Outline
namespace Go.Proofs.Ytkefjgbcpoggiaa
open Go.RowKit
set_option linter.unusedVariables false
set_option linter.unusedSimpArgs false

/-- the first index below N where p holds, N if there is none -/
def fstN (p : Nat → Bool) : Nat → Nat
  | 0 => 0
  | N + 1 => if fstN p N < N then fstN p N else if p N then N else N + 1
theorem fstN_none {p : Nat → Bool} : ∀ (N : Nat), (∀ y, y < N → p y = false) → fstN p N = N
  | 0, _ => rfl
  | N + 1, h => by
    show (if fstN p N < N then fstN p N else if p N then N else N + 1) = N + 1
    rw [fstN_none N fun y hy => h y (by omega), if_neg (by omega), h N (by omega)]; rfl
theorem fstN_at {p : Nat → Bool} {x : Nat} (hx : p x = true) (hno : ∀ y, y < x → p y = false) : ∀ (d : Nat), fstN p (x + 1 + d) = x
  | 0 => by
    show (if fstN p x < x then fstN p x else if p x then x else x + 1) = x
    rw [fstN_none x hno, if_neg (by omega), hx]; rfl
  | d + 1 => by
    show (if fstN p (x + 1 + d) < x + 1 + d then fstN p (x + 1 + d) else if p (x + 1 + d) then x + 1 + d else x + 1 + d + 1) = x
    rw [fstN_at hx hno d, if_pos (by omega)]
attribute [irreducible] fstN
/-- how many hammers a pitch has, and how fast the fastest is -/
def hcN (P : Nat → Int) (p : Int) : Nat → Nat
  | 0 => 0
  | j + 1 => if P j = p then hcN P p j + 1 else hcN P p j
def hrN (P R : Nat → Int) (p : Int) : Nat → Int
  | 0 => 1
  | j + 1 => if P j = p then (if hcN P p j = 0 ∨ R j < hrN P R p j then R j else hrN P R p j) else hrN P R p j
section
variable {P R : Nat → Int} {p : Int} {j : Nat}
theorem hc_zero : hcN P p 0 = 0 ∧ hrN P R p 0 = 1 := ⟨rfl, rfl⟩
theorem hc_no (h : ¬ P j = p) : hcN P p (j + 1) = hcN P p j ∧ hrN P R p (j + 1) = hrN P R p j := ⟨if_neg h, if_neg h⟩
theorem hc_low (h : P j = p) (h2 : hcN P p j = 0 ∨ R j < hrN P R p j) : hcN P p (j + 1) = hcN P p j + 1 ∧ hrN P R p (j + 1) = R j := ⟨if_pos h, by show (if P j = p then _ else _) = _; rw [if_pos h, if_pos h2]⟩
theorem hc_keep (h : P j = p) (h2 : ¬ (hcN P p j = 0 ∨ R j < hrN P R p j)) : hcN P p (j + 1) = hcN P p j + 1 ∧ hrN P R p (j + 1) = hrN P R p j := ⟨if_pos h, by show (if P j = p then _ else _) = _; rw [if_pos h, if_neg h2]⟩
theorem hc_le (j : Nat) : hcN P p j ≤ j := by
  induction j with
  | zero => exact Nat.le_refl _
  | succ j ih =>
    by_cases h : P j = p
    · rw [(hc_no (R := P) (p := p) (P := P) (j := j) · |>.1) |> fun _ => show hcN P p (j + 1) = hcN P p j + 1 from if_pos h]; omega
    · rw [show hcN P p (j + 1) = hcN P p j from if_neg h]; omega
theorem hr_8 (hR : I8 R) (j : Nat) : -128 ≤ hrN P R p j ∧ hrN P R p j ≤ 127 := by
  induction j with
  | zero => rw [(hc_zero (P := P) (R := R) (p := p)).2]; omega
  | succ j ih =>
    by_cases h : P j = p
    · by_cases h2 : hcN P p j = 0 ∨ R j < hrN P R p j
      · rw [(hc_low h h2).2]; exact hR j
      · rw [(hc_keep h h2).2]; exact ih
    · rw [(hc_no h).2]; exact ih
end
attribute [irreducible] hcN hrN
/-- a note lies in a stretch of steps -/
def ncB (m : Nat) (A B : Nat → Int) (p : Int) (r : Int) (st i : Nat) : Bool := decide (B i = p) && decide ((((A i).toNat + m - st) % m : Nat) < r)
theorem ncB_no {m : Nat} {A B : Nat → Int} {p r : Int} {st i : Nat} (h : ¬ B i = p) : ncB m A B p r st i = false := by unfold ncB; rw [decide_eq_false h]; rfl
theorem ncB_yes {m : Nat} {A B : Nat → Int} {p r : Int} {st i : Nat} (h : B i = p) : ncB m A B p r st i = decide ((((A i).toNat + m - st) % m : Nat) < r) := by unfold ncB; rw [decide_eq_true h]; rfl
attribute [irreducible] ncB
def cnN (m : Nat) (A B : Nat → Int) (p r : Int) (st : Nat) : Nat → Nat
  | 0 => 0
  | k + 1 => if ncB m A B p r st k then cnN m A B p r st k + 1 else cnN m A B p r st k
section
variable {m : Nat} {A B : Nat → Int} {p r : Int} {st k : Nat}
theorem cn_zero : cnN m A B p r st 0 = 0 := rfl
theorem cn_yes (h : ncB m A B p r st k = true) : cnN m A B p r st (k + 1) = cnN m A B p r st k + 1 := if_pos h
theorem cn_no (h : ncB m A B p r st k = false) : cnN m A B p r st (k + 1) = cnN m A B p r st k := if_neg (by rw [h]; simp)
theorem cn_le (k : Nat) : cnN m A B p r st k ≤ k := by
  induction k with
  | zero => exact Nat.le_refl _
  | succ k ih =>
    cases h : ncB m A B p r st k
    · rw [cn_no h]; omega
    · rw [cn_yes h]; omega
end
attribute [irreducible] cnN
/-- pitch x / m is crowded at step x % m -/
def crB (m n : Nat) (P R : Nat → Int) (l : Nat) (A B : Nat → Int) (x : Nat) : Bool := decide (hcN P ((x / m : Nat) : Int) n < cnN m A B ((x / m : Nat) : Int) (hrN P R ((x / m : Nat) : Int) n) (x % m) l)
theorem crB_at {m n : Nat} {P R : Nat → Int} {l : Nat} {A B : Nat → Int} {p st : Nat} (h : st < m) : crB m n P R l A B (p * m + st) = decide (hcN P (p : Int) n < cnN m A B (p : Int) (hrN P R (p : Int) n) st l) := by
  unfold crB; rw [(place_div h).1, (place_div h).2]
attribute [irreducible] crB
/-- what is told: the step, the pitch, how many notes, the code -/
def crR (s : Int) (n : Nat) (P R : Nat → Int) (l : Nat) (A B : Nat → Int) : Int × Int × Int × Int :=
  if tc0 s n P R l A B = 0 then
    (if fstN (crB s.toNat n P R l A B) (48 * s.toNat) < 48 * s.toNat then
      (((fstN (crB s.toNat n P R l A B) (48 * s.toNat) % s.toNat : Nat) : Int), ((fstN (crB s.toNat n P R l A B) (48 * s.toNat) / s.toNat : Nat) : Int),
        ((cnN s.toNat A B ((fstN (crB s.toNat n P R l A B) (48 * s.toNat) / s.toNat : Nat) : Int) (hrN P R ((fstN (crB s.toNat n P R l A B) (48 * s.toNat) / s.toNat : Nat) : Int) n) (fstN (crB s.toNat n P R l A B) (48 * s.toNat) % s.toNat) l : Nat) : Int), 0)
    else (0, 0, 0, 6))
  else (0, 0, 0, tc0 s n P R l A B)
theorem crR_bad {s : Int} {n : Nat} {P R : Nat → Int} {l : Nat} {A B : Nat → Int} {x : Int} (h : tc0 s n P R l A B = x) (hx : ¬ x = 0) : crR s n P R l A B = (0, 0, 0, x) := by unfold crR; rw [h, if_neg hx]
theorem crR_none {m n : Nat} {P R : Nat → Int} {l : Nat} {A B : Nat → Int} (h : tc0 (m : Int) n P R l A B = 0) (hno : ∀ y, y < 48 * m → crB m n P R l A B y = false) : crR (m : Int) n P R l A B = (0, 0, 0, 6) := by
  unfold crR; rw [if_pos h, Int.toNat_natCast, fstN_none _ hno, if_neg (Nat.lt_irrefl _)]
theorem crR_at {m n : Nat} {P R : Nat → Int} {l : Nat} {A B : Nat → Int} {p st : Nat} (h : tc0 (m : Int) n P R l A B = 0) (hp : p < 48) (hst : st < m) (hb : hcN P (p : Int) n < cnN m A B (p : Int) (hrN P R (p : Int) n) st l) (hno : ∀ y, y < p * m + st → crB m n P R l A B y = false) :
    crR (m : Int) n P R l A B = ((st : Int), (p : Int), ((cnN m A B (p : Int) (hrN P R (p : Int) n) st l : Nat) : Int), 0) := by
  have hlt : p * m + st < 48 * m := by
    have : (p + 1) * m ≤ 48 * m := Nat.mul_le_mul_right _ hp
    rw [Nat.add_mul, Nat.one_mul] at this
    omega
  have hx := fstN_at (p := crB m n P R l A B) (x := p * m + st) (by rw [crB_at hst]; exact decide_eq_true hb) hno (48 * m - (p * m + st + 1))
  rw [show p * m + st + 1 + (48 * m - (p * m + st + 1)) = 48 * m by omega] at hx
  unfold crR; rw [if_pos h, Int.toNat_natCast, hx, if_pos hlt, (place_div hst).1, (place_div hst).2]
attribute [irreducible] crR
set_option maxRecDepth 100000 in
set_option maxHeartbeats 1000000 in
theorem hammersFor_any (s : Int) (a : Option Addr) (n c : Nat) (P R : Nat → Int) (p : Int) (w : World) (hn : n ≤ 24) (hP : I8 P) (hR : I8 R) (hh : HamAt w a n P R) :
    Calls Try.prog 123 #[.agg #[.int .i16 s, .slice a n c], .int .i64 p] w fun e w' => e = .returned (.tuple #[.int .i64 (hcN P p n : Nat), .int .i64 (hrN P R p n)]) ∧ Below w.heap.size w w' := by
  have HP := Lib.hid hP; have HR := Lib.hid hR; clear hP hR
  have KB := Kp.base w; have KH := kp_ham hh; clear hh
  replace KB := KB.alloc (.cells #[.int .i16 s, .slice a n c] 27)
  replace KH := KH.alloc (.cells #[.int .i16 s, .slice a n c] 27)
  have KF := kp_new1 w #[.int .i16 s, .slice a n c] 27 (g := w.heap.size) (by simp)
  have HZ := Lib.hid (show (w.alloc (.cells #[.int .i16 s, .slice a n c] 27)).heap.size = w.heap.size + 1 by simp)
  go_enter Try.func123, Try.ntmps123
  have f1 := row_cell 1 KF.here
  go_wp2
  clear f1
  generalize (w.alloc (.cells #[.int .i16 s, .slice a n c] 27)) = W at KB KH KF HZ ⊢
  clear HZ
  go_loopw [6, 7, 13] (fun u v i w' => Below W.heap.size W w' ∧ ∃ j : Nat, j ≤ n ∧ i = .int .i64 j ∧ u = .int .i64 (hcN P p j : Nat) ∧ v = .int .i64 (hrN P R p j)) (fun _ _ i _ => n - (intOf i).toNat)
  case atStart => exact ⟨Below.refl _ _, 0, by omega, rfl, by rw [(hc_zero (P := P) (R := R) (p := p)).1]; rfl, by rw [(hc_zero (P := P) (R := R) (p := p)).2]⟩
  case round =>
    obtain ⟨hb, j, hj, rfl, rfl, rfl⟩ := hrel
    replace KB := KB.on hb
    replace KH := KH.on hb
    have hsz := hb.size
    by_cases hlt : j < n
    · have hj' : (j : Int) < n := by omega
      have hx := HamAt.get KH.here (show 0 < n by omega)
      obtain ⟨g, off, rfl, hg, hc⟩ := hx
      have c0 := (hc j hlt).1
      have c1 := (hc j hlt).2
      clear hc
      have hPj := HP.out j; have hRj := HR.out j
      have q0 := i64_id (x := P j) (by omega)
      have q1 := i64_id (x := R j) (by omega)
      have hle := hc_le (P := P) (p := p) j
      have h8 := hr_8 (P := P) (p := p) HR.out j
      have HNO := Lib.hid (hc_no (P := P) (R := R) (p := p) (j := j))
      have HLO := Lib.hid (hc_low (P := P) (R := R) (p := p) (j := j))
      have HKE := Lib.hid (hc_keep (P := P) (R := R) (p := p) (j := j))
      obtain ⟨x, hx⟩ : ∃ x, hcN P p j = x := ⟨_, rfl⟩
      obtain ⟨y, hy⟩ : ∃ y, hrN P R p j = y := ⟨_, rfl⟩
      rw [hx] at HNO HLO HKE hle ⊢
      rw [hy] at HNO HLO HKE h8 ⊢
      clear hx hy
      have q2 := i64_id (x := (x : Int) + 1) (by omega)
      by_cases hp : P j = p
      · by_cases hl : x = 0 ∨ R j < y
        · have HX := Lib.hid (HLO.out hp hl)
          by_cases hx0 : x = 0
          · subst hx0
            go_wp2
            go_roundw
            case rel => exact ⟨hb.alloc hsz _, j + 1, by omega, by go_num, by rw [HX.out.1]; rfl, by rw [HX.out.2]⟩
            case measure => simp [intOf]; omega
          · have hx0' : ¬ (x : Int) = 0 := by omega
            have hl' : R j < y := by omega
            go_wp2
            go_roundw
            case rel => exact ⟨hb.alloc hsz _, j + 1, by omega, by go_num, by rw [HX.out.1]; rfl, by rw [HX.out.2]⟩
            case measure => simp [intOf]; omega
        · have HX := Lib.hid (HKE.out hp hl)
          have hx0' : ¬ (x : Int) = 0 := by omega
          have hl' : ¬ R j < y := by omega
          go_wp2
          go_roundw
          case rel => exact ⟨hb.alloc hsz _, j + 1, by omega, by go_num, by rw [HX.out.1]; rfl, by rw [HX.out.2]⟩
          case measure => simp [intOf]; omega
      · have HX := Lib.hid (HNO.out hp)
        go_wp2
        go_roundw
        case rel => exact ⟨hb.alloc hsz _, j + 1, by omega, by go_num, by rw [HX.out.1], by rw [HX.out.2]⟩
        case measure => simp [intOf]; omega
    · have hjn : n = j := by omega
      subst hjn
      go_wp2
      go_ret2
      exact ⟨rfl, KB.here⟩
/-- the numbers of a stretch, as they stand in the code -/
theorem mod_st {a : Int} {m st x : Nat} (ha : a = x) (hx : x < m) (hst : st < m) : a - (st : Int) + (m : Int) = ((x + m - st : Nat) : Int) ∧ (a - (st : Int) + (m : Int)) % (m : Int) = (((x + m - st) % m : Nat) : Int) ∧ (a - (st : Int) + (m : Int)).tmod (m : Int) = (((x + m - st) % m : Nat) : Int) := by
  have e : a - (st : Int) + (m : Int) = ((x + m - st : Nat) : Int) := by omega
  refine ⟨e, ?_, ?_⟩
  · rw [e, ← Int.natCast_emod]
  · rw [e, ← Int.ofNat_tmod]
theorem bit_any (b : Bool) (w : World) : Calls Try.prog 124 #[.bool b] w fun e w' => e = .returned (.int .i64 (if b then 1 else 0)) ∧ w = w' := by
  cases b
  all_goals
    go_enter Try.func124, Try.ntmps124
    go_wp2
    go_ret
    exact ⟨rfl, rfl⟩
set_option maxRecDepth 100000 in
set_option maxHeartbeats 2000000 in
theorem implCrowdedAt_any (s : Int) (a : Option Addr) (n c : Nat) (P R : Nat → Int) (q : Option Addr) (l e0 : Nat) (A B : Nat → Int) (w : World) (hs : -32768 ≤ s ∧ s ≤ 32767) (hn : n ≤ 1048576) (hP : I8 P) (hR : I8 R) (hh : HamAt w a n P R) (hl : l ≤ 1048576) (hA : I16 A) (hB : I8 B) (ht : NoteAt w q l A B) :
    Calls Try.prog 44 #[.agg #[.int .i16 s, .slice a n c], .slice q l e0] w fun e w' => e = .returned (.tuple #[.int .i64 (crR s n P R l A B).1, .int .i64 (crR s n P R l A B).2.1, .int .i64 (crR s n P R l A B).2.2.1, .int .i64 (crR s n P R l A B).2.2.2]) ∧ Below w.heap.size w w' := by
  have HP := Lib.hid hP; have HR := Lib.hid hR; have HA := Lib.hid hA; have HB := Lib.hid hB
  clear hP hR hA hB
  have KB := Kp.base w
  have KH := kp_ham hh; have KT := kp_note ht; clear hh ht
  replace KB := KB.alloc (.cells #[.int .i16 s, .slice a n c] 27)
  replace KH := KH.alloc (.cells #[.int .i16 s, .slice a n c] 27)
  replace KT := KT.alloc (.cells #[.int .i16 s, .slice a n c] 27)
  have KF := kp_new1 w #[.int .i16 s, .slice a n c] 27 (g := w.heap.size) (by simp)
  have HZ := Lib.hid (show (w.alloc (.cells #[.int .i16 s, .slice a n c] 27)).heap.size = w.heap.size + 1 by simp)
  go_enter Try.func44, Try.ntmps44
  go_wp2_with (with_reducible refine load_iframe rfl _ rfl w.heap.size rfl _ s a n c KF.here ?_)
  generalize (w.alloc (.cells #[.int .i16 s, .slice a n c] 27)) = W at KB KH KT KF HZ ⊢
  clear HZ
  refine (tuneOnCode_any s a n c P R q l e0 A B 0 none 0 0 (fun _ _ => 0) W hs hn HP.out HR.out KH.here hl HA.out HB.out KT.here (by omega) (by omega) (drumsNone W _)).mono ?_
  rw [okAll_none, ← tc0_def]
  rintro e w1 ⟨rfl, hb1⟩
  replace KB := KB.on hb1
  replace KH := KH.on hb1
  replace KT := KT.on hb1
  replace KF := KF.on hb1
  clear hb1
  have hx0 := tc0_def s n P R l A B
  obtain ⟨x, hx⟩ : ∃ x, tc0 s n P R l A B = x := ⟨_, rfl⟩
  rw [hx]
  by_cases h0 : x = 0
  · subst h0
    obtain ⟨hs2, hn2, _, hl2, hA2, hB2, _⟩ := to_facts (hx0 ▸ hx) (fun h => h)
    obtain ⟨m, rfl⟩ : ∃ m : Nat, s = m := ⟨s.toNat, by omega⟩
    have HA2 := Lib.hid hA2; have HTC := Lib.hid hx
    clear hA2 hB2 hx hx0
    have f0 := row_cell 0 KF.here
    have q9 := i64_id (x := (m : Int)) (by omega)
    go_wp2
    clear f0
    go_loopw [26] (fun i w' => Below w1.heap.size w1 w' ∧ ∃ p : Nat, p ≤ 48 ∧ i = .int .i64 p ∧ ∀ y, y < p * m → crB m n P R l A B y = false) (fun i _ => 48 - (intOf i).toNat)
    case atStart => exact ⟨Below.refl _ _, 0, by omega, rfl, fun y hy => by omega⟩
    case round =>
      obtain ⟨hb, p, hp, rfl, hno⟩ := hrel
      have HNO := Lib.hid hno; clear hno
      replace KB := KB.on hb
      replace KH := KH.on hb
      replace KT := KT.on hb
      replace KF := KF.on hb
      by_cases hltp : p < 48
      · have hltp' : (p : Int) < 48 := by omega
        go_wp2_with (with_reducible refine load_iframe rfl _ rfl w.heap.size rfl _ (m : Int) a n c KF.here ?_)
        refine (hammersFor_any (m : Int) a n c P R (p : Int) wr hn2.2 HP.out HR.out KH.here).mono ?_
        have h8 := hr_8 (P := P) (p := (p : Int)) HR.out n
        have hhc := hc_le (P := P) (p := (p : Int)) n
        have HAT := Lib.hid (fun (st : Nat) (h : st < m) => crB_at (n := n) (P := P) (R := R) (l := l) (A := A) (B := B) (p := p) h)
        have HCR := Lib.hid (fun (st : Nat) (h : st < m) => crR_at (n := n) (P := P) (R := R) (l := l) (A := A) (B := B) (p := p) HTC.out hltp h)
        obtain ⟨r, hr⟩ : ∃ r, hrN P R (p : Int) n = r := ⟨_, rfl⟩
        obtain ⟨z, hz⟩ : ∃ z, hcN P (p : Int) n = z := ⟨_, rfl⟩
        rw [hr] at h8 HAT HCR ⊢
        rw [hz] at hhc HAT HCR ⊢
        clear hr hz
        rintro e w2 ⟨rfl, hb2⟩
        replace KB := KB.on hb2
        replace KT := KT.on hb2
        replace KF := KF.on hb2
        have hb3 := hb.trans (hb2.mono hb.size)
        go_wp2
        go_loopw [36] (fun i w' => Below w2.heap.size w2 w' ∧ ∃ st : Nat, st ≤ m ∧ i = .int .i64 st ∧ ∀ y, y < p * m + st → crB m n P R l A B y = false) (fun i _ => m - (intOf i).toNat)
        case atStart => exact ⟨Below.refl _ _, 0, by omega, rfl, fun y hy => HNO.out y (by omega)⟩
        case round =>
          clear HNO
          obtain ⟨hb4, st, hst, rfl, hno⟩ := hrel
          have HNO := Lib.hid hno; clear hno
          replace KB := KB.on hb4
          replace KT := KT.on hb4
          have hb5 := hb3.trans (hb4.mono hb3.size)
          by_cases hlts : st < m
          · have hlts' : (st : Int) < m := by omega
            go_wp2
            obtain ⟨U, rfl⟩ : ∃ U, U = wr := ⟨wr, rfl⟩
            go_loopw [14, 41] (fun u i w' => Below U.heap.size U w' ∧ ∃ k : Nat, k ≤ l ∧ i = .int .i64 k ∧ u = .int .i64 (cnN m A B (p : Int) r st k : Nat)) (fun _ i _ => l - (intOf i).toNat)
            case atStart => exact ⟨Below.refl _ _, 0, by omega, rfl, by rw [cn_zero]; rfl⟩
            case round =>
              obtain ⟨hb6, k, hk, rfl, rfl⟩ := hrel
              have KT1 := KT.on hb6
              have hsz := hb6.size
              by_cases hltk : k < l
              · have hltk' : (k : Int) < l := by omega
                have hx := NoteAt.get KT1.here (show 0 < l by omega)
                obtain ⟨g, off, rfl, hg, hc⟩ := hx
                have c0 := (hc k hltk).1
                have c1 := (hc k hltk).2
                clear hc
                obtain ⟨x, hxA⟩ : ∃ x : Nat, A k = x := ⟨(A k).toNat, by have := HA2.out k hltk; omega⟩
                have hxm : x < m := by have := HA2.out k hltk; omega
                have HY1 := Lib.hid (ncB_yes (m := m) (A := A) (B := B) (p := (p : Int)) (r := r) (st := st) (i := k))
                have HN1 := Lib.hid (ncB_no (m := m) (A := A) (B := B) (p := (p : Int)) (r := r) (st := st) (i := k))
                rw [hxA] at c0 HY1
                rw [Int.toNat_natCast] at HY1
                clear hxA
                have hms := mod_st (a := (x : Int)) rfl hxm hlts
                have hlt9 := Nat.mod_lt (x + m - st) (show 0 < m by omega)
                obtain ⟨y, hy⟩ : ∃ y, (x + m - st) % m = y := ⟨_, rfl⟩
                rw [hy] at hms HY1 hlt9
                clear hy
                have hms1 := hms.2.1; have hms2 := hms.2.2
                clear hms
                have hBk := HB.out k
                have hcl := cn_le (m := m) (A := A) (B := B) (p := (p : Int)) (r := r) (st := st) k
                have HCY := Lib.hid (cn_yes (m := m) (A := A) (B := B) (p := (p : Int)) (r := r) (st := st) (k := k))
                have HCN := Lib.hid (cn_no (m := m) (A := A) (B := B) (p := (p : Int)) (r := r) (st := st) (k := k))
                obtain ⟨v, hv⟩ : ∃ v, cnN m A B (p : Int) r st k = v := ⟨_, rfl⟩
                rw [hv] at hcl HCY HCN ⊢
                clear hv
                have q0 := i64_id (x := (x : Int)) (by omega)
                have q1 := i64_id (x := B k) (by omega)
                have q2 := i64_id (x := (x : Int) - (st : Int)) (by omega)
                have q3 := i64_id (x := (x : Int) - (st : Int) + (m : Int)) (by omega)
                have q4 := i64_id (x := (v : Int) + 1) (by omega)
                have q5 := i64_id (x := (v : Int)) (by omega)
                have hm0 : ¬ m = 0 := by omega
                by_cases hBp : B k = p
                · by_cases hyr : (y : Int) < r
                  · have HX := Lib.hid (HCY.out (by rw [HY1.out hBp]; exact decide_eq_true hyr))
                    go_wp2_with (go_at_call 124; refine (bit_any _ _).mono ?_; rintro e w9 ⟨rfl, rfl⟩)
                    go_roundw
                    case rel => exact ⟨hb6.alloc hsz _, k + 1, by omega, by go_num, by rw [HX.out]; rfl⟩
                    case measure => simp [intOf]; omega
                  · have HX := Lib.hid (HCN.out (by rw [HY1.out hBp]; exact decide_eq_false hyr))
                    go_wp2_with (go_at_call 124; refine (bit_any _ _).mono ?_; rintro e w9 ⟨rfl, rfl⟩)
                    go_roundw
                    case rel => exact ⟨hb6.alloc hsz _, k + 1, by omega, by go_num, by rw [HX.out]⟩
                    case measure => simp [intOf]; omega
                · have HX := Lib.hid (HCN.out (HN1.out hBp))
                  go_wp2_with (go_at_call 124; refine (bit_any _ _).mono ?_; rintro e w9 ⟨rfl, rfl⟩)
                  go_roundw
                  case rel => exact ⟨hb6.alloc hsz _, k + 1, by omega, by go_num, by rw [HX.out]⟩
                  case measure => simp [intOf]; omega
              · have hkl : l = k := by omega
                subst hkl
                have hA9 := HAT.out st hlts
                have hC9 := HCR.out st hlts
                obtain ⟨v, hv⟩ : ∃ v, cnN m A B (p : Int) r st l = v := ⟨_, rfl⟩
                rw [hv] at hA9 hC9 ⊢
                have HAA := Lib.hid hA9; have HCC := Lib.hid hC9; clear hA9 hC9 hv
                have hb7 := hb4.trans (hb6.mono hb4.size)
                by_cases hzv : z < v
                · have hzv' : (z : Int) < v := by omega
                  have HX := Lib.hid (HCC.out hzv HNO.out)
                  have hbe := KB.at hb6
                  go_wp2
                  refine bodyPost_ret (v := .tuple #[.int .i64 (st : Int), .int .i64 (p : Int), .int .i64 (v : Int), .int .i64 0]) (by simp [results, Try.results44, go_sem]) rfl ⟨by rw [HX.out], hbe⟩
                · have hzv' : ¬ (z : Int) < v := by omega
                  have HX := Lib.hid (show crB m n P R l A B (p * m + st) = false by rw [HAA.out]; exact decide_eq_false hzv)
                  go_wp2
                  go_roundw
                  case rel => exact ⟨hb7, st + 1, by omega, by go_num, fun y hy => if e : y = p * m + st then e ▸ HX.out else HNO.out y (by omega)⟩
                  case measure => simp [intOf]; omega
          · have hsm : m = st := by omega
            subst hsm
            have hmul : (p + 1) * m = p * m + m := by rw [Nat.add_mul, Nat.one_mul]
            go_wp2
            go_roundw
            case rel => exact ⟨hb5, p + 1, by omega, by go_num, fun y hy => HNO.out y (by omega)⟩
            case measure => simp [intOf]; omega
      · have hp48 : p = 48 := by omega
        subst hp48
        have HX := Lib.hid (crR_none HTC.out HNO.out)
        go_wp2
        refine bodyPost_ret (v := .tuple #[.int .i64 0, .int .i64 0, .int .i64 0, .int .i64 6]) (by simp [results, Try.results44, go_sem]) rfl ⟨by rw [HX.out], KB.here⟩
  · have HX := Lib.hid (crR_bad hx h0)
    clear hx hx0
    go_wp2
    refine bodyPost_ret (v := .tuple #[.int .i64 0, .int .i64 0, .int .i64 0, .int .i64 x]) (by simp [results, Try.results44, go_sem]) rfl ⟨by rw [HX.out], KB.here⟩
set_option maxRecDepth 100000 in
set_option maxHeartbeats 2000000 in
theorem specCrowdedAt_any (s : Int) (a : Option Addr) (n c : Nat) (P R : Nat → Int) (q : Option Addr) (l e0 : Nat) (A B : Nat → Int) (w : World) (hs : -32768 ≤ s ∧ s ≤ 32767) (hn : n ≤ 1048576) (hP : I8 P) (hR : I8 R) (hh : HamAt w a n P R) (hl : l ≤ 1048576) (hA : I16 A) (hB : I8 B) (ht : NoteAt w q l A B) :
    Calls Try.prog 41 #[.agg #[.int .i16 s, .slice a n c], .slice q l e0] w fun e w' => e = .returned (.tuple #[.int .i64 (crR s n P R l A B).1, .int .i64 (crR s n P R l A B).2.1, .int .i64 (crR s n P R l A B).2.2.1, .int .i64 (crR s n P R l A B).2.2.2]) ∧ Below w.heap.size w w' := by
  have HP := Lib.hid hP; have HR := Lib.hid hR; have HA := Lib.hid hA; have HB := Lib.hid hB
  clear hP hR hA hB
  have KB := Kp.base w
  have KH := kp_ham hh; have KT := kp_note ht; clear hh ht
  replace KB := KB.alloc (.cells #[.int .i16 s, .slice a n c] 27)
  replace KH := KH.alloc (.cells #[.int .i16 s, .slice a n c] 27)
  replace KT := KT.alloc (.cells #[.int .i16 s, .slice a n c] 27)
  have KF := kp_new1 w #[.int .i16 s, .slice a n c] 27 (g := w.heap.size) (by simp)
  have HZ := Lib.hid (show (w.alloc (.cells #[.int .i16 s, .slice a n c] 27)).heap.size = w.heap.size + 1 by simp)
  go_enter Try.func41, Try.ntmps41
  go_wp2_with fail
  generalize (w.alloc (.cells #[.int .i16 s, .slice a n c] 27)) = W at KB KH KT KF HZ ⊢
  clear HZ
  refine (l03Fits_any w.heap.size s a n c P R q l e0 A B 0 W hs hn HP.out HR.out KH.here hl HA.out HB.out KT.here (by omega) KF.here).mono ?_
  rw [← tc0_def]
  rintro e w1 ⟨rfl, hb1⟩
  replace KB := KB.on hb1
  replace KH := KH.on hb1
  replace KT := KT.on hb1
  replace KF := KF.on hb1
  clear hb1
  have hx0 := tc0_def s n P R l A B
  obtain ⟨x, hx⟩ : ∃ x, tc0 s n P R l A B = x := ⟨_, rfl⟩
  rw [hx]
  by_cases h0 : x = 0
  · subst h0
    obtain ⟨hs2, hn2, _, hl2, hA2, hB2, _⟩ := to_facts (hx0 ▸ hx) (fun h => h)
    obtain ⟨m, rfl⟩ : ∃ m : Nat, s = m := ⟨s.toNat, by omega⟩
    have HA2 := Lib.hid hA2; have HTC := Lib.hid hx
    clear hA2 hB2 hx hx0
    have f0 := row_cell 0 KF.here
    have q9 := i64_id (x := (m : Int)) (by omega)
    go_wp2
    clear f0
    go_loopw [10] (fun i w' => Below w1.heap.size w1 w' ∧ ∃ p : Nat, p ≤ 48 ∧ i = .int .i64 p ∧ ∀ y, y < p * m → crB m n P R l A B y = false) (fun i _ => 48 - (intOf i).toNat)
    case atStart => exact ⟨Below.refl _ _, 0, by omega, rfl, fun y hy => by omega⟩
    case round =>
      obtain ⟨hb, p, hp, rfl, hno⟩ := hrel
      have HNO := Lib.hid hno; clear hno
      replace KB := KB.on hb
      replace KH := KH.on hb
      replace KT := KT.on hb
      replace KF := KF.on hb
      by_cases hltp : p < 48
      · have hltp' : (p : Int) < 48 := by omega
        go_wp2
        obtain ⟨W2, rfl⟩ : ∃ U, U = wr := ⟨wr, rfl⟩
        go_loopw [11, 12, 13] (fun u v i w' => Below W2.heap.size W2 w' ∧ ∃ j : Nat, j ≤ n ∧ i = .int .i64 j ∧ u = .int .i64 (hcN P (p : Int) j : Nat) ∧ v = .int .i64 (hrN P R (p : Int) j)) (fun _ _ i _ => n - (intOf i).toNat)
        case atStart => exact ⟨Below.refl _ _, 0, by omega, rfl, by rw [(hc_zero (P := P) (R := R) (p := (p : Int))).1]; rfl, by rw [(hc_zero (P := P) (R := R) (p := (p : Int))).2]⟩
        case round =>
          obtain ⟨hbh, j, hj, rfl, rfl, rfl⟩ := hrel
          have KH1 := KH.on hbh; have KF1 := KF.on hbh
          have f1 := row_cell 1 KF1.here
          have hszh := hbh.size
          by_cases hlt : j < n
          · have hj' : (j : Int) < n := by omega
            have hx := HamAt.get KH1.here (show 0 < n by omega)
            obtain ⟨g, off, rfl, hg, hc⟩ := hx
            have c0 := (hc j hlt).1
            have c1 := (hc j hlt).2
            clear hc
            have hPj := HP.out j; have hRj := HR.out j
            have q0 := i64_id (x := P j) (by omega)
            have q1 := i64_id (x := R j) (by omega)
            have hle := hc_le (P := P) (p := (p : Int)) j
            have h8 := hr_8 (P := P) (p := (p : Int)) HR.out j
            have HNO2 := Lib.hid (hc_no (P := P) (R := R) (p := (p : Int)) (j := j))
            have HLO := Lib.hid (hc_low (P := P) (R := R) (p := (p : Int)) (j := j))
            have HKE := Lib.hid (hc_keep (P := P) (R := R) (p := (p : Int)) (j := j))
            obtain ⟨x, hx⟩ : ∃ x, hcN P (p : Int) j = x := ⟨_, rfl⟩
            obtain ⟨y, hy⟩ : ∃ y, hrN P R (p : Int) j = y := ⟨_, rfl⟩
            rw [hx] at HNO2 HLO HKE hle ⊢
            rw [hy] at HNO2 HLO HKE h8 ⊢
            clear hx hy
            have q2 := i64_id (x := (x : Int) + 1) (by omega)
            by_cases hpp : P j = p
            · by_cases hl : x = 0 ∨ R j < y
              · have HX := Lib.hid (HLO.out hpp hl)
                by_cases hx0 : x = 0
                · subst hx0
                  go_wp2
                  go_roundw
                  case rel => exact ⟨hbh, j + 1, by omega, by go_num, by rw [HX.out.1]; rfl, by rw [HX.out.2]⟩
                  case measure => simp [intOf]; omega
                · have hx0' : ¬ (x : Int) = 0 := by omega
                  have hl' : R j < y := by omega
                  go_wp2
                  go_roundw
                  case rel => exact ⟨hbh, j + 1, by omega, by go_num, by rw [HX.out.1]; rfl, by rw [HX.out.2]⟩
                  case measure => simp [intOf]; omega
              · have HX := Lib.hid (HKE.out hpp hl)
                have hx0' : ¬ (x : Int) = 0 := by omega
                have hl' : ¬ R j < y := by omega
                go_wp2
                go_roundw
                case rel => exact ⟨hbh, j + 1, by omega, by go_num, by rw [HX.out.1]; rfl, by rw [HX.out.2]⟩
                case measure => simp [intOf]; omega
            · have HX := Lib.hid (HNO2.out hpp)
              go_wp2
              go_roundw
              case rel => exact ⟨hbh, j + 1, by omega, by go_num, by rw [HX.out.1], by rw [HX.out.2]⟩
              case measure => simp [intOf]; omega
          · have hjn : j = n := by omega
            subst hjn
            clear KH1
            replace KB := KB.on hbh
            replace KT := KT.on hbh
            replace KF := KF.on hbh
            have h8 := hr_8 (P := P) (p := (p : Int)) HR.out j
            have hhc := hc_le (P := P) (p := (p : Int)) j
            have HAT := Lib.hid (fun (st : Nat) (h : st < m) => crB_at (n := j) (P := P) (R := R) (l := l) (A := A) (B := B) (p := p) h)
            have HCR := Lib.hid (fun (st : Nat) (h : st < m) => crR_at (n := j) (P := P) (R := R) (l := l) (A := A) (B := B) (p := p) HTC.out hltp h)
            obtain ⟨r, hr⟩ : ∃ r, hrN P R (p : Int) j = r := ⟨_, rfl⟩
            obtain ⟨z, hz⟩ : ∃ z, hcN P (p : Int) j = z := ⟨_, rfl⟩
            rw [hr] at h8 HAT HCR ⊢
            rw [hz] at hhc HAT HCR ⊢
            clear hr hz
            have hb3 := hb.trans (hbh.mono hb.size)
            obtain ⟨w2, rfl⟩ : ∃ U, U = wr := ⟨wr, rfl⟩
            go_wp2
            go_loopw [15] (fun i w' => Below w2.heap.size w2 w' ∧ ∃ st : Nat, st ≤ m ∧ i = .int .i64 st ∧ ∀ y, y < p * m + st → crB m j P R l A B y = false) (fun i _ => m - (intOf i).toNat)
            case atStart => exact ⟨Below.refl _ _, 0, by omega, rfl, fun y hy => HNO.out y (by omega)⟩
            case round =>
              clear HNO
              obtain ⟨hb4, st, hst, rfl, hno⟩ := hrel
              have HNO := Lib.hid hno; clear hno
              replace KB := KB.on hb4
              replace KT := KT.on hb4
              have hb5 := hb3.trans (hb4.mono hb3.size)
              by_cases hlts : st < m
              · have hlts' : (st : Int) < m := by omega
                go_wp2
                obtain ⟨U, rfl⟩ : ∃ U, U = wr := ⟨wr, rfl⟩
                go_loopw [16, 17] (fun u i w' => Below U.heap.size U w' ∧ ∃ k : Nat, k ≤ l ∧ i = .int .i64 k ∧ u = .int .i64 (cnN m A B (p : Int) r st k : Nat)) (fun _ i _ => l - (intOf i).toNat)
                case atStart => exact ⟨Below.refl _ _, 0, by omega, rfl, by rw [cn_zero]; rfl⟩
                case round =>
                  obtain ⟨hb6, k, hk, rfl, rfl⟩ := hrel
                  have KT1 := KT.on hb6
                  have hsz := hb6.size
                  by_cases hltk : k < l
                  · have hltk' : (k : Int) < l := by omega
                    have hx := NoteAt.get KT1.here (show 0 < l by omega)
                    obtain ⟨g, off, rfl, hg, hc⟩ := hx
                    have c0 := (hc k hltk).1
                    have c1 := (hc k hltk).2
                    clear hc
                    obtain ⟨x, hxA⟩ : ∃ x : Nat, A k = x := ⟨(A k).toNat, by have := HA2.out k hltk; omega⟩
                    have hxm : x < m := by have := HA2.out k hltk; omega
                    have HY1 := Lib.hid (ncB_yes (m := m) (A := A) (B := B) (p := (p : Int)) (r := r) (st := st) (i := k))
                    have HN1 := Lib.hid (ncB_no (m := m) (A := A) (B := B) (p := (p : Int)) (r := r) (st := st) (i := k))
                    rw [hxA] at c0 HY1
                    rw [Int.toNat_natCast] at HY1
                    clear hxA
                    have hms := mod_st (a := (x : Int)) rfl hxm hlts
                    have hlt9 := Nat.mod_lt (x + m - st) (show 0 < m by omega)
                    obtain ⟨y, hy⟩ : ∃ y, (x + m - st) % m = y := ⟨_, rfl⟩
                    rw [hy] at hms HY1 hlt9
                    clear hy
                    have hms1 := hms.2.1; have hms2 := hms.2.2
                    clear hms
                    have hBk := HB.out k
                    have hcl := cn_le (m := m) (A := A) (B := B) (p := (p : Int)) (r := r) (st := st) k
                    have HCY := Lib.hid (cn_yes (m := m) (A := A) (B := B) (p := (p : Int)) (r := r) (st := st) (k := k))
                    have HCN := Lib.hid (cn_no (m := m) (A := A) (B := B) (p := (p : Int)) (r := r) (st := st) (k := k))
                    obtain ⟨v, hv⟩ : ∃ v, cnN m A B (p : Int) r st k = v := ⟨_, rfl⟩
                    rw [hv] at hcl HCY HCN ⊢
                    clear hv
                    have q0 := i64_id (x := (x : Int)) (by omega)
                    have q1 := i64_id (x := B k) (by omega)
                    have q2 := i64_id (x := (x : Int) - (st : Int)) (by omega)
                    have q3 := i64_id (x := (x : Int) - (st : Int) + (m : Int)) (by omega)
                    have q4 := i64_id (x := (v : Int) + 1) (by omega)
                    have q5 := i64_id (x := (v : Int)) (by omega)
                    have hm0 : ¬ m = 0 := by omega
                    by_cases hBp : B k = p
                    · by_cases hyr : (y : Int) < r
                      · have HX := Lib.hid (HCY.out (by rw [HY1.out hBp]; exact decide_eq_true hyr))
                        go_wp2
                        go_roundw
                        case rel => exact ⟨hb6, k + 1, by omega, by go_num, by rw [HX.out]; rfl⟩
                        case measure => simp [intOf]; omega
                      · have HX := Lib.hid (HCN.out (by rw [HY1.out hBp]; exact decide_eq_false hyr))
                        go_wp2
                        go_roundw
                        case rel => exact ⟨hb6, k + 1, by omega, by go_num, by rw [HX.out]⟩
                        case measure => simp [intOf]; omega
                    · have HX := Lib.hid (HCN.out (HN1.out hBp))
                      go_wp2
                      go_roundw
                      case rel => exact ⟨hb6, k + 1, by omega, by go_num, by rw [HX.out]⟩
                      case measure => simp [intOf]; omega
                  · have hkl : l = k := by omega
                    subst hkl
                    have hA9 := HAT.out st hlts
                    have hC9 := HCR.out st hlts
                    obtain ⟨v, hv⟩ : ∃ v, cnN m A B (p : Int) r st l = v := ⟨_, rfl⟩
                    rw [hv] at hA9 hC9 ⊢
                    have HAA := Lib.hid hA9; have HCC := Lib.hid hC9; clear hA9 hC9 hv
                    have hb7 := hb4.trans (hb6.mono hb4.size)
                    by_cases hzv : z < v
                    · have hzv' : (z : Int) < v := by omega
                      have HX := Lib.hid (HCC.out hzv HNO.out)
                      have hbe := KB.at hb6
                      go_wp2
                      refine bodyPost_ret (v := .tuple #[.int .i64 (st : Int), .int .i64 (p : Int), .int .i64 (v : Int), .int .i64 0]) (by simp [results, Try.results41, go_sem]) rfl ⟨by rw [HX.out], hbe⟩
                    · have hzv' : ¬ (z : Int) < v := by omega
                      have HX := Lib.hid (show crB m j P R l A B (p * m + st) = false by rw [HAA.out]; exact decide_eq_false hzv)
                      go_wp2
                      go_roundw
                      case rel => exact ⟨hb7, st + 1, by omega, by go_num, fun y hy => if e : y = p * m + st then e ▸ HX.out else HNO.out y (by omega)⟩
                      case measure => simp [intOf]; omega
              · have hsm : m = st := by omega
                subst hsm
                have hmul : (p + 1) * m = p * m + m := by rw [Nat.add_mul, Nat.one_mul]
                go_wp2
                go_roundw
                case rel => exact ⟨hb5, p + 1, by omega, by go_num, fun y hy => HNO.out y (by omega)⟩
                case measure => simp [intOf]; omega
      · have hp48 : p = 48 := by omega
        subst hp48
        have HX := Lib.hid (crR_none HTC.out HNO.out)
        go_wp2
        refine bodyPost_ret (v := .tuple #[.int .i64 0, .int .i64 0, .int .i64 0, .int .i64 6]) (by simp [results, Try.results41, go_sem]) rfl ⟨by rw [HX.out], KB.here⟩
  · have HX := Lib.hid (crR_bad hx h0)
    clear hx hx0
    go_wp2
    refine bodyPost_ret (v := .tuple #[.int .i64 0, .int .i64 0, .int .i64 0, .int .i64 x]) (by simp [results, Try.results41, go_sem]) rfl ⟨by rw [HX.out], KB.here⟩
end Go.Proofs.Ytkefjgbcpoggiaa
