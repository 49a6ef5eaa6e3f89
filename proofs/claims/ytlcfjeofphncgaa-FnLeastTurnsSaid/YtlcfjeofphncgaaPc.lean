/- Slices of numbers; the codes of a frame, a programme, quarters and sections. No conditions. -/
import Derived.Test.YtlcfjeofphncgaaVp
import Derived.Outline
namespace Go.Proofs.Ytlcfjeofphncgaa
open Go.RowKit
set_option linter.unusedVariables false
set_option linter.unusedSimpArgs false

/-- a slice at the address a reads as n numbers -/
def IntAt (w : World) (a : Option Addr) (n : Nat) (Z : Nat → Int) : Prop :=
  0 < n → ∃ g off, a = some ⟨g, off, none⟩ ∧ g < w.heap.size ∧ ∀ i, i < n → w.cell? ⟨g, off + i, none⟩ = some (.int .i64 (Z i))
theorem IntAt.get {w : World} {a : Option Addr} {n : Nat} {Z : Nat → Int} (h : IntAt w a n Z) (hn : 0 < n) : ∃ g off, a = some ⟨g, off, none⟩ ∧ g < w.heap.size ∧ ∀ i, i < n → w.cell? ⟨g, off + i, none⟩ = some (.int .i64 (Z i)) := h hn
theorem IntAt.below {w w' : World} {a : Option Addr} {n : Nat} {Z : Nat → Int} (h : IntAt w a n Z) (hb : Below w.heap.size w w') : IntAt w' a n Z := by
  intro hn
  obtain ⟨g, off, rfl, hg, hc⟩ := h hn
  refine ⟨g, off, rfl, Nat.lt_of_lt_of_le hg hb.size, fun i hi => ?_⟩
  rw [hb.cell (p := ⟨g, off + i, none⟩) hg]
  exact hc i hi
theorem IntAt.nil (w : World) (Z : Nat → Int) : IntAt w none 0 Z := fun h => absurd h (by omega)
theorem IntAt.one (w : World) (x : Int) (T : Nat) (Z : Nat → Int) (hz : Z 0 = x) : IntAt (w.alloc (.cells #[.int .i64 x] T)) (some ⟨w.heap.size, 0, none⟩) 1 Z := fun _ =>
  ⟨w.heap.size, 0, rfl, by simp, fun i hi => by
    obtain rfl : i = 0 := by omega
    rw [row_cell (0 + 0) (heap_alloc_new w _), hz]; rfl⟩
theorem kp_int {w : World} {a : Option Addr} {n : Nat} {Z : Nat → Int} (h : IntAt w a n Z) : Kp w (fun V => IntAt V a n Z) := Kp.mk fun _ hb => h.below hb
/-- all of n numbers lie in bounds -/
def allIn (Z : Nat → Int) (n : Nat) (lo hi : Int) : Bool := !anyB (fun k => !inB (Z k) lo hi) n
theorem allIn_zero (Z : Nat → Int) (lo hi : Int) : allIn Z 0 lo hi = true := by unfold allIn; rw [anyB_false fun k hk => by omega]; rfl
theorem allIn_one (Z : Nat → Int) (lo hi : Int) : allIn Z 1 lo hi = inB (Z 0) lo hi := by
  unfold allIn
  cases h : inB (Z 0) lo hi
  · rw [anyB_iff.2 ⟨0, by omega, by rw [h]; rfl⟩]; rfl
  · have e : anyB (fun k => !inB (Z k) lo hi) 1 = false := anyB_false fun k hk => by
      have h0 : k = 0 := by omega
      subst h0
      rw [h]; rfl
    rw [e]; rfl
theorem anyB_not (Z : Nat → Int) (n : Nat) (lo hi : Int) : anyB (fun k => !inB (Z k) lo hi) n = !allIn Z n lo hi := by unfold allIn; simp
attribute [irreducible] allIn
/-- the code of a programme (valid or not), and whether all numbers are in their bounds -/
def pcode (ok b : Bool) : Int := if ok then (if b then 0 else 2) else 1
theorem pcode_f (b : Bool) : pcode false b = 1 := rfl
theorem pcode_tf : pcode true false = 2 := rfl
theorem pcode_tt : pcode true true = 0 := rfl
theorem pcode_zero {ok b : Bool} (h : pcode ok b = 0) : ok = true ∧ b = true := by
  cases ok <;> cases b <;> simp [pcode] at h ⊢
attribute [irreducible] pcode
theorem isQuarter_any (x : Int) (w : World) :
    Calls Try.prog 80 #[.int .i64 x] w fun e w' => e = .returned (.bool (inB x 0 47)) ∧ w = w' := by
  go_enter Try.func80, Try.ntmps80
  go_wp2_with (go_at_call 60; refine (within_any _ _ _ _).mono ?_; rintro e w2 ⟨rfl, rfl⟩)
  go_ret
  exact ⟨rfl, rfl⟩
theorem programmeCode1_any (x : Int) (w : World) :
    Calls Try.prog 79 #[.int .i64 x] w fun e w' => e = .returned (.bool (!inB x 0 47)) ∧ Below w.heap.size w w' := by
  go_enter Try.func79, Try.ntmps79
  go_wp2_with (go_at_call 80; refine (isQuarter_any _ _).mono ?_; rintro e w2 ⟨rfl, rfl⟩)
  go_ret
  exact ⟨rfl, Below.refl _ _⟩
set_option maxRecDepth 100000 in
theorem programmeCode2_any (gp : Nat) (b : Option Addr) (m d : Nat) (O : Nat → Int) (x : Int) (w : World) (hm : m ≤ 1048576) (hp : w.heap[gp]? = some (.cells (pc b m d O) 51 (0, 0))) :
    Calls Try.prog 81 #[.int .i64 x, .pointer (some ⟨gp, 0, none⟩)] w fun e w' => e = .returned (.bool (!inB x 0 ((m : Int) - 1))) ∧ Below w.heap.size w w' := by
  have p0 := row_cell 0 hp
  rw [pc_get0] at p0
  have PP := Lib.hid hp; clear hp
  have q2 := i64_id (x := (m : Int) - 1) (by omega)
  go_enter Try.func81, Try.ntmps81
  go_wp2_with (first | (go_at_call 60; refine (within_any _ _ _ _).mono ?_; rintro e w2 ⟨rfl, rfl⟩) | (go_at_call 82; refine (sizeSection_any _ _ _ _ (by omega)).mono ?_; rintro e w2 ⟨rfl, rfl⟩))
  go_ret
  exact ⟨rfl, Below.refl _ _⟩
set_option maxRecDepth 100000 in
theorem indexFuncQ1 (a : Option Addr) (n c : Nat) (Z : Nat → Int) (w : World) (hn : n ≤ 1000000000) (hh : IntAt w a n Z) :
    Calls Try.prog 100 #[.slice a n c, .func (.func 79) #[] #[]] w fun e w' => ∃ r, e = .returned (.int .i64 r) ∧ IdxOf (fun k => !inB (Z k) 0 47) n r ∧ Below w.heap.size w w' := by
  have KH := kp_int hh; clear hh
  go_enter Try.func100, Try.ntmps100
  go_wp2
  go_loopw [8] (fun i w' => Below w.heap.size w w' ∧ ∃ k : Nat, k ≤ n ∧ i = .int .i64 k ∧ ∀ j : Nat, j < k → (!inB (Z j) 0 47) = false) (fun i _ => n - (intOf i).toNat)
  case atStart => exact ⟨Below.refl _ _, 0, by omega, rfl, fun j hj => by omega⟩
  case round =>
    obtain ⟨hb, k, hk, rfl, hK⟩ := hrel
    have HK := Lib.hid hK; clear hK
    replace KH := KH.on hb
    by_cases hlt : k < n
    · have hx := IntAt.get KH.here (show 0 < n by omega)
      obtain ⟨g, off, rfl, hg, hc⟩ := hx
      have c0 := hc k hlt
      clear hc
      have hk' : (k : Int) < n := by omega
      cases hp : (!inB (Z k) 0 47)
      · have HPP := Lib.hid hp
        go_wp2_with (go_at_call 79; refine (programmeCode1_any _ _).mono ?_; rw [hp]; rintro e w1 ⟨rfl, hb1⟩)
        go_roundw
        case rel => exact ⟨hb.trans (hb1.mono hb.size), k + 1, by omega, by go_num, fun j hj => if e : j = k then e ▸ HPP.out else HK.out j (by omega)⟩
        case measure => simp [intOf]; omega
      · have HPP := Lib.hid hp
        go_wp2_with (go_at_call 79; refine (programmeCode1_any _ _).mono ?_; rw [hp]; rintro e w1 ⟨rfl, hb1⟩)
        go_ret
        exact ⟨_, rfl, .inr ⟨k, rfl, hlt, HPP.out, HK.out⟩, hb.trans (hb1.mono hb.size)⟩
    · go_wp2
      go_ret
      exact ⟨_, rfl, .inl ⟨rfl, fun j hj => HK.out j (by omega)⟩, hb⟩
set_option maxRecDepth 100000 in
theorem containsFuncQ1 (a : Option Addr) (n c : Nat) (Z : Nat → Int) (w : World) (hn : n ≤ 1000000000) (hh : IntAt w a n Z) :
    Calls Try.prog 78 #[.slice a n c, .func (.func 79) #[] #[]] w fun e w' => e = .returned (.bool (anyB (fun k => !inB (Z k) 0 47) n)) ∧ Below w.heap.size w w' := by
  have HH := Lib.hid hh; clear hh
  go_enter Try.func78, Try.ntmps78
  go_wp2_with (go_at_call 100; refine (indexFuncQ1 a n c Z _ hn HH.out).mono ?_; rintro e w1 ⟨r, rfl, hr, hb⟩)
  go_ret
  exact ⟨ret_bool hr.any, hb⟩
set_option maxRecDepth 100000 in
theorem indexFuncQ2 (a : Option Addr) (n c : Nat) (Z : Nat → Int) (gp : Nat) (b : Option Addr) (m d : Nat) (O : Nat → Int) (w : World) (hn : n ≤ 1000000000) (hh : IntAt w a n Z) (hm : m ≤ 1048576) (hp : w.heap[gp]? = some (.cells (pc b m d O) 51 (0, 0))) :
    Calls Try.prog 100 #[.slice a n c, .func (.func 81) #[] #[.pointer (some ⟨gp, 0, none⟩)]] w fun e w' => ∃ r, e = .returned (.int .i64 r) ∧ IdxOf (fun k => !inB (Z k) 0 ((m : Int) - 1)) n r ∧ Below w.heap.size w w' := by
  have KH := kp_int hh; clear hh
  have KP := kp_row hp; clear hp
  go_enter Try.func100, Try.ntmps100
  go_wp2
  go_loopw [8] (fun i w' => Below w.heap.size w w' ∧ ∃ k : Nat, k ≤ n ∧ i = .int .i64 k ∧ ∀ j : Nat, j < k → (!inB (Z j) 0 ((m : Int) - 1)) = false) (fun i _ => n - (intOf i).toNat)
  case atStart => exact ⟨Below.refl _ _, 0, by omega, rfl, fun j hj => by omega⟩
  case round =>
    obtain ⟨hb, k, hk, rfl, hK⟩ := hrel
    have HK := Lib.hid hK; clear hK
    replace KH := KH.on hb
    replace KP := KP.on hb
    by_cases hlt : k < n
    · have hx := IntAt.get KH.here (show 0 < n by omega)
      obtain ⟨g, off, rfl, hg, hc⟩ := hx
      have c0 := hc k hlt
      clear hc
      have hk' : (k : Int) < n := by omega
      cases hp : (!inB (Z k) 0 ((m : Int) - 1))
      · have HPP := Lib.hid hp
        go_wp2_with (go_at_call 81; refine (programmeCode2_any gp b m d O _ _ hm KP.here).mono ?_; rw [hp]; rintro e w1 ⟨rfl, hb1⟩)
        go_roundw
        case rel => exact ⟨hb.trans (hb1.mono hb.size), k + 1, by omega, by go_num, fun j hj => if e : j = k then e ▸ HPP.out else HK.out j (by omega)⟩
        case measure => simp [intOf]; omega
      · have HPP := Lib.hid hp
        go_wp2_with (go_at_call 81; refine (programmeCode2_any gp b m d O _ _ hm KP.here).mono ?_; rw [hp]; rintro e w1 ⟨rfl, hb1⟩)
        go_ret
        exact ⟨_, rfl, .inr ⟨k, rfl, hlt, HPP.out, HK.out⟩, hb.trans (hb1.mono hb.size)⟩
    · go_wp2
      go_ret
      exact ⟨_, rfl, .inl ⟨rfl, fun j hj => HK.out j (by omega)⟩, hb⟩
set_option maxRecDepth 100000 in
theorem containsFuncQ2 (a : Option Addr) (n c : Nat) (Z : Nat → Int) (gp : Nat) (b : Option Addr) (m d : Nat) (O : Nat → Int) (w : World) (hn : n ≤ 1000000000) (hh : IntAt w a n Z) (hm : m ≤ 1048576) (hp : w.heap[gp]? = some (.cells (pc b m d O) 51 (0, 0))) :
    Calls Try.prog 78 #[.slice a n c, .func (.func 81) #[] #[.pointer (some ⟨gp, 0, none⟩)]] w fun e w' => e = .returned (.bool (anyB (fun k => !inB (Z k) 0 ((m : Int) - 1)) n)) ∧ Below w.heap.size w w' := by
  have HH := Lib.hid hh; clear hh
  have HP := Lib.hid hp; clear hp
  go_enter Try.func78, Try.ntmps78
  go_wp2_with (go_at_call 100; refine (indexFuncQ2 a n c Z gp b m d O _ hn HH.out hm HP.out).mono ?_; rintro e w1 ⟨r, rfl, hr, hb⟩)
  go_ret
  exact ⟨ret_bool hr.any, hb⟩
set_option maxRecDepth 100000 in
theorem programmeCode_any (s : Int) (a : Option Addr) (n c : Nat) (P R : Nat → Int) (b : Option Addr) (m d : Nat) (F S O : Nat → Int) (qa : Option Addr) (qn qc : Nat) (QZ : Nat → Int) (sa : Option Addr) (sn sc : Nat) (SZ : Nat → Int) (w : World)
    (hs : -32768 ≤ s ∧ s ≤ 32767) (hn : n ≤ 1048576) (hP : I8 P) (hR : I8 R) (hh : HamAt w a n P R)
    (hm : m ≤ 1048576) (hF : I16 F) (hS : I16 S) (hO : I8 O) (hl : SecAt w b m F S) (hqn : qn ≤ 1048576) (hq : IntAt w qa qn QZ) (hsn : sn ≤ 1048576) (hsz : IntAt w sa sn SZ) :
    Calls Try.prog 53 #[.agg #[.int .i16 s, .slice a n c], .agg (pc b m d O), .slice qa qn qc, .slice sa sn sc] w fun e w' => e = .returned (.int .i64 (pcode (vProg s n P R m F S O) (allIn QZ qn 0 47 && allIn SZ sn 0 ((m : Int) - 1)))) ∧ Below w.heap.size w w' := by
  have HP := Lib.hid hP; have HR := Lib.hid hR; have HF := Lib.hid hF; have HS := Lib.hid hS; have HO := Lib.hid hO
  clear hP hR hF hS hO
  have KB := Kp.base w
  have KH := kp_ham hh; have KL := kp_sec hl; have KQ := kp_int hq; have KS := kp_int hsz; clear hh hl hq hsz
  replace KB := KB.alloc (.cells #[.int .i16 s, .slice a n c] 27)
  replace KH := KH.alloc (.cells #[.int .i16 s, .slice a n c] 27)
  replace KL := KL.alloc (.cells #[.int .i16 s, .slice a n c] 27)
  replace KQ := KQ.alloc (.cells #[.int .i16 s, .slice a n c] 27)
  replace KS := KS.alloc (.cells #[.int .i16 s, .slice a n c] 27)
  have KF := kp_new1 w #[.int .i16 s, .slice a n c] 27 (g := w.heap.size) (by simp)
  replace KB := KB.alloc (.cells (pc b m d O) 51)
  replace KH := KH.alloc (.cells (pc b m d O) 51)
  replace KL := KL.alloc (.cells (pc b m d O) 51)
  replace KQ := KQ.alloc (.cells (pc b m d O) 51)
  replace KS := KS.alloc (.cells (pc b m d O) 51)
  replace KF := KF.alloc (.cells (pc b m d O) 51)
  have KP := kp_new1 (w.alloc (.cells #[.int .i16 s, .slice a n c] 27)) (pc b m d O) 51 (g := w.heap.size + 1) (by simp)
  have HZ := Lib.hid (show ((w.alloc (.cells #[.int .i16 s, .slice a n c] 27)).alloc (.cells (pc b m d O) 51)).heap.size = w.heap.size + 1 + 1 by simp)
  go_enter Try.func53, Try.ntmps53
  go_wp2_with (first | (with_reducible refine load_iframe rfl _ rfl w.heap.size rfl _ s a n c KF.here ?_) | (with_reducible refine load_iprog rfl _ rfl (w.heap.size + 1) rfl _ b m d O KP.here ?_))
  generalize ((w.alloc (.cells #[.int .i16 s, .slice a n c] 27)).alloc (.cells (pc b m d O) 51)) = W at KB KH KL KQ KS KF KP HZ ⊢
  clear HZ
  refine (validProgramme_any s a n c P R b m d F S O W hs hn HP.out HR.out KH.here hm HF.out HS.out HO.out KL.here).mono ?_
  rintro e w1 ⟨rfl, hb1⟩
  replace KB := KB.on hb1
  replace KQ := KQ.on hb1
  replace KS := KS.on hb1
  replace KP := KP.on hb1
  clear hb1
  cases hv : vProg s n P R m F S O
  · have HV := Lib.hid hv; clear hv
    go_wp2
    go_ret
    exact ⟨ret_int (by rw [HV.out, pcode_f]), KB.here⟩
  · have HV := Lib.hid hv; clear hv
    go_wp2_with fail
    refine (containsFuncQ1 qa qn qc QZ w1 (by omega) KQ.here).mono ?_
    rw [anyB_not]
    rintro e w2 ⟨rfl, hb2⟩
    replace KB := KB.on hb2
    replace KS := KS.on hb2
    replace KP := KP.on hb2
    clear hb2
    cases hq : allIn QZ qn 0 47
    · have HQ := Lib.hid hq; clear hq
      go_wp2_with (go_at_call 54; refine (unless_any _ _ _).mono ?_; rintro e w3 ⟨rfl, rfl⟩)
      go_ret
      exact ⟨ret_int (by rw [HV.out, HQ.out, Bool.false_and, pcode_tf, unl_false]), KB.here⟩
    · have HQ := Lib.hid hq; clear hq
      go_wp2_with fail
      refine (containsFuncQ2 sa sn sc SZ (w.heap.size + 1) b m d O w2 (by omega) KS.here hm KP.here).mono ?_
      rw [anyB_not]
      rintro e w3 ⟨rfl, hb3⟩
      replace KB := KB.on hb3
      clear hb3
      cases hq : allIn SZ sn 0 ((m : Int) - 1)
      · have HQ2 := Lib.hid hq; clear hq
        go_wp2_with (go_at_call 54; refine (unless_any _ _ _).mono ?_; rintro e w4 ⟨rfl, rfl⟩)
        go_ret
        exact ⟨ret_int (by rw [HV.out, HQ.out, HQ2.out, Bool.and_false, pcode_tf, unl_false]), KB.here⟩
      · have HQ2 := Lib.hid hq; clear hq
        go_wp2_with (go_at_call 54; refine (unless_any _ _ _).mono ?_; rintro e w4 ⟨rfl, rfl⟩)
        go_ret
        exact ⟨ret_int (by rw [HV.out, HQ.out, HQ2.out, Bool.and_true, pcode_tt, unl_true]), KB.here⟩
end Go.Proofs.Ytlcfjeofphncgaa
