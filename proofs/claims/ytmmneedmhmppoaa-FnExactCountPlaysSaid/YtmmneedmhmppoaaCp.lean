/- CountPlays and SilentQuarters, by the reference and by the program. No conditions. -/
import Derived.Test.YtmmneedmhmppoaaOwnI
import Derived.Test.YtmmneedmhmppoaaSt
import Derived.Test.YtmmneedmhmppoaaMk2
import Derived.Test.YtmmneedmhmppoaaHeld2
import Derived.Outline
namespace Go.Proofs.Ytmmneedmhmppoaa
open Go.RowKit
set_option linter.unusedVariables false
set_option linter.unusedSimpArgs false

/-- the code of a frame and a programme -/
def prC (s : Int) (n : Nat) (P R : Nat → Int) (m : Nat) (F S O : Nat → Int) : Int := if vProg s n P R m F S O then 0 else 1
/-- the silent ones of the first k quarters -/
def sqL (O : Nat → Int) : Nat → List Int
  | 0 => []
  | k + 1 => if O k < 0 then sqL O k ++ [(k : Int)] else sqL O k
theorem sqL_zero (O : Nat → Int) : sqL O 0 = [] := rfl
theorem sqL_yes {O : Nat → Int} {k : Nat} (h : O k < 0) : sqL O (k + 1) = sqL O k ++ [(k : Int)] := if_pos h
theorem sqL_no {O : Nat → Int} {k : Nat} (h : ¬ O k < 0) : sqL O (k + 1) = sqL O k := if_neg h
theorem sqL_len (O : Nat → Int) (k : Nat) : (sqL O k).length ≤ k := by
  induction k with
  | zero => simp [sqL]
  | succ k ih =>
    by_cases h : O k < 0
    · rw [sqL_yes h, List.length_append]; simp; omega
    · rw [sqL_no h]; omega
attribute [irreducible] sqL
/-- how often the first k quarters play the section i -/
def cpN (O : Nat → Int) : Nat → Nat → Int
  | 0, _ => 0
  | k + 1, i => if O k = (i : Int) then cpN O k i + 1 else cpN O k i
theorem cpN_zero (O : Nat → Int) (i : Nat) : cpN O 0 i = 0 := rfl
theorem cpN_yes {O : Nat → Int} {k i : Nat} (h : O k = (i : Int)) : cpN O (k + 1) i = cpN O k i + 1 := if_pos h
theorem cpN_no {O : Nat → Int} {k i : Nat} (h : ¬ O k = (i : Int)) : cpN O (k + 1) i = cpN O k i := if_neg h
theorem cpN_bound (O : Nat → Int) (k i : Nat) : 0 ≤ cpN O k i ∧ cpN O k i ≤ k := by
  induction k with
  | zero => rw [cpN_zero]; omega
  | succ k ih =>
    by_cases h : O k = (i : Int)
    · rw [cpN_yes h]; omega
    · rw [cpN_no h]; omega
attribute [irreducible] cpN
def cpL (O : Nat → Int) (m : Nat) : List Int := (List.range m).map (cpN O 48)
theorem cpL_len (O : Nat → Int) (m : Nat) : (cpL O m).length = m := by simp [cpL]
theorem cpL_get (O : Nat → Int) (m i : Nat) (h : i < m) : (cpL O m).getD i 0 = cpN O 48 i := by simp [cpL, List.getD, h]
attribute [irreducible] cpL
def sqV (s : Int) (n : Nat) (P R : Nat → Int) (m : Nat) (F S O : Nat → Int) : List Int := if vProg s n P R m F S O then sqL O 48 else []
def cpV (s : Int) (n : Nat) (P R : Nat → Int) (m : Nat) (F S O : Nat → Int) : List Int := if vProg s n P R m F S O then cpL O m else []
section
variable {s : Int} {n : Nat} {P R : Nat → Int} {m : Nat} {F S O : Nat → Int}
theorem pr_no (h : vProg s n P R m F S O = false) : sqV s n P R m F S O = [] ∧ cpV s n P R m F S O = [] ∧ prC s n P R m F S O = 1 := by unfold sqV cpV prC; rw [h]; exact ⟨rfl, rfl, rfl⟩
theorem pr_yes (h : vProg s n P R m F S O = true) : sqV s n P R m F S O = sqL O 48 ∧ cpV s n P R m F S O = cpL O m ∧ prC s n P R m F S O = 0 := by unfold sqV cpV prC; rw [h]; exact ⟨rfl, rfl, rfl⟩
theorem sqV_len : (sqV s n P R m F S O).length ≤ 1000000 := by
  cases h : vProg s n P R m F S O
  · rw [(pr_no h).1]; simp
  · rw [(pr_yes h).1]; have := sqL_len O 48; omega
theorem cpV_len : (cpV s n P R m F S O).length ≤ 1000000 := by
  cases h : vProg s n P R m F S O
  · rw [(pr_no h).2.1]; simp
  · rw [(pr_yes h).2.1, cpL_len]; have := (vProg_facts h).2.1; omega
end
attribute [irreducible] prC sqV cpV
/-- one more -/
theorem cp_step {O : Nat → Int} {k x m : Nat} (h : O k = (x : Int)) : ∀ i, i < m → updV (fun i => Value.int .i64 (cpN O k i)) x (.int .i64 (cpN O k x + 1)) i = .int .i64 (cpN O (k + 1) i) := by
  intro i _
  by_cases e : i = x
  · subst e; rw [updV_same, cpN_yes h]
  · rw [updV_other _ _ _ e, cpN_no (by omega)]
theorem cp_skip {O : Nat → Int} {k m : Nat} (h : ¬ 0 ≤ O k) : ∀ i, i < m → (fun i => Value.int .i64 (cpN O k i)) i = .int .i64 (cpN O (k + 1) i) := by
  intro i _
  simp only
  rw [cpN_no (by omega)]
set_option maxRecDepth 100000 in
set_option maxHeartbeats 1000000 in
theorem specCountPlays_any (s : Int) (a : Option Addr) (n c : Nat) (P R : Nat → Int) (b : Option Addr) (m d : Nat) (F S O : Nat → Int) (w : World) (hs : -32768 ≤ s ∧ s ≤ 32767) (hn : n ≤ 1048576) (hP : I8 P) (hR : I8 R) (hh : HamAt w a n P R) (hm : m ≤ 1048576) (hF : I16 F) (hS : I16 S) (hO : I8 O) (hl : SecAt w b m F S) :
    Calls Try.prog 53 #[.agg #[.int .i16 s, .slice a n c], .agg (pc b m d O)] w fun e w' => ∃ v, e = .returned (.tuple #[v, .int .i64 (prC s n P R m F S O)]) ∧ Below w.heap.size w w' ∧ OwnI w' w.heap.size v (cpV s n P R m F S O) := by
  have HP := Lib.hid hP; have HR := Lib.hid hR; have HF := Lib.hid hF; have HS := Lib.hid hS; have HO := Lib.hid hO
  clear hP hR hF hS hO
  have KB := Kp.base w
  have KH := kp_ham hh; have KL := kp_sec hl; clear hh hl
  replace KB := KB.alloc (.cells #[.int .i16 s, .slice a n c] 43)
  replace KH := KH.alloc (.cells #[.int .i16 s, .slice a n c] 43)
  replace KL := KL.alloc (.cells #[.int .i16 s, .slice a n c] 43)
  have KF := kp_new1 w #[.int .i16 s, .slice a n c] 43 (g := w.heap.size) (by simp)
  replace KB := KB.alloc (.cells (pc b m d O) 81)
  replace KH := KH.alloc (.cells (pc b m d O) 81)
  replace KL := KL.alloc (.cells (pc b m d O) 81)
  replace KF := KF.alloc (.cells (pc b m d O) 81)
  have KP := kp_new1 (w.alloc (.cells #[.int .i16 s, .slice a n c] 43)) (pc b m d O) 81 (g := w.heap.size + 1) (by simp)
  have HZ := Lib.hid (show ((w.alloc (.cells #[.int .i16 s, .slice a n c] 43)).alloc (.cells (pc b m d O) 81)).heap.size = w.heap.size + 1 + 1 by simp)
  go_enter Try.func53, Try.ntmps53
  go_wp2_with fail
  generalize ((w.alloc (.cells #[.int .i16 s, .slice a n c] 43)).alloc (.cells (pc b m d O) 81)) = W at KB KH KL KF KP HZ ⊢
  clear HZ
  refine (l04Ok_any w.heap.size (w.heap.size + 1) s a n c P R b m d F S O W hs hn HP.out HR.out KF.here KH.here hm HF.out HS.out HO.out KP.here KL.here).mono ?_
  rintro e w1 ⟨rfl, hb1⟩
  replace KB := KB.on hb1
  replace KL := KL.on hb1
  replace KF := KF.on hb1
  replace KP := KP.on hb1
  clear hb1
  cases hv : vProg s n P R m F S O
  · have hnv := Lib.hid (pr_no hv)
    clear hv
    have KN := OwnI.nil w1 w.heap.size KB.here.size
    go_wp2
    go_ret2
    exact ⟨_, by rw [hnv.out.2.2]; rfl, (KB.alloc _).here, by rw [hnv.out.2.1]; exact KN⟩
  · have hnv := Lib.hid (pr_yes hv)
    obtain ⟨hs2, hm2, hsec, hord⟩ := vProg_facts hv
    have HORD := Lib.hid hord; clear hord hsec hv
    have p0 := row_cell 0 KP.here
    rw [pc_get0] at p0
    have hmk := run_make_i64 w1 m (by omega)
    have hbs := KB.here.size
    have HB0 := Lib.hid (show BlkAt (w1.alloc (.cells (cf m fun _ => .int .i64 0) 2)) 2 w1.heap.size m (fun i => .int .i64 (cpN O 0 i)) from (BlkAt.new w1 _ m _).congr fun i _ => by rw [cpN_zero])
    go_wp2
    clear hmk p0
    go_loopw [7] (fun i w' => Below w1.heap.size w1 w' ∧ ∃ k : Nat, k ≤ 48 ∧ i = .int .i64 k ∧ BlkAt w' 2 w1.heap.size m (fun i => .int .i64 (cpN O k i))) (fun i _ => 48 - (intOf i).toNat)
    case atStart => exact ⟨(Below.refl _ _).alloc (Nat.le_refl _) _, 0, by omega, rfl, HB0.out⟩
    case round =>
      clear HB0
      obtain ⟨hb, k, hk, rfl, hB⟩ := hrel
      have HB := Lib.hid hB; clear hB
      replace KB := KB.on hb
      replace KL := KL.on hb
      replace KF := KF.on hb
      replace KP := KP.on hb
      by_cases hlt : k < 48
      · have hk' : (k : Int) < 48 := by omega
        have ho := HO.out k
        have c0 : wr.cell? ⟨w.heap.size + 1, 1 + k, none⟩ = some (.int .i8 (O k)) := by rw [row_cell (1 + k) KP.here, pc_get _ _ _ _ k hlt]
        by_cases h0 : 0 ≤ O k
        · have ho2 := HORD.out k hlt
          obtain ⟨x, hx⟩ : ∃ x : Nat, O k = (x : Int) := ⟨(O k).toNat, by omega⟩
          have HX := Lib.hid hx
          rw [hx] at c0 ho2 ho h0
          clear hx
          have hxm : x < m := by omega
          have hxm' : (x : Int) < m := by omega
          have c1 := HB.out.cell x hxm
          have f1 := HB.out.frozen x
          have hbd := cpN_bound O k x
          go_wp2
          go_roundw
          case rel => exact ⟨hb.setCell (Nat.le_refl _) _, k + 1, by omega, by go_num, (HB.out.setCell x _ hxm).congr (cp_step HX.out)⟩
          case measure => simp [intOf]; omega
        · go_wp2
          go_roundw
          case rel => exact ⟨hb, k + 1, by omega, by go_num, HB.out.congr (cp_skip h0)⟩
          case measure => simp [intOf]; omega
      · have hk48 : k = 48 := by omega
        subst hk48
        go_wp2
        go_ret2
        exact ⟨_, by rw [hnv.out.2.2]; rfl, KB.here, by rw [hnv.out.2.1]; exact OwnI.blk HB.out hbs (by unfold maxLen; omega) (cpL_len O m) fun i hi => by rw [cpL_get O m i hi]⟩
set_option maxRecDepth 100000 in
set_option maxHeartbeats 1000000 in
theorem implCountPlays_any (s : Int) (a : Option Addr) (n c : Nat) (P R : Nat → Int) (b : Option Addr) (m d : Nat) (F S O : Nat → Int) (w : World) (hs : -32768 ≤ s ∧ s ≤ 32767) (hn : n ≤ 1048576) (hP : I8 P) (hR : I8 R) (hh : HamAt w a n P R) (hm : m ≤ 1048576) (hF : I16 F) (hS : I16 S) (hO : I8 O) (hl : SecAt w b m F S) :
    Calls Try.prog 55 #[.agg #[.int .i16 s, .slice a n c], .agg (pc b m d O)] w fun e w' => ∃ v, e = .returned (.tuple #[v, .int .i64 (prC s n P R m F S O)]) ∧ Below w.heap.size w w' ∧ OwnI w' w.heap.size v (cpV s n P R m F S O) := by
  have HP := Lib.hid hP; have HR := Lib.hid hR; have HF := Lib.hid hF; have HS := Lib.hid hS; have HO := Lib.hid hO
  clear hP hR hF hS hO
  have KB := Kp.base w
  have KH := kp_ham hh; have KL := kp_sec hl; clear hh hl
  replace KB := KB.alloc (.cells #[.int .i16 s, .slice a n c] 43)
  replace KH := KH.alloc (.cells #[.int .i16 s, .slice a n c] 43)
  replace KL := KL.alloc (.cells #[.int .i16 s, .slice a n c] 43)
  have KF := kp_new1 w #[.int .i16 s, .slice a n c] 43 (g := w.heap.size) (by simp)
  replace KB := KB.alloc (.cells (pc b m d O) 81)
  replace KH := KH.alloc (.cells (pc b m d O) 81)
  replace KL := KL.alloc (.cells (pc b m d O) 81)
  replace KF := KF.alloc (.cells (pc b m d O) 81)
  have KP := kp_new1 (w.alloc (.cells #[.int .i16 s, .slice a n c] 43)) (pc b m d O) 81 (g := w.heap.size + 1) (by simp)
  have HZ := Lib.hid (show ((w.alloc (.cells #[.int .i16 s, .slice a n c] 43)).alloc (.cells (pc b m d O) 81)).heap.size = w.heap.size + 1 + 1 by simp)
  go_enter Try.func55, Try.ntmps55
  go_wp2_with (first | (with_reducible refine load_iframe rfl _ rfl w.heap.size rfl _ s a n c KF.here ?_) | (with_reducible refine load_iprog rfl _ rfl (w.heap.size + 1) rfl _ b m d O KP.here ?_))
  generalize ((w.alloc (.cells #[.int .i16 s, .slice a n c] 43)).alloc (.cells (pc b m d O) 81)) = W at KB KH KL KF KP HZ ⊢
  clear HZ
  refine (programmeCode_any s a n c P R b m d F S O none 0 0 (fun _ => 0) none 0 0 (fun _ => 0) W hs hn HP.out HR.out KH.here hm HF.out HS.out HO.out KL.here (by omega) (IntAt.nil _ _) (by omega) (IntAt.nil _ _)).mono ?_
  rw [allIn_zero, allIn_zero, Bool.and_self]
  rintro e w1 ⟨rfl, hb1⟩
  replace KB := KB.on hb1
  replace KL := KL.on hb1
  replace KF := KF.on hb1
  replace KP := KP.on hb1
  clear hb1
  cases hv : vProg s n P R m F S O
  · rw [pcode_f]
    have hnv := Lib.hid (pr_no hv)
    clear hv
    go_wp2
    go_ret2
    exact ⟨_, by rw [hnv.out.2.2]; rfl, KB.here, by rw [hnv.out.2.1]; exact OwnI.none0 _ _⟩
  · rw [pcode_tt]
    have hnv := Lib.hid (pr_yes hv)
    obtain ⟨hs2, hm2, hsec, hord⟩ := vProg_facts hv
    have HORD := Lib.hid hord; clear hord hsec hv
    have p0 := row_cell 0 KP.here
    rw [pc_get0] at p0
    have hmk := run_make_i64 w1 m (by omega)
    have hbs := KB.here.size
    have HB0 := Lib.hid (show BlkAt (w1.alloc (.cells (cf m fun _ => .int .i64 0) 2)) 2 w1.heap.size m (fun i => .int .i64 (cpN O 0 i)) from (BlkAt.new w1 _ m _).congr fun i _ => by rw [cpN_zero])
    go_wp2_with (with_reducible refine load_ord_mid rfl _ rfl (w.heap.size + 1) rfl _ b m d O (KP.alloc _).here ?_)
    clear hmk p0
    go_loopw [22] (fun i w' => Below w1.heap.size w1 w' ∧ ∃ k : Nat, k ≤ 48 ∧ i = .int .i64 k ∧ BlkAt w' 2 w1.heap.size m (fun i => .int .i64 (cpN O k i))) (fun i _ => 48 - (intOf i).toNat)
    case atStart => exact ⟨(Below.refl _ _).alloc (Nat.le_refl _) _, 0, by omega, rfl, HB0.out⟩
    case round =>
      clear HB0
      obtain ⟨hb, k, hk, rfl, hB⟩ := hrel
      have HB := Lib.hid hB; clear hB
      replace KB := KB.on hb
      replace KL := KL.on hb
      replace KF := KF.on hb
      replace KP := KP.on hb
      by_cases hlt : k < 48
      · have hk' : (k : Int) < 48 := by omega
        have ho := HO.out k
        have hix := index_ord O k hlt
        by_cases h0 : 0 ≤ O k
        · have ho2 := HORD.out k hlt
          obtain ⟨x, hx⟩ : ∃ x : Nat, O k = (x : Int) := ⟨(O k).toNat, by omega⟩
          have HX := Lib.hid hx
          rw [hx] at ho2 ho h0
          simp only [hx] at hix
          clear hx
          have hxm : x < m := by omega
          have hxm' : (x : Int) < m := by omega
          have c1 := HB.out.cell x hxm
          have f1 := HB.out.frozen x
          have hbd := cpN_bound O k x
          go_wp2
          go_roundw
          case rel => exact ⟨hb.setCell (Nat.le_refl _) _, k + 1, by omega, by go_num, (HB.out.setCell x _ hxm).congr (cp_step HX.out)⟩
          case measure => simp [intOf]; omega
        · go_wp2
          go_roundw
          case rel => exact ⟨hb, k + 1, by omega, by go_num, HB.out.congr (cp_skip h0)⟩
          case measure => simp [intOf]; omega
      · have hk48 : k = 48 := by omega
        subst hk48
        go_wp2
        go_ret2
        exact ⟨_, by rw [hnv.out.2.2]; rfl, KB.here, by rw [hnv.out.2.1]; exact OwnI.blk HB.out hbs (by unfold maxLen; omega) (cpL_len O m) fun i hi => by rw [cpL_get O m i hi]⟩
set_option maxRecDepth 100000 in
set_option maxHeartbeats 1000000 in
theorem implSilentQuarters_any (s : Int) (a : Option Addr) (n c : Nat) (P R : Nat → Int) (b : Option Addr) (m d : Nat) (F S O : Nat → Int) (w : World) (hs : -32768 ≤ s ∧ s ≤ 32767) (hn : n ≤ 1048576) (hP : I8 P) (hR : I8 R) (hh : HamAt w a n P R) (hm : m ≤ 1048576) (hF : I16 F) (hS : I16 S) (hO : I8 O) (hl : SecAt w b m F S) :
    Calls Try.prog 59 #[.agg #[.int .i16 s, .slice a n c], .agg (pc b m d O)] w fun e w' => ∃ v, e = .returned (.tuple #[v, .int .i64 (prC s n P R m F S O)]) ∧ Below w.heap.size w w' ∧ OwnI w' w.heap.size v (sqV s n P R m F S O) := by
  have HP := Lib.hid hP; have HR := Lib.hid hR; have HF := Lib.hid hF; have HS := Lib.hid hS; have HO := Lib.hid hO
  clear hP hR hF hS hO
  have KB := Kp.base w
  have KH := kp_ham hh; have KL := kp_sec hl; clear hh hl
  replace KB := KB.alloc (.cells #[.int .i16 s, .slice a n c] 43)
  replace KH := KH.alloc (.cells #[.int .i16 s, .slice a n c] 43)
  replace KL := KL.alloc (.cells #[.int .i16 s, .slice a n c] 43)
  have KF := kp_new1 w #[.int .i16 s, .slice a n c] 43 (g := w.heap.size) (by simp)
  replace KB := KB.alloc (.cells (pc b m d O) 81)
  replace KH := KH.alloc (.cells (pc b m d O) 81)
  replace KL := KL.alloc (.cells (pc b m d O) 81)
  replace KF := KF.alloc (.cells (pc b m d O) 81)
  have KP := kp_new1 (w.alloc (.cells #[.int .i16 s, .slice a n c] 43)) (pc b m d O) 81 (g := w.heap.size + 1) (by simp)
  have HZ := Lib.hid (show ((w.alloc (.cells #[.int .i16 s, .slice a n c] 43)).alloc (.cells (pc b m d O) 81)).heap.size = w.heap.size + 1 + 1 by simp)
  go_enter Try.func59, Try.ntmps59
  go_wp2_with (first | (with_reducible refine load_iframe rfl _ rfl w.heap.size rfl _ s a n c KF.here ?_) | (with_reducible refine load_iprog rfl _ rfl (w.heap.size + 1) rfl _ b m d O KP.here ?_))
  generalize ((w.alloc (.cells #[.int .i16 s, .slice a n c] 43)).alloc (.cells (pc b m d O) 81)) = W at KB KH KL KF KP HZ ⊢
  clear HZ
  refine (programmeCode_any s a n c P R b m d F S O none 0 0 (fun _ => 0) none 0 0 (fun _ => 0) W hs hn HP.out HR.out KH.here hm HF.out HS.out HO.out KL.here (by omega) (IntAt.nil _ _) (by omega) (IntAt.nil _ _)).mono ?_
  rw [allIn_zero, allIn_zero, Bool.and_self]
  rintro e w1 ⟨rfl, hb1⟩
  replace KB := KB.on hb1
  replace KL := KL.on hb1
  replace KF := KF.on hb1
  replace KP := KP.on hb1
  clear hb1
  cases hv : vProg s n P R m F S O
  · rw [pcode_f]
    have hnv := Lib.hid (pr_no hv)
    clear hv
    go_wp2
    go_ret2
    exact ⟨_, by rw [hnv.out.2.2]; rfl, KB.here, by rw [hnv.out.1]; exact OwnI.none0 _ _⟩
  · rw [pcode_tt]
    have hnv := Lib.hid (pr_yes hv)
    clear hv
    have hbs := KB.here.size
    have hn0 := OwnI.nil w1 w1.heap.size (Nat.le_refl _)
    rw [← sqL_zero O] at hn0
    have HN0 := Lib.hid hn0; clear hn0
    go_wp2_with (with_reducible refine load_ord_mid rfl _ rfl (w.heap.size + 1) rfl _ b m d O (KP.alloc _).here ?_)
    go_loopw [7, 19] (fun v i w' => Below w1.heap.size w1 w' ∧ ∃ k : Nat, k ≤ 48 ∧ i = .int .i64 k ∧ OwnI w' w1.heap.size v (sqL O k)) (fun _ i _ => 48 - (intOf i).toNat)
    case atStart => exact ⟨(Below.refl _ _).alloc (Nat.le_refl _) _, 0, by omega, rfl, HN0.out⟩
    case round =>
      clear HN0
      obtain ⟨hb, k, hk, rfl, hown⟩ := hrel
      have HOWN := Lib.hid hown; clear hown
      replace KB := KB.on hb
      replace KL := KL.on hb
      replace KF := KF.on hb
      replace KP := KP.on hb
      by_cases hlt : k < 48
      · have hk' : (k : Int) < 48 := by omega
        have ho := HO.out k
        have hsz := hb.size
        have hix := index_ord O k hlt
        by_cases h0 : O k < 0
        · have hy := Lib.hid (sqL_yes h0)
          have hlen := sqL_len O k
          go_wp2_with (at_builtin; refine append_int rfl _ _ rfl w1.heap.size _ (sqL O k) rfl (HOWN.out.alloc _) wr.heap.size (k : Int) rfl (by simp) (by omega) (by simp; omega) ?_; intro v2 w2 hown2 hb2; have HO2 := Lib.hid hown2; have HB2 := Lib.hid hb2; clear hown2 hb2)
          go_roundw
          case rel => exact ⟨(hb.alloc hsz _).trans HB2.out, k + 1, by omega, by go_num, by rw [hy.out]; exact HO2.out⟩
          case measure => simp [intOf]; omega
        · have hy := Lib.hid (sqL_no h0)
          go_wp2
          go_roundw
          case rel => exact ⟨hb, k + 1, by omega, by go_num, by rw [hy.out]; exact HOWN.out⟩
          case measure => simp [intOf]; omega
      · have hk48 : k = 48 := by omega
        subst hk48
        go_wp2
        go_ret2
        exact ⟨_, by rw [hnv.out.2.2]; rfl, KB.here, by rw [hnv.out.1]; exact HOWN.out.mono hbs⟩
set_option maxRecDepth 100000 in
set_option maxHeartbeats 1000000 in
theorem specSilentQuarters_any (s : Int) (a : Option Addr) (n c : Nat) (P R : Nat → Int) (b : Option Addr) (m d : Nat) (F S O : Nat → Int) (w : World) (hs : -32768 ≤ s ∧ s ≤ 32767) (hn : n ≤ 1048576) (hP : I8 P) (hR : I8 R) (hh : HamAt w a n P R) (hm : m ≤ 1048576) (hF : I16 F) (hS : I16 S) (hO : I8 O) (hl : SecAt w b m F S) :
    Calls Try.prog 58 #[.agg #[.int .i16 s, .slice a n c], .agg (pc b m d O)] w fun e w' => ∃ v, e = .returned (.tuple #[v, .int .i64 (prC s n P R m F S O)]) ∧ Below w.heap.size w w' ∧ OwnI w' w.heap.size v (sqV s n P R m F S O) := by
  have HP := Lib.hid hP; have HR := Lib.hid hR; have HF := Lib.hid hF; have HS := Lib.hid hS; have HO := Lib.hid hO
  clear hP hR hF hS hO
  have KB := Kp.base w
  have KH := kp_ham hh; have KL := kp_sec hl; clear hh hl
  replace KB := KB.alloc (.cells #[.int .i16 s, .slice a n c] 43)
  replace KH := KH.alloc (.cells #[.int .i16 s, .slice a n c] 43)
  replace KL := KL.alloc (.cells #[.int .i16 s, .slice a n c] 43)
  have KF := kp_new1 w #[.int .i16 s, .slice a n c] 43 (g := w.heap.size) (by simp)
  replace KB := KB.alloc (.cells (pc b m d O) 81)
  replace KH := KH.alloc (.cells (pc b m d O) 81)
  replace KL := KL.alloc (.cells (pc b m d O) 81)
  replace KF := KF.alloc (.cells (pc b m d O) 81)
  have KP := kp_new1 (w.alloc (.cells #[.int .i16 s, .slice a n c] 43)) (pc b m d O) 81 (g := w.heap.size + 1) (by simp)
  have HZ := Lib.hid (show ((w.alloc (.cells #[.int .i16 s, .slice a n c] 43)).alloc (.cells (pc b m d O) 81)).heap.size = w.heap.size + 1 + 1 by simp)
  go_enter Try.func58, Try.ntmps58
  go_wp2_with fail
  generalize ((w.alloc (.cells #[.int .i16 s, .slice a n c] 43)).alloc (.cells (pc b m d O) 81)) = W at KB KH KL KF KP HZ ⊢
  clear HZ
  refine (l04Ok_any w.heap.size (w.heap.size + 1) s a n c P R b m d F S O W hs hn HP.out HR.out KF.here KH.here hm HF.out HS.out HO.out KP.here KL.here).mono ?_
  rintro e w1 ⟨rfl, hb1⟩
  replace KB := KB.on hb1
  replace KL := KL.on hb1
  replace KF := KF.on hb1
  replace KP := KP.on hb1
  clear hb1
  cases hv : vProg s n P R m F S O
  · have hnv := Lib.hid (pr_no hv)
    clear hv
    have KN := OwnI.nil w1 w.heap.size KB.here.size
    go_wp2
    go_ret2
    exact ⟨_, by rw [hnv.out.2.2]; rfl, (KB.alloc _).here, by rw [hnv.out.1]; exact KN⟩
  · have hnv := Lib.hid (pr_yes hv)
    clear hv
    have hbs := KB.here.size
    have hn0 := OwnI.nil w1 w1.heap.size (Nat.le_refl _)
    rw [← sqL_zero O] at hn0
    have HN0 := Lib.hid hn0; clear hn0
    go_wp2
    go_loopw [6, 7] (fun v i w' => Below w1.heap.size w1 w' ∧ ∃ k : Nat, k ≤ 48 ∧ i = .int .i64 k ∧ OwnI w' w1.heap.size v (sqL O k)) (fun _ i _ => 48 - (intOf i).toNat)
    case atStart => exact ⟨(Below.refl _ _).alloc (Nat.le_refl _) _, 0, by omega, rfl, HN0.out⟩
    case round =>
      clear HN0
      obtain ⟨hb, k, hk, rfl, hown⟩ := hrel
      have HOWN := Lib.hid hown; clear hown
      replace KB := KB.on hb
      replace KL := KL.on hb
      replace KF := KF.on hb
      replace KP := KP.on hb
      by_cases hlt : k < 48
      · have hk' : (k : Int) < 48 := by omega
        have ho := HO.out k
        have hsz := hb.size
        have c0 : wr.cell? ⟨w.heap.size + 1, 1 + k, none⟩ = some (.int .i8 (O k)) := by rw [row_cell (1 + k) KP.here, pc_get _ _ _ _ k hlt]
        by_cases h0 : O k < 0
        · have hy := Lib.hid (sqL_yes h0)
          have hlen := sqL_len O k
          go_wp2_with (at_builtin; refine append_int rfl _ _ rfl w1.heap.size _ (sqL O k) rfl (HOWN.out.alloc _) wr.heap.size (k : Int) rfl (by simp) (by omega) (by simp; omega) ?_; intro v2 w2 hown2 hb2; have HO2 := Lib.hid hown2; have HB2 := Lib.hid hb2; clear hown2 hb2)
          go_roundw
          case rel => exact ⟨(hb.alloc hsz _).trans HB2.out, k + 1, by omega, by go_num, by rw [hy.out]; exact HO2.out⟩
          case measure => simp [intOf]; omega
        · have hy := Lib.hid (sqL_no h0)
          go_wp2
          go_roundw
          case rel => exact ⟨hb, k + 1, by omega, by go_num, by rw [hy.out]; exact HOWN.out⟩
          case measure => simp [intOf]; omega
      · have hk48 : k = 48 := by omega
        subst hk48
        go_wp2
        go_ret2
        exact ⟨_, by rw [hnv.out.2.2]; rfl, KB.here, by rw [hnv.out.1]; exact HOWN.out.mono hbs⟩
end Go.Proofs.Ytmmneedmhmppoaa
