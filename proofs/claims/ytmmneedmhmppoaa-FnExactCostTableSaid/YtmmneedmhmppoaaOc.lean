/- OrderCost and CheckOrder, by the reference and by the program. No conditions. -/
import Derived.Test.YtmmneedmhmppoaaOrd
import Derived.Test.YtmmneedmhmppoaaInt
import Derived.Outline
namespace Go.Proofs.Ytmmneedmhmppoaa
open Go.RowKit
set_option linter.unusedVariables false
set_option linter.unusedSimpArgs false

theorem lcode_zero_m {ok : Bool} {m : Nat} (h : lcode ok m = 0) : m ≤ 8 := by
  have := (lcode_zero h).2
  omega
theorem firstL_oc (ok : Bool) (m : Nat) (o : Bool) : firstL [lcode ok m, unl o 4] = if lcode ok m = 0 then unl o 4 else lcode ok m := by
  by_cases h : lcode ok m = 0
  · rw [firstL_zero _ h, if_pos h]
    cases o
    · rw [firstL_at _ (by rw [unl_false]; simp)]
    · rw [firstL_zero _ (unl_true 4), firstL_nil, unl_true]
  · rw [firstL_at _ h, if_neg h]
noncomputable def ocC (s : Int) (n : Nat) (P R : Nat → Int) (m : Nat) (L : Nat → Nat → Nat) (l : Nat) (Z : Nat → Int) : Int := if lcode (okAll s n P R m L) m = 0 then unl (ordB Z l m) 4 else lcode (okAll s n P R m L) m
noncomputable def ocV (s : Int) (n : Nat) (P R : Nat → Int) (m : Nat) (L : Nat → Nat → Nat) (l : Nat) (Z : Nat → Int) : Int := if lcode (okAll s n P R m L) m = 0 then (if ordB Z l m then oSum (cN L) Z (l - 1) else 0) else 0
noncomputable def ckV (s : Int) (n : Nat) (P R : Nat → Int) (m : Nat) (L : Nat → Nat → Nat) (l : Nat) (Z : Nat → Int) (x : Int) : Bool := if lcode (okAll s n P R m L) m = 0 then (if ordB Z l m then decide (oSum (cN L) Z (l - 1) ≤ x) else false) else false
section
variable {s : Int} {n : Nat} {P R : Nat → Int} {m : Nat} {L : Nat → Nat → Nat} {l : Nat} {Z : Nat → Int}
theorem oc_bad {x : Int} (hx : lcode (okAll s n P R m L) m = x) (h : ¬ x = 0) : ocV s n P R m L l Z = 0 ∧ ocC s n P R m L l Z = x := by unfold ocV ocC; rw [hx, if_neg h, if_neg h]; exact ⟨rfl, rfl⟩
theorem oc_no (h : lcode (okAll s n P R m L) m = 0) (ho : ordB Z l m = false) : ocV s n P R m L l Z = 0 ∧ ocC s n P R m L l Z = 4 := by unfold ocV ocC; rw [if_pos h, if_pos h, ho, unl_false]; exact ⟨rfl, rfl⟩
theorem oc_yes (h : lcode (okAll s n P R m L) m = 0) (ho : ordB Z l m = true) : ocV s n P R m L l Z = oSum (cN L) Z (l - 1) ∧ ocC s n P R m L l Z = 0 := by unfold ocV ocC; rw [if_pos h, if_pos h, ho, unl_true]; exact ⟨rfl, rfl⟩
theorem ocC_first : firstL [lcode (okAll s n P R m L) m, unl (ordB Z l m) 4] = ocC s n P R m L l Z := by rw [firstL_oc]; rfl
theorem ck_bad {x : Int} (hx : lcode (okAll s n P R m L) m = x) (h : ¬ x = 0) (y : Int) : ckV s n P R m L l Z y = false := by unfold ckV; rw [hx, if_neg h]
theorem ck_no (h : lcode (okAll s n P R m L) m = 0) (ho : ordB Z l m = false) (y : Int) : ckV s n P R m L l Z y = false := by unfold ckV; rw [if_pos h, ho]; rfl
theorem ck_yes (h : lcode (okAll s n P R m L) m = 0) (ho : ordB Z l m = true) (y : Int) : ckV s n P R m L l Z y = decide (oSum (cN L) Z (l - 1) ≤ y) := by unfold ckV; rw [if_pos h, ho]; rfl
end
attribute [irreducible] ocC ocV ckV
set_option maxRecDepth 100000 in
set_option maxHeartbeats 400000 in
theorem implOrderCost_any (s : Int) (a : Option Addr) (n c : Nat) (P R : Nat → Int) (b : Option Addr) (m d : Nat) (L : Nat → Nat → Nat) (q : Option Addr) (l x0 : Nat) (Z : Nat → Int) (w : World) (hs : -32768 ≤ s ∧ s ≤ 32767) (hn : n ≤ 1048576) (hP : I8 P) (hR : I8 R) (hh : HamAt w a n P R) (hm : m ≤ 1048576) (hL : L32 L) (hl : DrumsAt w b m L) (hq : l ≤ 1048576) (hZ : I64 Z) (hz : IntAt w q l Z) :
    Calls Try.prog 66 #[.agg #[.int .i16 s, .slice a n c], .slice b m d, .slice q l x0] w fun e w' => e = .returned (.tuple #[.int .i64 (ocV s n P R m L l Z), .int .i64 (ocC s n P R m L l Z)]) ∧ Below w.heap.size w w' := by
  have HP := Lib.hid hP; have HR := Lib.hid hR; have HL := Lib.hid hL
  clear hP hR hL
  have KB := Kp.base w
  have KH := kp_ham hh; have KL := kp_drums hl; have KZ := kp_int hz; clear hh hl hz
  replace KB := KB.alloc (.cells #[.int .i16 s, .slice a n c] 43)
  replace KH := KH.alloc (.cells #[.int .i16 s, .slice a n c] 43)
  replace KL := KL.alloc (.cells #[.int .i16 s, .slice a n c] 43)
  replace KZ := KZ.alloc (.cells #[.int .i16 s, .slice a n c] 43)
  have KF := kp_new1 w #[.int .i16 s, .slice a n c] 43 (g := w.heap.size) (by simp)
  have HZ := Lib.hid (show (w.alloc (.cells #[.int .i16 s, .slice a n c] 43)).heap.size = w.heap.size + 1 by simp)
  go_enter Try.func66, Try.ntmps66
  go_wp2_with (with_reducible refine load_iframe rfl _ rfl w.heap.size rfl _ s a n c KF.here ?_)
  generalize (w.alloc (.cells #[.int .i16 s, .slice a n c] 43)) = W at KB KH KL KZ KF HZ ⊢
  clear HZ
  refine (listCode_any s a n c P R b m d L W hs hn HP.out HR.out KH.here hm KL.here).mono ?_
  rintro e w1 ⟨rfl, hb1⟩
  replace KB := KB.on hb1
  replace KL := KL.on hb1
  replace KZ := KZ.on hb1
  clear hb1
  obtain ⟨x, hx⟩ : ∃ x, lcode (okAll s n P R m L) m = x := ⟨_, rfl⟩
  have hF := ocC_first (s := s) (n := n) (P := P) (R := R) (m := m) (L := L) (l := l) (Z := Z)
  rw [hx] at hF ⊢
  obtain ⟨o, ho⟩ : ∃ o, ordB Z l m = o := ⟨_, rfl⟩
  rw [ho] at hF
  have HF := Lib.hid hF; have HX := Lib.hid hx; have HO := Lib.hid ho; clear hF hx ho
  have KZ1 := KZ.here
  go_wp2_with (first | (go_at_call 127; refine (isOrder_any q _ x0 _ Z _ hq hm KZ1).mono ?_; rw [HO.out]; rintro e w2 ⟨rfl, rfl⟩) | (go_at_call 103; refine (unless_any _ _ _).mono ?_; rintro e w2 ⟨rfl, rfl⟩))
  refine (firstOf_any [x, unl o 4] w1.heap.size 2 _ (by simp) (heap_alloc_new w1 _)).mono ?_
  rintro e w2 ⟨rfl, rfl⟩
  rw [HF.out]
  clear KZ1 HF
  by_cases h0 : x = 0
  · subst h0
    cases o
    · have hr := Lib.hid (oc_no HX.out HO.out)
      rw [hr.out.2]
      go_wp2
      go_ret2
      exact ⟨by rw [hr.out.1, hr.out.2]; rfl, (KB.alloc _).here⟩
    · have hr := Lib.hid (oc_yes HX.out HO.out)
      rw [hr.out.2]
      have hm8 := lcode_zero_m HX.out
      obtain ⟨rfl, hzi, _⟩ := ordP_facts (ordB_iff.1 HO.out)
      have HZI := Lib.hid hzi; clear hzi
      go_wp2_with fail
      refine (costs_any b _ d L _ hm8 HL.out (KL.alloc _).here).mono ?_
      rintro e w3 ⟨v, rfl, hb3, hv⟩
      replace KB := (KB.alloc _).on hb3
      replace KZ := (KZ.alloc _).on hb3
      obtain ⟨tb, tc, rfl, htb⟩ := OwnT.at hv
      go_wp2_with fail
      refine (sum_impl.orderCost_any tb _ tc L q _ x0 Z w3 hm8 hm8 HZI.out htb KZ.here).mono ?_
      rintro e w4 ⟨rfl, hb4⟩
      replace KB := KB.on hb4
      go_wp2
      go_ret2
      exact ⟨by rw [hr.out.1, hr.out.2]; rfl, KB.here⟩
  · have hr := Lib.hid (oc_bad (l := l) (Z := Z) HX.out h0)
    rw [hr.out.2]
    go_wp2
    go_ret2
    exact ⟨by rw [hr.out.1, hr.out.2]; rfl, (KB.alloc _).here⟩
set_option maxRecDepth 100000 in
set_option maxHeartbeats 400000 in
theorem specOrderCost_any (s : Int) (a : Option Addr) (n c : Nat) (P R : Nat → Int) (b : Option Addr) (m d : Nat) (L : Nat → Nat → Nat) (q : Option Addr) (l x0 : Nat) (Z : Nat → Int) (w : World) (hs : -32768 ≤ s ∧ s ≤ 32767) (hn : n ≤ 1048576) (hP : I8 P) (hR : I8 R) (hh : HamAt w a n P R) (hm : m ≤ 1048576) (hL : L32 L) (hl : DrumsAt w b m L) (hq : l ≤ 1048576) (hZ : I64 Z) (hz : IntAt w q l Z) :
    Calls Try.prog 65 #[.agg #[.int .i16 s, .slice a n c], .slice b m d, .slice q l x0] w fun e w' => e = .returned (.tuple #[.int .i64 (ocV s n P R m L l Z), .int .i64 (ocC s n P R m L l Z)]) ∧ Below w.heap.size w w' := by
  have HP := Lib.hid hP; have HR := Lib.hid hR; have HL := Lib.hid hL
  clear hP hR hL
  have KB := Kp.base w
  have KH := kp_ham hh; have KL := kp_drums hl; have KZ := kp_int hz; clear hh hl hz
  replace KB := KB.alloc (.cells #[.int .i16 s, .slice a n c] 43)
  replace KH := KH.alloc (.cells #[.int .i16 s, .slice a n c] 43)
  replace KL := KL.alloc (.cells #[.int .i16 s, .slice a n c] 43)
  replace KZ := KZ.alloc (.cells #[.int .i16 s, .slice a n c] 43)
  have KF := kp_new1 w #[.int .i16 s, .slice a n c] 43 (g := w.heap.size) (by simp)
  have HZ := Lib.hid (show (w.alloc (.cells #[.int .i16 s, .slice a n c] 43)).heap.size = w.heap.size + 1 by simp)
  go_enter Try.func65, Try.ntmps65
  go_wp2_with fail
  generalize (w.alloc (.cells #[.int .i16 s, .slice a n c] 43)) = W at KB KH KL KZ KF HZ ⊢
  clear HZ
  refine (l05Asked_any w.heap.size s a n c P R b m d L W hs hn HP.out HR.out KF.here KH.here hm KL.here).mono ?_
  rintro e w1 ⟨rfl, hb1⟩
  replace KB := KB.on hb1
  replace KL := KL.on hb1
  replace KZ := KZ.on hb1
  clear hb1
  obtain ⟨x, hx⟩ : ∃ x, lcode (okAll s n P R m L) m = x := ⟨_, rfl⟩
  rw [hx]
  obtain ⟨o, ho⟩ : ∃ o, ordB Z l m = o := ⟨_, rfl⟩
  have HX := Lib.hid hx; have HO := Lib.hid ho; clear hx ho
  by_cases h0 : x = 0
  · subst h0
    have hm8 := lcode_zero_m HX.out
    cases o
    · have hr := Lib.hid (oc_no HX.out HO.out)
      go_wp2_with (go_at_call 123; refine (l05Order_any q _ x0 _ Z _ hq hm8 KZ.here).mono ?_; rw [HO.out]; rintro e w2 ⟨rfl, rfl⟩)
      go_ret2
      exact ⟨by rw [hr.out.1, hr.out.2]; rfl, KB.here⟩
    · have hr := Lib.hid (oc_yes HX.out HO.out)
      obtain ⟨rfl, hzi, _⟩ := ordP_facts (ordB_iff.1 HO.out)
      have HZI := Lib.hid hzi; clear hzi
      go_wp2_with (go_at_call 123; refine (l05Order_any q _ x0 _ Z _ hq hm8 KZ.here).mono ?_; rw [HO.out]; rintro e w2 ⟨rfl, rfl⟩)
      refine (l05Table_any b _ d L w1 hm8 HL.out KL.here).mono ?_
      rintro e w3 ⟨v, rfl, hb3, hv⟩
      replace KB := KB.on hb3
      replace KZ := KZ.on hb3
      obtain ⟨tb, tc, rfl, htb⟩ := OwnT.at hv
      go_wp2_with fail
      refine (sum_spec.l05Sum_any tb _ tc L q _ x0 Z w3 hm8 hm8 HZI.out htb KZ.here).mono ?_
      rintro e w4 ⟨rfl, hb4⟩
      replace KB := KB.on hb4
      go_wp2
      go_ret2
      exact ⟨by rw [hr.out.1, hr.out.2]; rfl, KB.here⟩
  · have hr := Lib.hid (oc_bad (l := l) (Z := Z) HX.out h0)
    go_wp2
    go_ret2
    exact ⟨by rw [hr.out.1, hr.out.2]; rfl, KB.here⟩
set_option maxRecDepth 100000 in
set_option maxHeartbeats 400000 in
theorem implCheckOrder_any (s : Int) (a : Option Addr) (n c : Nat) (P R : Nat → Int) (b : Option Addr) (m d : Nat) (L : Nat → Nat → Nat) (q : Option Addr) (l x0 : Nat) (Z : Nat → Int) (y : Int) (w : World) (hs : -32768 ≤ s ∧ s ≤ 32767) (hn : n ≤ 1048576) (hP : I8 P) (hR : I8 R) (hh : HamAt w a n P R) (hm : m ≤ 1048576) (hL : L32 L) (hl : DrumsAt w b m L) (hq : l ≤ 1048576) (hZ : I64 Z) (hz : IntAt w q l Z) (hy : -9223372036854775808 ≤ y ∧ y ≤ 9223372036854775807) :
    Calls Try.prog 63 #[.agg #[.int .i16 s, .slice a n c], .slice b m d, .slice q l x0, .int .i64 y] w fun e w' => e = .returned (.tuple #[.bool (ckV s n P R m L l Z y), .int .i64 (lcode (okAll s n P R m L) m)]) ∧ Below w.heap.size w w' := by
  have HP := Lib.hid hP; have HR := Lib.hid hR; have HL := Lib.hid hL
  clear hP hR hL
  have KB := Kp.base w
  have KH := kp_ham hh; have KL := kp_drums hl; have KZ := kp_int hz; clear hh hl hz
  replace KB := KB.alloc (.cells #[.int .i16 s, .slice a n c] 43)
  replace KH := KH.alloc (.cells #[.int .i16 s, .slice a n c] 43)
  replace KL := KL.alloc (.cells #[.int .i16 s, .slice a n c] 43)
  replace KZ := KZ.alloc (.cells #[.int .i16 s, .slice a n c] 43)
  have KF := kp_new1 w #[.int .i16 s, .slice a n c] 43 (g := w.heap.size) (by simp)
  have HZ := Lib.hid (show (w.alloc (.cells #[.int .i16 s, .slice a n c] 43)).heap.size = w.heap.size + 1 by simp)
  go_enter Try.func63, Try.ntmps63
  go_wp2_with (with_reducible refine load_iframe rfl _ rfl w.heap.size rfl _ s a n c KF.here ?_)
  generalize (w.alloc (.cells #[.int .i16 s, .slice a n c] 43)) = W at KB KH KL KZ KF HZ ⊢
  clear HZ
  refine (listCode_any s a n c P R b m d L W hs hn HP.out HR.out KH.here hm KL.here).mono ?_
  rintro e w1 ⟨rfl, hb1⟩
  replace KB := KB.on hb1
  replace KL := KL.on hb1
  replace KZ := KZ.on hb1
  clear hb1
  obtain ⟨x, hx⟩ : ∃ x, lcode (okAll s n P R m L) m = x := ⟨_, rfl⟩
  rw [hx]
  obtain ⟨o, ho⟩ : ∃ o, ordB Z l m = o := ⟨_, rfl⟩
  have HX := Lib.hid hx; have HO := Lib.hid ho; clear hx ho
  by_cases h0 : x = 0
  · subst h0
    have hm8 := lcode_zero_m HX.out
    have KZ1 := KZ.here
    cases o
    · have hr := Lib.hid (ck_no HX.out HO.out y)
      go_wp2_with (go_at_call 127; refine (isOrder_any q _ x0 _ Z _ hq hm KZ1).mono ?_; rw [HO.out]; rintro e w2 ⟨rfl, rfl⟩)
      go_ret2
      exact ⟨by rw [hr.out, HX.out]; rfl, KB.here⟩
    · have hr := Lib.hid (ck_yes HX.out HO.out y)
      obtain ⟨rfl, hzi, _⟩ := ordP_facts (ordB_iff.1 HO.out)
      have HZI := Lib.hid hzi; clear hzi
      go_wp2_with (go_at_call 127; refine (isOrder_any q _ x0 _ Z _ hq hm KZ1).mono ?_; rw [HO.out]; rintro e w2 ⟨rfl, rfl⟩)
      clear KZ1
      refine (costs_any b _ d L w1 hm8 HL.out KL.here).mono ?_
      rintro e w3 ⟨v, rfl, hb3, hv⟩
      replace KB := KB.on hb3
      replace KZ := KZ.on hb3
      obtain ⟨tb, tc, rfl, htb⟩ := OwnT.at hv
      go_wp2_with fail
      refine (sum_impl.orderCost_any tb _ tc L q _ x0 Z w3 hm8 hm8 HZI.out htb KZ.here).mono ?_
      rintro e w4 ⟨rfl, hb4⟩
      replace KB := KB.on hb4
      obtain ⟨t, ht⟩ : ∃ t, oSum (cN L) Z (l - 1) = t := ⟨_, rfl⟩
      rw [ht]
      have HT := Lib.hid ht; clear ht
      go_wp2
      go_ret2
      exact ⟨by rw [hr.out, HX.out, HT.out]; rfl, KB.here⟩
  · have hr := Lib.hid (ck_bad (l := l) (Z := Z) HX.out h0 y)
    go_wp2
    go_ret2
    exact ⟨by rw [hr.out, HX.out]; rfl, KB.here⟩
set_option maxRecDepth 100000 in
set_option maxHeartbeats 400000 in
theorem specCheckOrder_any (s : Int) (a : Option Addr) (n c : Nat) (P R : Nat → Int) (b : Option Addr) (m d : Nat) (L : Nat → Nat → Nat) (q : Option Addr) (l x0 : Nat) (Z : Nat → Int) (y : Int) (w : World) (hs : -32768 ≤ s ∧ s ≤ 32767) (hn : n ≤ 1048576) (hP : I8 P) (hR : I8 R) (hh : HamAt w a n P R) (hm : m ≤ 1048576) (hL : L32 L) (hl : DrumsAt w b m L) (hq : l ≤ 1048576) (hZ : I64 Z) (hz : IntAt w q l Z) (hy : -9223372036854775808 ≤ y ∧ y ≤ 9223372036854775807) :
    Calls Try.prog 61 #[.agg #[.int .i16 s, .slice a n c], .slice b m d, .slice q l x0, .int .i64 y] w fun e w' => e = .returned (.tuple #[.bool (ckV s n P R m L l Z y), .int .i64 (lcode (okAll s n P R m L) m)]) ∧ Below w.heap.size w w' := by
  have HP := Lib.hid hP; have HR := Lib.hid hR; have HL := Lib.hid hL
  clear hP hR hL
  have KB := Kp.base w
  have KH := kp_ham hh; have KL := kp_drums hl; have KZ := kp_int hz; clear hh hl hz
  replace KB := KB.alloc (.cells #[.int .i16 s, .slice a n c] 43)
  replace KH := KH.alloc (.cells #[.int .i16 s, .slice a n c] 43)
  replace KL := KL.alloc (.cells #[.int .i16 s, .slice a n c] 43)
  replace KZ := KZ.alloc (.cells #[.int .i16 s, .slice a n c] 43)
  have KF := kp_new1 w #[.int .i16 s, .slice a n c] 43 (g := w.heap.size) (by simp)
  have HZ := Lib.hid (show (w.alloc (.cells #[.int .i16 s, .slice a n c] 43)).heap.size = w.heap.size + 1 by simp)
  go_enter Try.func61, Try.ntmps61
  go_wp2_with fail
  generalize (w.alloc (.cells #[.int .i16 s, .slice a n c] 43)) = W at KB KH KL KZ KF HZ ⊢
  clear HZ
  refine (l05Asked_any w.heap.size s a n c P R b m d L W hs hn HP.out HR.out KF.here KH.here hm KL.here).mono ?_
  rintro e w1 ⟨rfl, hb1⟩
  replace KB := KB.on hb1
  replace KL := KL.on hb1
  replace KZ := KZ.on hb1
  clear hb1
  obtain ⟨x, hx⟩ : ∃ x, lcode (okAll s n P R m L) m = x := ⟨_, rfl⟩
  rw [hx]
  obtain ⟨o, ho⟩ : ∃ o, ordB Z l m = o := ⟨_, rfl⟩
  have HX := Lib.hid hx; have HO := Lib.hid ho; clear hx ho
  by_cases h0 : x = 0
  · subst h0
    have hm8 := lcode_zero_m HX.out
    have KZ1 := KZ.here
    cases o
    · have hr := Lib.hid (ck_no HX.out HO.out y)
      go_wp2_with (go_at_call 123; refine (l05Order_any q _ x0 _ Z _ hq hm8 KZ1).mono ?_; rw [HO.out]; rintro e w2 ⟨rfl, rfl⟩)
      go_ret2
      exact ⟨by rw [hr.out, HX.out]; rfl, KB.here⟩
    · have hr := Lib.hid (ck_yes HX.out HO.out y)
      obtain ⟨rfl, hzi, _⟩ := ordP_facts (ordB_iff.1 HO.out)
      have HZI := Lib.hid hzi; clear hzi
      go_wp2_with (go_at_call 123; refine (l05Order_any q _ x0 _ Z _ hq hm8 KZ1).mono ?_; rw [HO.out]; rintro e w2 ⟨rfl, rfl⟩)
      clear KZ1
      refine (l05Table_any b _ d L w1 hm8 HL.out KL.here).mono ?_
      rintro e w3 ⟨v, rfl, hb3, hv⟩
      replace KB := KB.on hb3
      replace KZ := KZ.on hb3
      obtain ⟨tb, tc, rfl, htb⟩ := OwnT.at hv
      go_wp2_with fail
      refine (sum_spec.l05Sum_any tb _ tc L q _ x0 Z w3 hm8 hm8 HZI.out htb KZ.here).mono ?_
      rintro e w4 ⟨rfl, hb4⟩
      replace KB := KB.on hb4
      obtain ⟨t, ht⟩ : ∃ t, oSum (cN L) Z (l - 1) = t := ⟨_, rfl⟩
      rw [ht]
      have HT := Lib.hid ht; clear ht
      go_wp2
      go_ret2
      exact ⟨by rw [hr.out, HX.out, HT.out]; rfl, KB.here⟩
  · have hr := Lib.hid (ck_bad (l := l) (Z := Z) HX.out h0 y)
    go_wp2
    go_ret2
    exact ⟨by rw [hr.out, HX.out]; rfl, KB.here⟩
end Go.Proofs.Ytmmneedmhmppoaa
