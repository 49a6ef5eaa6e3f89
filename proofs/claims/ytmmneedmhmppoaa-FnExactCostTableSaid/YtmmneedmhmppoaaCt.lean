/- CostTable, by the reference and by the program. No conditions. -/
import Derived.Test.YtmmneedmhmppoaaTm
import Derived.Test.YtmmneedmhmppoaaOc
import Derived.Outline
namespace Go.Proofs.Ytmmneedmhmppoaa
open Go.RowKit
set_option linter.unusedVariables false
set_option linter.unusedSimpArgs false

/-- how many rows the table has -/
def ctN (s : Int) (n : Nat) (P R : Nat → Int) (m : Nat) (L : Nat → Nat → Nat) : Nat := if lcode (okAll s n P R m L) m = 0 then m else 0
section
variable {s : Int} {n : Nat} {P R : Nat → Int} {m : Nat} {L : Nat → Nat → Nat}
theorem ctN_yes (h : lcode (okAll s n P R m L) m = 0) : ctN s n P R m L = m := if_pos h
theorem ctN_no {x : Int} (h : lcode (okAll s n P R m L) m = x) (hx : ¬ x = 0) : ctN s n P R m L = 0 := by subst h; exact if_neg hx
theorem ctN_le : ctN s n P R m L ≤ 8 := by
  by_cases h : lcode (okAll s n P R m L) m = 0
  · rw [ctN_yes h]; exact lcode_zero_m h
  · rw [ctN_no rfl h]; omega
end
attribute [irreducible] ctN
theorem OwnT.nil0 (w : World) (base : Nat) (L : Nat → Nat → Nat) (hb : base ≤ w.heap.size) : OwnT (w.alloc (.cells #[] 38)) base (.slice (some ⟨w.heap.size, 0, none⟩) 0 0) (tabL L 0 0) := by rw [tabL_zero]; exact OwnT.nil w base hb
set_option maxRecDepth 100000 in
theorem implCostTable_any (s : Int) (a : Option Addr) (n c : Nat) (P R : Nat → Int) (b : Option Addr) (m d : Nat) (L : Nat → Nat → Nat) (w : World) (hs : -32768 ≤ s ∧ s ≤ 32767) (hn : n ≤ 1048576) (hP : I8 P) (hR : I8 R) (hh : HamAt w a n P R) (hm : m ≤ 1048576) (hL : L32 L) (hl : DrumsAt w b m L) :
    Calls Try.prog 68 #[.agg #[.int .i16 s, .slice a n c], .slice b m d] w fun e w' => ∃ v, e = .returned (.tuple #[v, .int .i64 (lcode (okAll s n P R m L) m)]) ∧ Below w.heap.size w w' ∧ TabX w' w.heap.size w'.heap.size v (ctN s n P R m L) (ctN s n P R m L) (ctX L (ctN s n P R m L)) := by
  have HP := Lib.hid hP; have HR := Lib.hid hR; have HL := Lib.hid hL
  clear hP hR hL
  have KB := Kp.base w
  have KH := kp_ham hh; have KL := kp_drums hl; clear hh hl
  replace KB := KB.alloc (.cells #[.int .i16 s, .slice a n c] 43)
  replace KH := KH.alloc (.cells #[.int .i16 s, .slice a n c] 43)
  replace KL := KL.alloc (.cells #[.int .i16 s, .slice a n c] 43)
  have KF := kp_new1 w #[.int .i16 s, .slice a n c] 43 (g := w.heap.size) (by simp)
  have HZ := Lib.hid (show (w.alloc (.cells #[.int .i16 s, .slice a n c] 43)).heap.size = w.heap.size + 1 by simp)
  go_enter Try.func68, Try.ntmps68
  go_wp2_with (with_reducible refine load_iframe rfl _ rfl w.heap.size rfl _ s a n c KF.here ?_)
  generalize (w.alloc (.cells #[.int .i16 s, .slice a n c] 43)) = W at KB KH KL KF HZ ⊢
  clear HZ
  refine (listCode_any s a n c P R b m d L W hs hn HP.out HR.out KH.here hm KL.here).mono ?_
  rintro e w1 ⟨rfl, hb1⟩
  replace KB := KB.on hb1
  replace KL := KL.on hb1
  clear hb1
  obtain ⟨x, hx⟩ : ∃ x, lcode (okAll s n P R m L) m = x := ⟨_, rfl⟩
  rw [hx]
  have HX := Lib.hid hx; clear hx
  by_cases h0 : x = 0
  · subst h0
    have hm8 := lcode_zero_m HX.out
    have HN := Lib.hid (ctN_yes HX.out)
    have hbs := KB.here.size
    go_wp2_with fail
    refine (costsX_any b m d L _ hm8 HL.out KL.here).mono ?_
    rintro e w3 ⟨v, rfl, hb3, hv⟩
    replace KB := KB.on hb3
    obtain ⟨tb, tc, rfl⟩ := hv.form
    have HV := Lib.hid hv; clear hv hb3
    go_wp2
    go_ret2
    exact ⟨_, by rw [HX.out]; rfl, KB.here, by rw [HN.out]; exact HV.out.mono hbs⟩
  · have HN := Lib.hid (ctN_no HX.out h0)
    go_wp2
    go_ret2
    exact ⟨_, by rw [HX.out]; rfl, KB.here, by rw [HN.out]; exact TabX.none0 _ _ _ _ _⟩
set_option maxRecDepth 100000 in
theorem specCostTable_any (s : Int) (a : Option Addr) (n c : Nat) (P R : Nat → Int) (b : Option Addr) (m d : Nat) (L : Nat → Nat → Nat) (w : World) (hs : -32768 ≤ s ∧ s ≤ 32767) (hn : n ≤ 1048576) (hP : I8 P) (hR : I8 R) (hh : HamAt w a n P R) (hm : m ≤ 1048576) (hL : L32 L) (hl : DrumsAt w b m L) :
    Calls Try.prog 67 #[.agg #[.int .i16 s, .slice a n c], .slice b m d] w fun e w' => ∃ v, e = .returned (.tuple #[v, .int .i64 (lcode (okAll s n P R m L) m)]) ∧ Below w.heap.size w w' ∧ OwnT w' w.heap.size v (tabL L (ctN s n P R m L) (ctN s n P R m L)) := by
  have HP := Lib.hid hP; have HR := Lib.hid hR; have HL := Lib.hid hL
  clear hP hR hL
  have KB := Kp.base w
  have KH := kp_ham hh; have KL := kp_drums hl; clear hh hl
  replace KB := KB.alloc (.cells #[.int .i16 s, .slice a n c] 43)
  replace KH := KH.alloc (.cells #[.int .i16 s, .slice a n c] 43)
  replace KL := KL.alloc (.cells #[.int .i16 s, .slice a n c] 43)
  have KF := kp_new1 w #[.int .i16 s, .slice a n c] 43 (g := w.heap.size) (by simp)
  have HZ := Lib.hid (show (w.alloc (.cells #[.int .i16 s, .slice a n c] 43)).heap.size = w.heap.size + 1 by simp)
  go_enter Try.func67, Try.ntmps67
  go_wp2_with fail
  generalize (w.alloc (.cells #[.int .i16 s, .slice a n c] 43)) = W at KB KH KL KF HZ ⊢
  clear HZ
  refine (l05Asked_any w.heap.size s a n c P R b m d L W hs hn HP.out HR.out KF.here KH.here hm KL.here).mono ?_
  rintro e w1 ⟨rfl, hb1⟩
  replace KB := KB.on hb1
  replace KL := KL.on hb1
  clear hb1
  obtain ⟨x, hx⟩ : ∃ x, lcode (okAll s n P R m L) m = x := ⟨_, rfl⟩
  rw [hx]
  have HX := Lib.hid hx; clear hx
  by_cases h0 : x = 0
  · subst h0
    have hm8 := lcode_zero_m HX.out
    have HN := Lib.hid (ctN_yes HX.out)
    have hbs := KB.here.size
    go_wp2_with fail
    refine (l05Table_any b m d L w1 hm8 HL.out KL.here).mono ?_
    rintro e w3 ⟨v, rfl, hb3, hv⟩
    replace KB := KB.on hb3
    have hform := hv
    obtain ⟨tb, tc, rfl, _⟩ := OwnT.at hform
    have HV := Lib.hid (show OwnT w3 w.heap.size (.slice tb m tc) (tabL L m m) from by
      obtain ⟨vs, h1, h2, h3⟩ := hv
      exact ⟨vs, h1, own_mono h2 hbs, fun i u r hi hj => (h3 i u r hi hj).mono hbs⟩)
    clear hv hb3 hform
    go_wp2
    go_ret2
    exact ⟨_, by rw [HX.out]; rfl, KB.here, by rw [HN.out]; exact HV.out⟩
  · have HN := Lib.hid (ctN_no HX.out h0)
    have HNN := Lib.hid (OwnT.nil0 w1 w.heap.size L KB.here.size)
    go_wp2
    go_ret2
    exact ⟨_, by rw [HX.out]; rfl, (KB.alloc _).here, by rw [HN.out]; exact HNN.out⟩
end Go.Proofs.Ytmmneedmhmppoaa
