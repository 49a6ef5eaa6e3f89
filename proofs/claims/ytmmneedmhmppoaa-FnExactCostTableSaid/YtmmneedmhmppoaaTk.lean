/- Tables: equality, marks. No conditions. -/
import Derived.Test.YtmmneedmhmppoaaTm
import Derived.Test.YtmmneedmhmppoaaInt
import Derived.Outline
namespace Go.Proofs.Ytmmneedmhmppoaa
open Go.RowKit
set_option linter.unusedVariables false
set_option linter.unusedSimpArgs false

theorem kp_TabX {w : World} {base top : Nat} {v : Value} {k m : Nat} {X : Nat → List Value} (h : TabX w base top v k m X) : Kp w (fun V => TabX V base top v k m X) := kp_tabX h
theorem TabX.at {w : World} {base top : Nat} {v : Value} {m : Nat} {L : Nat → Nat → Nat} (h : TabX w base top v m m (ctX L m)) : ∃ b c, v = .slice b m c ∧ TabAt w b m (cN L) := OwnT.at h.ownT
theorem TabX.readAt {w : World} {base top : Nat} {b : Option Addr} {m c : Nat} {L : Nat → Nat → Nat} (h : TabX w base top (.slice b m c) m m (ctX L m)) : TabAt w b m (cN L) := by
  obtain ⟨b', c', e, hz⟩ := OwnT.at h.ownT
  injection e with e1 e2 e3
  subst e1
  exact hz
theorem KpB.under {B B' : Nat} {w w' : World} {P : World → Prop} (h : KpB B w P) (hb : Below B' w w') (hB : B ≤ B') : KpB B w' P := by
  unfold KpB at h ⊢
  exact ⟨Nat.le_trans h.1 hb.size, fun w'' h2 => h.2 w'' ((hb.mono hB).trans h2)⟩
set_option maxRecDepth 100000 in
theorem eqInt64SS_kp (a b : Option Addr) (n c d : Nat) (C : Nat → Nat → Int) (w : World) (hn : n ≤ 1000000) (ha : TabAt w a n C) (hb : TabAt w b n C) :
    Calls Try.prog 69 #[.slice a n c, .slice b n d] w fun e w' => e = .returned (.bool true) ∧ Below w.heap.size w w' := by
  have KA := kp_tab ha; have KC := kp_tab hb; clear ha hb
  go_enter Try.func69, Try.ntmps69
  go_wp2
  go_loopw [5] (fun i w' => Below w.heap.size w w' ∧ ∃ k : Nat, k ≤ n ∧ i = .int .i64 k) (fun i _ => n - (intOf i).toNat)
  case atStart => exact ⟨Below.refl _ _, 0, by omega, rfl⟩
  case round =>
    obtain ⟨hb, k, hk, rfl⟩ := hrel
    replace KA := KA.on hb
    replace KC := KC.on hb
    by_cases hlt : k < n
    · have hx := TabAt.get KA.here (show 0 < n by omega)
      have hy := TabAt.get KC.here (show 0 < n by omega)
      obtain ⟨g, off, rfl, hg, hc⟩ := hx
      obtain ⟨g', off', rfl, hg', hc'⟩ := hy
      obtain ⟨b1, c1, e0, hz1⟩ := hc k hlt
      obtain ⟨b2, c2, e1, hz2⟩ := hc' k hlt
      have HZ1 := Lib.hid hz1; have HZ2 := Lib.hid hz2
      have hk' : (k : Int) < n := by omega
      clear hc hc' hz1 hz2
      have KZ1 := kp_int HZ1.out; have KZ2 := kp_int HZ2.out
      have K0 := kp_start wr
      go_wp2
      go_still_tail 8, (by kernel_rfl)
      go_wp2_with (go_at_call 27; refine (eqInt64S_kp _ _ _ _ _ (C k) _ (by omega) (KZ1.at (below_drew wr)) (KZ2.at (below_drew wr))).mono ?_; rintro e w1 ⟨rfl, hb1⟩)
      go_roundw
      case rel => exact ⟨hb.trans (((below_drew wr).trans (hb1.mono (by simp))).mono hb.size), k + 1, by omega, by go_num⟩
      case measure => simp [intOf]; omega
    · go_wp2
      go_ret
      exact ⟨rfl, hb⟩
/-- the marks of a table -/
def tmX (j m : Nat) (i : Nat) : List Value := mks (mkInt64 (j + i * m)) (m * 1)
section
variable {w w' : World} {base top : Nat} {v : Value} {k m : Nat} {X : Nat → List Value}
/-- the first q rows are marked -/
def TabM (w : World) (base : Nat) (v : Value) (k m : Nat) (us : List Value) (X : Nat → List Value) (j q : Nat) : Prop :=
  us.length = k ∧ w.ownsRow base 38 1 v k us ∧ (∀ (i : Nat) u, us[i]? = some u → w.ownsRow base 2 1 u m (if i < q then tmX j m i else X i))
end
set_option maxRecDepth 100000 in
theorem markInt64SS_own (base top : Nat) (v : Value) (k m : Nat) (X : Nat → List Value) (j : Nat) (w : World) (hk : k ≤ 8) (hm : m ≤ 8) (hj : j ≤ 1000000) (ha : TabX w base top v k m X) :
    Calls Try.prog 71 #[v, .int .i64 (j : Int)] w fun e w' => e = .returned (.int .i64 ((j + k * m : Nat) : Int)) ∧ Below base w w' ∧ TabX w' base top v k m (tmX j m) := by
  obtain ⟨us, h1, h2, h3, h4, h5⟩ := ha
  obtain ⟨b, c, rfl⟩ : ∃ b c, v = .slice b k c := by
    rcases h2.2 with ⟨rfl, rfl⟩ | ⟨g, cap, cur, rfl, _⟩
    · exact ⟨_, _, rfl⟩
    · exact ⟨_, _, rfl⟩
  have H3 := Lib.hid h3; have H4 := Lib.hid h4; have H5 := Lib.hid h5; have H2 := Lib.hid h2; have H1 := Lib.hid h1
  clear h1 h2 h3 h4 h5
  go_enter Try.func71, Try.ntmps71
  go_wp2
  go_loopw [1, 5] (fun t i w' => Below base w w' ∧ ∃ q : Nat, q ≤ k ∧ i = .int .i64 q ∧ t = .int .i64 ((j + q * m : Nat) : Int) ∧ TabM w' base (.slice b k c) k m us X j q) (fun _ i _ => k - (intOf i).toNat)
  case atStart => exact ⟨Below.refl _ _, 0, by omega, rfl, by simp, H1.out, H2.out, fun i u hu => by rw [if_neg (by omega)]; exact H3.out i u hu⟩
  case round =>
    obtain ⟨hb, q, hq, rfl, rfl, hm1, hm2, hm3⟩ := hrel
    have HM2 := Lib.hid hm2; have HM3 := Lib.hid hm3; clear hm2 hm3
    by_cases hlt : q < k
    · have hq' : (q : Int) < k := by omega
      obtain ⟨u, hu⟩ : ∃ u, us[q]? = some u := ⟨_, List.getElem?_eq_getElem (show q < us.length by omega)⟩
      have hrow := HM3.out q u hu
      rw [if_neg (by omega)] at hrow
      have HROW := Lib.hid hrow
      obtain ⟨ub, uc, rfl⟩ : ∃ ub uc, u = .slice ub m uc := by
        rcases hrow.2 with ⟨rfl, rfl⟩ | ⟨g, cap, cur, rfl, _⟩
        · exact ⟨_, _, rfl⟩
        · exact ⟨_, _, rfl⟩
      have hc0 : ∃ g, b = some ⟨g, 0, none⟩ ∧ base ≤ g ∧ g < wr.heap.size ∧ wr.cell? ⟨g, q, none⟩ = some (.slice ub m uc) := by
        rcases own_at HM2.out with ⟨_, h0⟩ | ⟨g, c', e, hg1, hg2, hcc⟩
        · omega
        · injection e with e1 _ _
          exact ⟨g, e1, hg1, hg2, by rw [hcc q (by omega)]; exact hu⟩
      obtain ⟨g, rfl, hgb, hgl, c0⟩ := hc0
      have HU := Lib.hid hu
      clear hrow hu
      have hqm : q * m ≤ 64 := Nat.mul_le_mul (show q ≤ 8 by omega) hm
      obtain ⟨y, hy⟩ : ∃ y : Nat, j + q * m = y := ⟨_, rfl⟩
      have hyb : y ≤ 2000000 := by omega
      rw [hy]
      have HY := Lib.hid hy; clear hy
      have hbz := hb.size
      go_wp2_with fail
      refine (markInt64S_own base (.slice ub m uc) m _ y wr (by omega) (by omega) HROW.out).mono ?_
      rintro e w2 ⟨rfl, hg, ho⟩
      have hb2 : Below base w w2 := hb.trans (below_grown hg (by omega) (fun b hb => (HROW.out.lt b hb).1))
      have hh2 : w2.ownsRow base 38 1 (.slice (some ⟨g, 0, none⟩) k c) k us := by
        refine World.ownsRow.kept HM2.out hg ?_
        right
        intro e2
        exact hdr_apart HM2.out HROW.out g rfl (e2.symm.trans rfl)
      have hr2 : ∀ (i : Nat) u, us[i]? = some u → w2.ownsRow base 2 1 u m (if i < q + 1 then tmX j m i else X i) := by
        intro i u hi
        by_cases e : i = q
        · subst e
          rw [HU.out] at hi
          injection hi with hi
          subst hi
          rw [if_pos (by omega)]
          unfold tmX
          rw [HY.out]
          exact ho
        · have h := HM3.out i u hi
          have h' : w2.ownsRow base 2 1 u m (if i < q then tmX j m i else X i) := by
            refine World.ownsRow.kept h hg ?_
            cases hv : u.ownBlock with
            | none => exact .inl rfl
            | some b => exact .inr fun e2 => e (H5.out i q u _ b hi HU.out hv e2.symm)
          by_cases h1 : i < q
          · rw [if_pos h1] at h'; rw [if_pos (by omega)]; exact h'
          · rw [if_neg h1] at h'; rw [if_neg (by omega)]; exact h'
      have HB2 := Lib.hid hb2; have HH2 := Lib.hid hh2; have HR2 := Lib.hid hr2
      clear hb2 hh2 hr2 hg ho
      obtain ⟨y2, hy2⟩ : ∃ y2 : Nat, y + m * 1 = y2 := ⟨_, rfl⟩
      rw [hy2]
      have HY2 := Lib.hid (show y2 = j + (q + 1) * m by rw [← hy2, ← HY.out, Nat.add_mul]; omega)
      clear hy2
      go_wp2
      go_roundw
      case rel => exact ⟨HB2.out, q + 1, by omega, by go_num, by rw [HY2.out], hm1, HH2.out, HR2.out⟩
      case measure => simp [intOf]; omega
    · have hqk : k = q := by omega
      subst hqk
      go_wp2
      go_ret
      exact ⟨rfl, hb, us, hm1, HM2.out, fun i u hu => by have h := HM3.out i u hu; rw [if_pos (by have := (List.getElem?_eq_some_iff.1 hu).1; omega)] at h; exact h, H4.out, H5.out⟩
set_option maxRecDepth 100000 in
theorem heldInt64SS_own (base top : Nat) (v : Value) (k m : Nat) (j : Nat) (w : World) (hk : k ≤ 8) (hm : m ≤ 8) (hj : j ≤ 1000000) (ha : TabX w base top v k m (tmX j m)) :
    Calls Try.prog 72 #[v, .int .i64 (j : Int)] w fun e w' => e = .returned (.int .i64 ((j + k * m : Nat) : Int)) ∧ w = w' := by
  obtain ⟨us, h1, h2, h3, h4, h5⟩ := ha
  obtain ⟨b, c, rfl⟩ : ∃ b c, v = .slice b k c := by
    rcases h2.2 with ⟨rfl, rfl⟩ | ⟨g, cap, cur, rfl, _⟩
    · exact ⟨_, _, rfl⟩
    · exact ⟨_, _, rfl⟩
  have H3 := Lib.hid h3; have H2 := Lib.hid h2; have H1 := Lib.hid h1
  clear h1 h2 h3 h4 h5
  go_enter Try.func72, Try.ntmps72
  go_wp2
  go_loopw [1, 5] (fun t i w' => w = w' ∧ ∃ q : Nat, q ≤ k ∧ i = .int .i64 q ∧ t = .int .i64 ((j + q * m : Nat) : Int)) (fun _ i _ => k - (intOf i).toNat)
  case atStart => exact ⟨rfl, 0, by omega, rfl, by simp⟩
  case round =>
    obtain ⟨rfl, q, hq, rfl, rfl⟩ := hrel
    by_cases hlt : q < k
    · have hq' : (q : Int) < k := by omega
      have hlen := H1.out
      obtain ⟨u, hu⟩ : ∃ u, us[q]? = some u := ⟨_, List.getElem?_eq_getElem (show q < us.length by omega)⟩
      have hrow := H3.out q u hu
      obtain ⟨ub, uc, rfl⟩ : ∃ ub uc, u = .slice ub m uc := by
        rcases hrow.2 with ⟨rfl, rfl⟩ | ⟨g, cap, cur, rfl, _⟩
        · exact ⟨_, _, rfl⟩
        · exact ⟨_, _, rfl⟩
      have hc0 : ∃ g, b = some ⟨g, 0, none⟩ ∧ w.cell? ⟨g, q, none⟩ = some (.slice ub m uc) := by
        rcases own_at H2.out with ⟨_, h0⟩ | ⟨g, c', e, _, _, hcc⟩
        · omega
        · injection e with e1 _ _
          exact ⟨g, e1, by rw [hcc q (by omega)]; exact hu⟩
      obtain ⟨g, rfl, c0⟩ := hc0
      clear hu hlen
      have hqm : q * m ≤ 64 := Nat.mul_le_mul (show q ≤ 8 by omega) hm
      obtain ⟨y, hy⟩ : ∃ y : Nat, j + q * m = y := ⟨_, rfl⟩
      have hyb : y ≤ 2000000 := by omega
      unfold tmX at hrow
      rw [hy] at hrow ⊢
      have HROW := Lib.hid hrow
      have HY := Lib.hid hy; clear hy hrow
      go_wp2_with fail
      refine (heldInt64S_own base (.slice ub m uc) m y w (by omega) (by omega) HROW.out).mono ?_
      rintro e w2 ⟨rfl, rfl⟩
      obtain ⟨y2, hy2⟩ : ∃ y2 : Nat, y + m * 1 = y2 := ⟨_, rfl⟩
      rw [hy2]
      have HY2 := Lib.hid (show y2 = j + (q + 1) * m by rw [← hy2, ← HY.out, Nat.add_mul]; omega)
      clear hy2
      go_wp2
      go_roundw
      case rel => exact ⟨trivial, q + 1, by omega, by go_num, by rw [HY2.out]⟩
      case measure => simp [intOf]; omega
    · have hqk : k = q := by omega
      subst hqk
      go_wp2
      go_ret
      exact ⟨rfl, rfl⟩
end Go.Proofs.Ytmmneedmhmppoaa
