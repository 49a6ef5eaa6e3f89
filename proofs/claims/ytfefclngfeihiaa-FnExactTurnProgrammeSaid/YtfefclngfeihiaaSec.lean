/- Sections: slices of them that come in, copies, equality. No conditions. -/
import Derived.Test.YtfefclngfeihiaaHam
import Derived.Test.YtfefclngfeihiaaKp
import Derived.Outline
namespace Go.Proofs.Ytfefclngfeihiaa
open Go.RowKit
set_option linter.unusedVariables false
set_option linter.unusedSimpArgs false

/-- numbers of 16 bits -/
def I16 (P : Nat → Int) : Prop := ∀ i, -32768 ≤ P i ∧ P i ≤ 32767

/-- a slice at the address a reads as n sections -/
def SecAt (w : World) (a : Option Addr) (n : Nat) (P R : Nat → Int) : Prop :=
  0 < n → ∃ g off, a = some ⟨g, off, none⟩ ∧ g < w.heap.size ∧
    ∀ i, i < n → w.cell? ⟨g, off + i * 2, none⟩ = some (.int .i16 (P i)) ∧ w.cell? ⟨g, off + i * 2 + 1, none⟩ = some (.int .i16 (R i))
theorem SecAt.get {w : World} {a : Option Addr} {n : Nat} {P R : Nat → Int} (h : SecAt w a n P R) (hn : 0 < n) : ∃ g off, a = some ⟨g, off, none⟩ ∧ g < w.heap.size ∧
    ∀ i, i < n → w.cell? ⟨g, off + i * 2, none⟩ = some (.int .i16 (P i)) ∧ w.cell? ⟨g, off + i * 2 + 1, none⟩ = some (.int .i16 (R i)) := h hn
theorem SecAt.below {w w' : World} {a : Option Addr} {n : Nat} {P R : Nat → Int} (h : SecAt w a n P R) (hb : Below w.heap.size w w') : SecAt w' a n P R := by
  intro hn
  obtain ⟨g, off, rfl, hg, hc⟩ := h hn
  refine ⟨g, off, rfl, Nat.lt_of_lt_of_le hg hb.size, fun i hi => ?_⟩
  rw [hb.cell (p := ⟨g, off + i * 2, none⟩) hg, hb.cell (p := ⟨g, off + i * 2 + 1, none⟩) hg]
  exact hc i hi


theorem toSection_any (p r : Int) (w : World) :
    Calls Try.prog 37 #[.agg #[.int .i16 p, .int .i16 r]] w fun e w' => e = .returned (.agg #[.int .i16 p, .int .i16 r]) ∧ Below w.heap.size w w' := by
  go_enter Try.func37, Try.ntmps37
  go_wp2
  refine bodyPost_ret (v := .agg #[.int .i16 p, .int .i16 r]) (by simp [results, Try.results37, go_sem]) rfl ⟨rfl, ?_⟩
  exact (((Below.refl _ _).alloc (Nat.le_refl _) _).alloc (by simp) _).alloc (by simp; omega) _

theorem szSectionS_any (a : Option Addr) (n c : Nat) (l : Int) (w : World) (hn : n ≤ 9223372036854775807) (hl : 0 ≤ l ∧ l ≤ 1048576) :
    Calls Try.prog 16 #[.slice a n c, .int .i64 l] w fun e w' => e = .returned (.int .i64 (szOf l n)) ∧ w = w' := by
  by_cases h : l < n
  · go_enter Try.func16, Try.ntmps16
    go_wp2
    go_ret
    exact ⟨ret_int (by rw [szOf_lt h]), rfl⟩
  · go_enter Try.func16, Try.ntmps16
    go_wp2
    go_ret
    exact ⟨ret_int (by rw [szOf_ge (by omega)]), rfl⟩

/-- a slice that came in, at the address a, reads as n sections -/
def SecIn (w : World) (a : Option Addr) (n : Nat) (P R : Nat → Int) : Prop :=
  0 < n → ∃ ad, a = some ad ∧ ad.block < w.heap.size ∧
    ∀ i, i < n → w.cell? (ad.add (i * 2)) = some (.int .i16 (P i)) ∧ w.cell? ⟨(ad.add (i * 2)).block, (ad.add (i * 2)).off + 1, none⟩ = some (.int .i16 (R i))

theorem SecIn.get {w : World} {a : Option Addr} {n : Nat} {P R : Nat → Int} (h : SecIn w a n P R) (hn : 0 < n) : ∃ ad, a = some ad ∧ ad.block < w.heap.size ∧
    ∀ i, i < n → w.cell? (ad.add (i * 2)) = some (.int .i16 (P i)) ∧ w.cell? ⟨(ad.add (i * 2)).block, (ad.add (i * 2)).off + 1, none⟩ = some (.int .i16 (R i)) := h hn
theorem SecIn.below {w w' : World} {a : Option Addr} {n : Nat} {P R : Nat → Int} (h : SecIn w a n P R) (hb : Below w.heap.size w w') : SecIn w' a n P R := by
  intro hn
  obtain ⟨ad, rfl, hg, hc⟩ := h hn
  refine ⟨ad, rfl, Nat.lt_of_lt_of_le hg hb.size, fun i hi => ?_⟩
  rw [hb.cell (p := ad.add (i * 2)) (by rw [add_block]; exact hg), hb.cell (p := ⟨(ad.add (i * 2)).block, (ad.add (i * 2)).off + 1, none⟩) (by rw [add_block]; exact hg)]
  exact hc i hi
/-- a block bears n sections -/
def SecF (n : Nat) (P R : Nat → Int) (f : Nat → Value) : Prop := ∀ i, i < n → f (i * 2) = .int .i16 (P i) ∧ f (i * 2 + 1) = .int .i16 (R i)
theorem SecF.at {w : World} {T g n : Nat} {P R : Nat → Int} {f : Nat → Value} (h : SecF n P R f) (hb : BlkAt w T g (n * 2) f) : SecAt w (some ⟨g, 0, none⟩) n P R := fun _ =>
  ⟨g, 0, rfl, hb.lt, fun i hi => by
    rw [Nat.zero_add, hb.cell (i * 2) (by omega), hb.cell (i * 2 + 1) (by omega), (h i hi).1, (h i hi).2]
    exact ⟨rfl, rfl⟩⟩
theorem infoSection : (Try.prog.info? 55).map (fun i => (i.zero, i.size, i.bytes)) = some (some (.agg #[.int .i16 0, .int .i16 0]), 2, 4) := by kernel_rfl

theorem SecF.step {k : Nat} {P R : Nat → Int} {f : Nat → Value} (h : SecF k P R f) : SecF (k + 1) P R (updV (updV f (k * 2) (.int .i16 (P k))) (k * 2 + 1) (.int .i16 (R k))) := by
  intro i hi
  by_cases e : i = k
  · subst e
    rw [updV_other _ _ _ (by omega), updV_same, updV_same]
    exact ⟨rfl, rfl⟩
  · rw [updV_other _ _ _ (by omega), updV_other _ _ _ (by omega), updV_other _ _ _ (by omega), updV_other _ _ _ (by omega)]
    exact h i (by omega)

theorem toSectionS_any (a : Option Addr) (n c : Nat) (P R : Nat → Int) (w : World) (hn : n ≤ 1048576) (hh : SecIn w a n P R) :
    Calls Try.prog 20 #[.slice a n c] w fun e w' => e = .returned (.slice (some ⟨w.heap.size, 0, none⟩) n n) ∧ Below w.heap.size w w' ∧ ∃ f, BlkAt w' 55 w.heap.size (n * 2) f ∧ SecF n P R f := by
  obtain ⟨i0, hi, hz0, hz1, hz2⟩ := info_parts infoSection
  obtain ⟨f0, hmk⟩ := run_make_n w 33 55 i0 _ Try.underlying33 hi hz0 2 4 n hz1 hz2 (by omega) (by omega)
  clear hi hz0 hz1 hz2
  have HH := Lib.hid hh; clear hh
  have hb0 : Below w.heap.size w (w.alloc (.cells (cf (n * 2) f0) 55)) := (Below.refl _ _).alloc (Nat.le_refl _) _
  have hk0 := BlkAt.new w 55 (n * 2) f0
  have HB0 := Lib.hid hb0; have HK0 := Lib.hid hk0; clear hb0 hk0
  go_enter Try.func20, Try.ntmps20
  go_wp2
  go_loopw [4] (fun i w' => Below w.heap.size w w' ∧ ∃ k : Nat, k ≤ n ∧ i = .int .i64 k ∧ ∃ f, BlkAt w' 55 w.heap.size (n * 2) f ∧ SecF k P R f) (fun i _ => n - (intOf i).toNat)
  case atStart => exact ⟨HB0.out, 0, by omega, rfl, f0, HK0.out, fun i hi => absurd hi (by omega)⟩
  case round =>
    clear HB0 HK0 hmk
    obtain ⟨hb, k, hk, rfl, f, hB, hF⟩ := hrel
    have HB := Lib.hid hB; have HF := Lib.hid hF; clear hB hF
    by_cases hlt : k < n
    · have hx := SecIn.get HH.out (show 0 < n by omega)
      obtain ⟨ad, rfl, hg, hc⟩ := hx
      have c0 := (hb.cell (p := ad.add (k * 2)) (by rw [add_block]; exact hg)).trans (hc k hlt).1
      have c1 := (hb.cell (p := ⟨(ad.add (k * 2)).block, (ad.add (k * 2)).off + 1, none⟩) (by rw [add_block]; exact hg)).trans (hc k hlt).2
      clear hc
      have hlb := HB.out.lt
      go_wp2_with (go_at_call 37; refine (toSection_any _ _ _).mono ?_; rintro e w1 ⟨rfl, hb1⟩; have HB1 := Lib.hid (HB.out.below hb1 hlb); have d0 := HB1.out.cell (k * 2) (by omega); have d1 := HB1.out.cell (k * 2 + 1) (by omega); have e0 := HB1.out.frozen (k * 2); have e1 := HB1.out.frozen (k * 2 + 1))
      go_roundw
      case rel => exact ⟨((hb.trans (hb1.mono hb.size)).setCell (Nat.le_refl _) _).setCell (Nat.le_refl _) _, k + 1, by omega, by go_num, _, (HB1.out.setCell (k * 2) _ (by omega)).setCell (k * 2 + 1) _ (by omega), HF.out.step⟩
      case measure => simp [intOf]; omega
    · have hkn : k = n := by omega
      subst hkn
      go_wp2
      go_ret
      exact ⟨rfl, hb, f, HB.out, HF.out⟩

theorem eqSection_any (p r : Int) (w : World) :
    Calls Try.prog 47 #[.agg #[.int .i16 p, .int .i16 r], .agg #[.int .i16 p, .int .i16 r]] w fun e w' => e = .returned (.bool true) ∧ Below w.heap.size w w' := by
  go_enter Try.func47, Try.ntmps47
  go_wp2
  go_ret
  exact ⟨rfl, ((Below.refl _ _).alloc (Nat.le_refl _) _).alloc (by simp) _⟩
set_option maxRecDepth 100000 in
theorem eqSectionS_any (a b : Option Addr) (n c d : Nat) (P R : Nat → Int) (w : World) (hn : n ≤ 1000000000000) (ha : SecAt w a n P R) (hb : SecAt w b n P R) :
    Calls Try.prog 29 #[.slice a n c, .slice b n d] w fun e w' => e = .returned (.bool true) ∧ Below w.heap.size w w' := by
  have HA := Lib.hid ha; have HB := Lib.hid hb; clear ha hb
  go_enter Try.func29, Try.ntmps29
  go_wp2
  go_loopw [5] (fun i w' => Below w.heap.size w w' ∧ ∃ k : Nat, k ≤ n ∧ i = .int .i64 k) (fun i _ => n - (intOf i).toNat)
  case atStart => exact ⟨Below.refl _ _, 0, by omega, rfl⟩
  case round =>
    obtain ⟨hb, k, hk, rfl⟩ := hrel
    by_cases hlt : k < n
    · have hx := SecAt.get HA.out (show 0 < n by omega)
      have hy := SecAt.get HB.out (show 0 < n by omega)
      obtain ⟨g, off, rfl, hg, hc⟩ := hx
      obtain ⟨g', off', rfl, hg', hc'⟩ := hy
      have c0 := (hb.cell (p := ⟨g, off + k * 2, none⟩) hg).trans (hc k hlt).1
      have c1 := (hb.cell (p := ⟨g, off + k * 2 + 1, none⟩) hg).trans (hc k hlt).2
      have c2 := (hb.cell (p := ⟨g', off' + k * 2, none⟩) hg').trans (hc' k hlt).1
      have c3 := (hb.cell (p := ⟨g', off' + k * 2 + 1, none⟩) hg').trans (hc' k hlt).2
      clear hc hc'
      go_wp2
      go_still_tail 8, (by kernel_rfl)
      go_wp2_with (go_at_call 47; refine (eqSection_any _ _ _).mono ?_; rintro e w1 ⟨rfl, hb1⟩)
      go_roundw
      case rel => exact ⟨hb.trans ((Below.refl _ _).drew.trans (hb1.mono hb.size)), k + 1, by omega, by go_num⟩
      case measure => simp [intOf]; omega
    · go_wp2
      go_ret
      exact ⟨rfl, hb⟩
theorem kp_secIn {w : World} {a : Option Addr} {n : Nat} {F S : Nat → Int} (h : SecIn w a n F S) : Kp w (fun V => SecIn V a n F S) := Kp.mk fun _ hb => h.below hb
theorem kp_sec {w : World} {a : Option Addr} {n : Nat} {F S : Nat → Int} (h : SecAt w a n F S) : Kp w (fun V => SecAt V a n F S) := Kp.mk fun _ hb => h.below hb
end Go.Proofs.Ytfefclngfeihiaa
