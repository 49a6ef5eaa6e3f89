/- Notes: slices of them that come in, copies, equality. No conditions. -/
import Derived.Test.YteffaghcjpeblaaSec
import Derived.Test.YteffaghcjpeblaaOwn
import Derived.Outline
namespace Go.Proofs.Yteffaghcjpeblaa
open Go.RowKit
set_option linter.unusedVariables false
set_option linter.unusedSimpArgs false

/-- a slice at the address a reads as n notes -/
def NoteAt (w : World) (a : Option Addr) (n : Nat) (P R : Nat → Int) : Prop :=
  0 < n → ∃ g off, a = some ⟨g, off, none⟩ ∧ g < w.heap.size ∧
    ∀ i, i < n → w.cell? ⟨g, off + i * 2, none⟩ = some (.int .i16 (P i)) ∧ w.cell? ⟨g, off + i * 2 + 1, none⟩ = some (.int .i8 (R i))
theorem NoteAt.get {w : World} {a : Option Addr} {n : Nat} {P R : Nat → Int} (h : NoteAt w a n P R) (hn : 0 < n) : ∃ g off, a = some ⟨g, off, none⟩ ∧ g < w.heap.size ∧
    ∀ i, i < n → w.cell? ⟨g, off + i * 2, none⟩ = some (.int .i16 (P i)) ∧ w.cell? ⟨g, off + i * 2 + 1, none⟩ = some (.int .i8 (R i)) := h hn
theorem NoteAt.below {w w' : World} {a : Option Addr} {n : Nat} {P R : Nat → Int} (h : NoteAt w a n P R) (hb : Below w.heap.size w w') : NoteAt w' a n P R := by
  intro hn
  obtain ⟨g, off, rfl, hg, hc⟩ := h hn
  refine ⟨g, off, rfl, Nat.lt_of_lt_of_le hg hb.size, fun i hi => ?_⟩
  rw [hb.cell (p := ⟨g, off + i * 2, none⟩) hg, hb.cell (p := ⟨g, off + i * 2 + 1, none⟩) hg]
  exact hc i hi


theorem kp_note {w : World} {a : Option Addr} {n : Nat} {P R : Nat → Int} (h : NoteAt w a n P R) : Kp w (fun V => NoteAt V a n P R) := Kp.mk fun _ hb => h.below hb
/-- a slice that came in, at the address a, reads as n notes -/
def NoteIn (w : World) (a : Option Addr) (n : Nat) (P R : Nat → Int) : Prop :=
  0 < n → ∃ ad, a = some ad ∧ ad.block < w.heap.size ∧
    ∀ i, i < n → w.cell? (ad.add (i * 2)) = some (.int .i16 (P i)) ∧ w.cell? ⟨(ad.add (i * 2)).block, (ad.add (i * 2)).off + 1, none⟩ = some (.int .i8 (R i))

theorem NoteIn.get {w : World} {a : Option Addr} {n : Nat} {P R : Nat → Int} (h : NoteIn w a n P R) (hn : 0 < n) : ∃ ad, a = some ad ∧ ad.block < w.heap.size ∧
    ∀ i, i < n → w.cell? (ad.add (i * 2)) = some (.int .i16 (P i)) ∧ w.cell? ⟨(ad.add (i * 2)).block, (ad.add (i * 2)).off + 1, none⟩ = some (.int .i8 (R i)) := h hn
theorem NoteIn.below {w w' : World} {a : Option Addr} {n : Nat} {P R : Nat → Int} (h : NoteIn w a n P R) (hb : Below w.heap.size w w') : NoteIn w' a n P R := by
  intro hn
  obtain ⟨ad, rfl, hg, hc⟩ := h hn
  refine ⟨ad, rfl, Nat.lt_of_lt_of_le hg hb.size, fun i hi => ?_⟩
  rw [hb.cell (p := ad.add (i * 2)) (by rw [add_block]; exact hg), hb.cell (p := ⟨(ad.add (i * 2)).block, (ad.add (i * 2)).off + 1, none⟩) (by rw [add_block]; exact hg)]
  exact hc i hi
/-- a block bears n notes -/
def NoteF (n : Nat) (P R : Nat → Int) (f : Nat → Value) : Prop := ∀ i, i < n → f (i * 2) = .int .i16 (P i) ∧ f (i * 2 + 1) = .int .i8 (R i)
theorem NoteF.at {w : World} {T g n : Nat} {P R : Nat → Int} {f : Nat → Value} (h : NoteF n P R f) (hb : BlkAt w T g (n * 2) f) : NoteAt w (some ⟨g, 0, none⟩) n P R := fun _ =>
  ⟨g, 0, rfl, hb.lt, fun i hi => by
    rw [Nat.zero_add, hb.cell (i * 2) (by omega), hb.cell (i * 2 + 1) (by omega), (h i hi).1, (h i hi).2]
    exact ⟨rfl, rfl⟩⟩
theorem infoNote : (Try.prog.info? 56).map (fun i => (i.zero, i.size, i.bytes)) = some (some (.agg #[.int .i16 0, .int .i8 0]), 2, 4) := by kernel_rfl

theorem NoteF.step {k : Nat} {P R : Nat → Int} {f : Nat → Value} (h : NoteF k P R f) : NoteF (k + 1) P R (updV (updV f (k * 2) (.int .i16 (P k))) (k * 2 + 1) (.int .i8 (R k))) := by
  intro i hi
  by_cases e : i = k
  · subst e
    rw [updV_other _ _ _ (by omega), updV_same, updV_same]
    exact ⟨rfl, rfl⟩
  · rw [updV_other _ _ _ (by omega), updV_other _ _ _ (by omega), updV_other _ _ _ (by omega), updV_other _ _ _ (by omega)]
    exact h i (by omega)

theorem kp_noteIn {w : World} {a : Option Addr} {n : Nat} {P R : Nat → Int} (h : NoteIn w a n P R) : Kp w (fun V => NoteIn V a n P R) := Kp.mk fun _ hb => h.below hb
theorem toNote_any (p r : Int) (w : World) :
    Calls Try.prog 23 #[.agg #[.int .i16 p, .int .i8 r]] w fun e w' => e = .returned (.agg #[.int .i16 p, .int .i8 r]) ∧ Below w.heap.size w w' := by
  go_enter Try.func23, Try.ntmps23
  go_wp2
  refine bodyPost_ret (v := .agg #[.int .i16 p, .int .i8 r]) (by simp [results, Try.results23, go_sem]) rfl ⟨rfl, ?_⟩
  exact (((Below.refl _ _).alloc (Nat.le_refl _) _).alloc (by simp) _).alloc (by simp; omega) _
theorem szTune_kp (a : Option Addr) (n c : Nat) (l : Int) (w : World) (hn : n ≤ 9223372036854775807) (hl : 0 ≤ l ∧ l ≤ 1048576) :
    Calls Try.prog 5 #[.slice a n c, .int .i64 l] w fun e w' => e = .returned (.int .i64 (szOf l n)) ∧ Below w.heap.size w w' := by
  by_cases h : l < n
  · go_enter Try.func5, Try.ntmps5
    go_wp2
    go_ret
    exact ⟨ret_int (by rw [szOf_lt h]), Below.refl _ _⟩
  · go_enter Try.func5, Try.ntmps5
    go_wp2
    go_ret
    exact ⟨ret_int (by rw [szOf_ge (by omega)]), Below.refl _ _⟩
set_option maxRecDepth 100000 in
theorem toTune_own (a : Option Addr) (n c : Nat) (A P : Nat → Int) (w : World) (hn : n ≤ 1048576) (hh : NoteIn w a n A P) :
    Calls Try.prog 7 #[.slice a n c] w fun e w' => ∃ b, e = .returned (.slice b n n) ∧ Below w.heap.size w w' ∧ Kp w' (fun V => NoteAt V b n A P) ∧ ∃ xs, Kp w' (fun V => V.ownsRow w.heap.size 56 2 (.slice b n n) n xs) := by
  obtain ⟨i0, hi, hz0, hz1, hz2⟩ := info_parts infoNote
  obtain ⟨f0, hmk⟩ := run_make_n w 31 56 i0 _ Try.underlying31 hi hz0 2 4 n hz1 hz2 (by omega) (by omega)
  clear hi hz0 hz1 hz2
  have HH := Lib.hid hh; clear hh
  have hb0 : Below w.heap.size w (w.alloc (.cells (cf (n * 2) f0) 56)) := (Below.refl _ _).alloc (Nat.le_refl _) _
  have hk0 := BlkAt.new w 56 (n * 2) f0
  have HB0 := Lib.hid hb0; have HK0 := Lib.hid hk0; clear hb0 hk0
  go_enter Try.func7, Try.ntmps7
  go_wp2
  go_loopw [4] (fun i w' => Below w.heap.size w w' ∧ ∃ k : Nat, k ≤ n ∧ i = .int .i64 k ∧ ∃ f, BlkAt w' 56 w.heap.size (n * 2) f ∧ NoteF k A P f) (fun i _ => n - (intOf i).toNat)
  case atStart => exact ⟨HB0.out, 0, by omega, rfl, f0, HK0.out, fun i hi => absurd hi (by omega)⟩
  case round =>
    clear HB0 HK0 hmk
    obtain ⟨hb, k, hk, rfl, f, hB, hF⟩ := hrel
    have HB := Lib.hid hB; have HF := Lib.hid hF; clear hB hF
    by_cases hlt : k < n
    · have hx := NoteIn.get HH.out (show 0 < n by omega)
      obtain ⟨ad, rfl, hg, hc⟩ := hx
      have c0 := (hb.cell (p := ad.add (k * 2)) (by rw [add_block]; exact hg)).trans (hc k hlt).1
      have c1 := (hb.cell (p := ⟨(ad.add (k * 2)).block, (ad.add (k * 2)).off + 1, none⟩) (by rw [add_block]; exact hg)).trans (hc k hlt).2
      clear hc
      have hlb := HB.out.lt
      go_wp2_with (go_at_call 23; refine (toNote_any _ _ _).mono ?_; rintro e w1 ⟨rfl, hb1⟩; have HB1 := Lib.hid (HB.out.below hb1 hlb); have d0 := HB1.out.cell (k * 2) (by omega); have d1 := HB1.out.cell (k * 2 + 1) (by omega); have e0 := HB1.out.frozen (k * 2); have e1 := HB1.out.frozen (k * 2 + 1))
      go_roundw
      case rel => exact ⟨((hb.trans (hb1.mono hb.size)).setCell (Nat.le_refl _) _).setCell (Nat.le_refl _) _, k + 1, by omega, by go_num, _, (HB1.out.setCell (k * 2) _ (by omega)).setCell (k * 2 + 1) _ (by omega), HF.out.step⟩
      case measure => simp [intOf]; omega
    · have hkn : k = n := by omega
      subst hkn
      go_wp2
      go_ret
      exact ⟨_, rfl, hb, kp_note (HF.out.at HB.out), _, kp_ownR (own_blk HB.out (by omega) (Nat.le_refl _) (by unfold maxLen; omega))⟩
theorem toTune_kp (a : Option Addr) (n c : Nat) (A P : Nat → Int) (w : World) (hn : n ≤ 1048576) (hh : NoteIn w a n A P) :
    Calls Try.prog 7 #[.slice a n c] w fun e w' => ∃ b, e = .returned (.slice b n n) ∧ Below w.heap.size w w' ∧ Kp w' (fun V => NoteAt V b n A P) :=
  (toTune_own a n c A P w hn hh).mono fun _ _ ⟨b, he, hb, hk, _⟩ => ⟨b, he, hb, hk⟩
theorem eqNote_any (p r : Int) (w : World) :
    Calls Try.prog 31 #[.agg #[.int .i16 p, .int .i8 r], .agg #[.int .i16 p, .int .i8 r]] w fun e w' => e = .returned (.bool true) ∧ Below w.heap.size w w' := by
  go_enter Try.func31, Try.ntmps31
  go_wp2
  go_ret
  exact ⟨rfl, ((Below.refl _ _).alloc (Nat.le_refl _) _).alloc (by simp) _⟩
set_option maxRecDepth 100000 in
theorem eqTune_kp (a b : Option Addr) (n c d : Nat) (A P : Nat → Int) (w : World) (hn : n ≤ 1000000000) (ha : NoteAt w a n A P) (hb : NoteAt w b n A P) :
    Calls Try.prog 10 #[.slice a n c, .slice b n d] w fun e w' => e = .returned (.bool true) ∧ Below w.heap.size w w' := by
  have KA := kp_note ha; have KC := kp_note hb; clear ha hb
  go_enter Try.func10, Try.ntmps10
  go_wp2
  go_loopw [5] (fun i w' => Below w.heap.size w w' ∧ ∃ k : Nat, k ≤ n ∧ i = .int .i64 k) (fun i _ => n - (intOf i).toNat)
  case atStart => exact ⟨Below.refl _ _, 0, by omega, rfl⟩
  case round =>
    obtain ⟨hb, k, hk, rfl⟩ := hrel
    replace KA := KA.on hb
    replace KC := KC.on hb
    by_cases hlt : k < n
    · have hx := NoteAt.get KA.here (show 0 < n by omega)
      have hy := NoteAt.get KC.here (show 0 < n by omega)
      obtain ⟨g, off, rfl, hg, hc⟩ := hx
      obtain ⟨g', off', rfl, hg', hc'⟩ := hy
      have c0 := (hc k hlt).1
      have c1 := (hc k hlt).2
      have e0 := (hc' k hlt).1
      have e1 := (hc' k hlt).2
      clear hc hc'
      have hk' : (k : Int) < n := by omega
      go_wp2
      go_still_tail 8, (by kernel_rfl)
      go_wp2_with (go_at_call 31; refine (eqNote_any _ _ _).mono ?_; rintro e w1 ⟨rfl, hb1⟩)
      go_roundw
      case rel => exact ⟨hb.trans ((Below.refl _ _).drew.trans (hb1.mono hb.size)), k + 1, by omega, by go_num⟩
      case measure => simp [intOf]; omega
    · go_wp2
      go_ret
      exact ⟨rfl, hb⟩
end Go.Proofs.Yteffaghcjpeblaa
