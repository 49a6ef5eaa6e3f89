/- Changes: slices of them that come in, copies, equality. No conditions. -/
import Derived.Test.YteboefffkpcnaaaDoorSec
import Derived.Test.YteboefffkpcnaaaDoorOwn
import Derived.Outline
namespace Go.Proofs.YteboefffkpcnaaaDoor
open Go.RowKit
set_option linter.unusedVariables false
set_option linter.unusedSimpArgs false

/-- a slice that came in reads as n changes -/
def ChgIn (w : World) (a : Option Addr) (n : Nat) (S K : Nat → Int) (U : Nat → Bool) : Prop :=
  0 < n → ∃ ad, a = some ad ∧ ad.block < w.heap.size ∧
    ∀ i, i < n → w.cell? (ad.add (i * 3)) = some (.int .i16 (S i)) ∧ w.cell? ⟨(ad.add (i * 3)).block, (ad.add (i * 3)).off + 1, none⟩ = some (.int .i8 (K i)) ∧ w.cell? ⟨(ad.add (i * 3)).block, (ad.add (i * 3)).off + 2, none⟩ = some (.bool (U i))
theorem ChgIn.get {w : World} {a : Option Addr} {n : Nat} {S K : Nat → Int} {U : Nat → Bool} (h : ChgIn w a n S K U) (hn : 0 < n) : ∃ ad, a = some ad ∧ ad.block < w.heap.size ∧
    ∀ i, i < n → w.cell? (ad.add (i * 3)) = some (.int .i16 (S i)) ∧ w.cell? ⟨(ad.add (i * 3)).block, (ad.add (i * 3)).off + 1, none⟩ = some (.int .i8 (K i)) ∧ w.cell? ⟨(ad.add (i * 3)).block, (ad.add (i * 3)).off + 2, none⟩ = some (.bool (U i)) := h hn
theorem ChgIn.below {w w' : World} {a : Option Addr} {n : Nat} {S K : Nat → Int} {U : Nat → Bool} (h : ChgIn w a n S K U) (hb : Below w.heap.size w w') : ChgIn w' a n S K U := by
  intro hn
  obtain ⟨ad, rfl, hg, hc⟩ := h hn
  refine ⟨ad, rfl, Nat.lt_of_lt_of_le hg hb.size, fun i hi => ?_⟩
  rw [hb.cell (p := ad.add (i * 3)) (by rw [add_block]; exact hg), hb.cell (p := ⟨(ad.add (i * 3)).block, (ad.add (i * 3)).off + 1, none⟩) (by rw [add_block]; exact hg), hb.cell (p := ⟨(ad.add (i * 3)).block, (ad.add (i * 3)).off + 2, none⟩) (by rw [add_block]; exact hg)]
  exact hc i hi
/-- a slice at the address a reads as n changes -/
def ChgAt (w : World) (a : Option Addr) (n : Nat) (S K : Nat → Int) (U : Nat → Bool) : Prop :=
  0 < n → ∃ g off, a = some ⟨g, off, none⟩ ∧ g < w.heap.size ∧
    ∀ i, i < n → w.cell? ⟨g, off + i * 3, none⟩ = some (.int .i16 (S i)) ∧ w.cell? ⟨g, off + i * 3 + 1, none⟩ = some (.int .i8 (K i)) ∧ w.cell? ⟨g, off + i * 3 + 2, none⟩ = some (.bool (U i))
theorem ChgAt.get {w : World} {a : Option Addr} {n : Nat} {S K : Nat → Int} {U : Nat → Bool} (h : ChgAt w a n S K U) (hn : 0 < n) : ∃ g off, a = some ⟨g, off, none⟩ ∧ g < w.heap.size ∧
    ∀ i, i < n → w.cell? ⟨g, off + i * 3, none⟩ = some (.int .i16 (S i)) ∧ w.cell? ⟨g, off + i * 3 + 1, none⟩ = some (.int .i8 (K i)) ∧ w.cell? ⟨g, off + i * 3 + 2, none⟩ = some (.bool (U i)) := h hn
theorem ChgAt.below {w w' : World} {a : Option Addr} {n : Nat} {S K : Nat → Int} {U : Nat → Bool} (h : ChgAt w a n S K U) (hb : Below w.heap.size w w') : ChgAt w' a n S K U := by
  intro hn
  obtain ⟨g, off, rfl, hg, hc⟩ := h hn
  refine ⟨g, off, rfl, Nat.lt_of_lt_of_le hg hb.size, fun i hi => ?_⟩
  rw [hb.cell (p := ⟨g, off + i * 3, none⟩) hg, hb.cell (p := ⟨g, off + i * 3 + 1, none⟩) hg, hb.cell (p := ⟨g, off + i * 3 + 2, none⟩) hg]
  exact hc i hi
/-- a block bears n changes -/
def ChgF (n : Nat) (S K : Nat → Int) (U : Nat → Bool) (f : Nat → Value) : Prop := ∀ i, i < n → f (i * 3) = .int .i16 (S i) ∧ f (i * 3 + 1) = .int .i8 (K i) ∧ f (i * 3 + 2) = .bool (U i)
theorem ChgF.at {w : World} {T g n : Nat} {S K : Nat → Int} {U : Nat → Bool} {f : Nat → Value} (h : ChgF n S K U f) (hb : BlkAt w T g (n * 3) f) : ChgAt w (some ⟨g, 0, none⟩) n S K U := fun _ =>
  ⟨g, 0, rfl, hb.lt, fun i hi => by
    rw [Nat.zero_add, hb.cell (i * 3) (by omega), hb.cell (i * 3 + 1) (by omega), hb.cell (i * 3 + 2) (by omega), (h i hi).1, (h i hi).2.1, (h i hi).2.2]
    exact ⟨rfl, rfl, rfl⟩⟩
theorem ChgF.step {k : Nat} {S K : Nat → Int} {U : Nat → Bool} {f : Nat → Value} (h : ChgF k S K U f) : ChgF (k + 1) S K U (updV (updV (updV f (k * 3) (.int .i16 (S k))) (k * 3 + 1) (.int .i8 (K k))) (k * 3 + 2) (.bool (U k))) := by
  intro i hi
  by_cases e : i = k
  · subst e
    rw [updV_other _ _ _ (by omega), updV_other _ _ _ (by omega), updV_same, updV_other _ _ _ (by omega), updV_same, updV_same]
    exact ⟨rfl, rfl, rfl⟩
  · rw [updV_other _ _ _ (by omega), updV_other _ _ _ (by omega), updV_other _ _ _ (by omega), updV_other _ _ _ (by omega), updV_other _ _ _ (by omega), updV_other _ _ _ (by omega), updV_other _ _ _ (by omega), updV_other _ _ _ (by omega), updV_other _ _ _ (by omega)]
    exact h i (by omega)
theorem kp_chgIn {w : World} {a : Option Addr} {n : Nat} {S K : Nat → Int} {U : Nat → Bool} (h : ChgIn w a n S K U) : Kp w (fun V => ChgIn V a n S K U) := Kp.mk fun _ hb => h.below hb
theorem kp_chg {w : World} {a : Option Addr} {n : Nat} {S K : Nat → Int} {U : Nat → Bool} (h : ChgAt w a n S K U) : Kp w (fun V => ChgAt V a n S K U) := Kp.mk fun _ hb => h.below hb
theorem infoChange : (Tryd.prog.info? 61).map (fun i => (i.zero, i.size, i.bytes)) = some (some (.agg #[.int .i16 0, .int .i8 0, .bool false]), 3, 4) := by kernel_rfl
theorem toChange_any (p r : Int) (u : Bool) (w : World) :
    Calls Tryd.prog 32 #[.agg #[.int .i16 p, .int .i8 r, .bool u]] w fun e w' => e = .returned (.agg #[.int .i16 p, .int .i8 r, .bool u]) ∧ Below w.heap.size w w' := by
  go_enter Tryd.func32, Tryd.ntmps32
  go_wp2
  refine bodyPost_ret (v := .agg #[.int .i16 p, .int .i8 r, .bool u]) (by simp [results, Tryd.results32, go_sem]) rfl ⟨rfl, ?_⟩
  exact (((Below.refl _ _).alloc (Nat.le_refl _) _).alloc (by simp) _).alloc (by simp; omega) _
theorem szChangeS_kp (a : Option Addr) (n c : Nat) (l : Int) (w : World) (hn : n ≤ 9223372036854775807) (hl : 0 ≤ l ∧ l ≤ 1048576) :
    Calls Tryd.prog 11 #[.slice a n c, .int .i64 l] w fun e w' => e = .returned (.int .i64 (szOf l n)) ∧ Below w.heap.size w w' := by
  by_cases h : l < n
  · go_enter Tryd.func11, Tryd.ntmps11
    go_wp2
    go_ret
    exact ⟨ret_int (by rw [szOf_lt h]), Below.refl _ _⟩
  · go_enter Tryd.func11, Tryd.ntmps11
    go_wp2
    go_ret
    exact ⟨ret_int (by rw [szOf_ge (by omega)]), Below.refl _ _⟩
set_option maxRecDepth 100000 in
theorem toChangeS_own (a : Option Addr) (n c : Nat) (S K : Nat → Int) (U : Nat → Bool) (w : World) (hn : n ≤ 1048576) (hh : ChgIn w a n S K U) :
    Calls Tryd.prog 13 #[.slice a n c] w fun e w' => ∃ b, e = .returned (.slice b n n) ∧ Below w.heap.size w w' ∧ Kp w' (fun V => ChgAt V b n S K U) ∧ ∃ xs, Kp w' (fun V => V.ownsRow w.heap.size 61 3 (.slice b n n) n xs) := by
  obtain ⟨i0, hi, hz0, hz1, hz2⟩ := info_parts infoChange
  obtain ⟨f0, hmk⟩ := run_make_n w 30 61 i0 _ Tryd.underlying30 hi hz0 3 4 n hz1 hz2 (by omega) (by omega)
  clear hi hz0 hz1 hz2
  have HH := Lib.hid hh; clear hh
  have hb0 : Below w.heap.size w (w.alloc (.cells (cf (n * 3) f0) 61)) := (Below.refl _ _).alloc (Nat.le_refl _) _
  have hk0 := BlkAt.new w 61 (n * 3) f0
  have HB0 := Lib.hid hb0; have HK0 := Lib.hid hk0; clear hb0 hk0
  go_enter Tryd.func13, Tryd.ntmps13
  go_wp2
  go_loopw [4] (fun i w' => Below w.heap.size w w' ∧ ∃ k : Nat, k ≤ n ∧ i = .int .i64 k ∧ ∃ f, BlkAt w' 61 w.heap.size (n * 3) f ∧ ChgF k S K U f) (fun i _ => n - (intOf i).toNat)
  case atStart => exact ⟨HB0.out, 0, by omega, rfl, f0, HK0.out, fun i hi => absurd hi (by omega)⟩
  case round =>
    clear HB0 HK0 hmk
    obtain ⟨hb, k, hk, rfl, f, hB, hF⟩ := hrel
    have HB := Lib.hid hB; have HF := Lib.hid hF; clear hB hF
    by_cases hlt : k < n
    · have hx := ChgIn.get HH.out (show 0 < n by omega)
      obtain ⟨ad, rfl, hg, hc⟩ := hx
      have c0 := (hb.cell (p := ad.add (k * 3)) (by rw [add_block]; exact hg)).trans (hc k hlt).1
      have c1 := (hb.cell (p := ⟨(ad.add (k * 3)).block, (ad.add (k * 3)).off + 1, none⟩) (by rw [add_block]; exact hg)).trans (hc k hlt).2.1
      have c2 := (hb.cell (p := ⟨(ad.add (k * 3)).block, (ad.add (k * 3)).off + 2, none⟩) (by rw [add_block]; exact hg)).trans (hc k hlt).2.2
      clear hc
      have hlb := HB.out.lt
      go_wp2_with (go_at_call 32; refine (toChange_any _ _ _ _).mono ?_; rintro e w1 ⟨rfl, hb1⟩; have HB1 := Lib.hid (HB.out.below hb1 hlb); have d0 := HB1.out.cell (k * 3) (by omega); have d1 := HB1.out.cell (k * 3 + 1) (by omega); have d2 := HB1.out.cell (k * 3 + 2) (by omega); have e0 := HB1.out.frozen (k * 3); have e1 := HB1.out.frozen (k * 3 + 1); have e2 := HB1.out.frozen (k * 3 + 2))
      go_roundw
      case rel => exact ⟨(((hb.trans (hb1.mono hb.size)).setCell (Nat.le_refl _) _).setCell (Nat.le_refl _) _).setCell (Nat.le_refl _) _, k + 1, by omega, by go_num, _, ((HB1.out.setCell (k * 3) _ (by omega)).setCell (k * 3 + 1) _ (by omega)).setCell (k * 3 + 2) _ (by omega), HF.out.step⟩
      case measure => simp [intOf]; omega
    · have hkn : k = n := by omega
      subst hkn
      go_wp2
      go_ret
      exact ⟨_, rfl, hb, kp_chg (HF.out.at HB.out), _, kp_ownR (own_blk HB.out (by omega) (Nat.le_refl _) (by unfold maxLen; omega))⟩
theorem toChangeS_kp (a : Option Addr) (n c : Nat) (S K : Nat → Int) (U : Nat → Bool) (w : World) (hn : n ≤ 1048576) (hh : ChgIn w a n S K U) :
    Calls Tryd.prog 13 #[.slice a n c] w fun e w' => ∃ b, e = .returned (.slice b n n) ∧ Below w.heap.size w w' ∧ Kp w' (fun V => ChgAt V b n S K U) :=
  (toChangeS_own a n c S K U w hn hh).mono fun _ _ ⟨b, he, hb, hk, _⟩ => ⟨b, he, hb, hk⟩
theorem eqChange_any (p r : Int) (u : Bool) (w : World) :
    Calls Tryd.prog 37 #[.agg #[.int .i16 p, .int .i8 r, .bool u], .agg #[.int .i16 p, .int .i8 r, .bool u]] w fun e w' => e = .returned (.bool true) ∧ Below w.heap.size w w' := by
  go_enter Tryd.func37, Tryd.ntmps37
  go_wp2
  go_ret
  exact ⟨rfl, ((Below.refl _ _).alloc (Nat.le_refl _) _).alloc (by simp) _⟩
set_option maxRecDepth 100000 in
theorem eqChangeS_kp (a b : Option Addr) (n c d : Nat) (S K : Nat → Int) (U : Nat → Bool) (w : World) (hn : n ≤ 1000000000) (ha : ChgAt w a n S K U) (hb : ChgAt w b n S K U) :
    Calls Tryd.prog 15 #[.slice a n c, .slice b n d] w fun e w' => e = .returned (.bool true) ∧ Below w.heap.size w w' := by
  have KA := kp_chg ha; have KC := kp_chg hb; clear ha hb
  go_enter Tryd.func15, Tryd.ntmps15
  go_wp2
  go_loopw [5] (fun i w' => Below w.heap.size w w' ∧ ∃ k : Nat, k ≤ n ∧ i = .int .i64 k) (fun i _ => n - (intOf i).toNat)
  case atStart => exact ⟨Below.refl _ _, 0, by omega, rfl⟩
  case round =>
    obtain ⟨hb, k, hk, rfl⟩ := hrel
    replace KA := KA.on hb
    replace KC := KC.on hb
    by_cases hlt : k < n
    · have hx := ChgAt.get KA.here (show 0 < n by omega)
      have hy := ChgAt.get KC.here (show 0 < n by omega)
      obtain ⟨g, off, rfl, hg, hc⟩ := hx
      obtain ⟨g', off', rfl, hg', hc'⟩ := hy
      have c0 := (hc k hlt).1
      have c1 := (hc k hlt).2.1
      have c2 := (hc k hlt).2.2
      have e0 := (hc' k hlt).1
      have e1 := (hc' k hlt).2.1
      have e2 := (hc' k hlt).2.2
      clear hc hc'
      have hk' : (k : Int) < n := by omega
      go_wp2
      go_still_tail 8, (by kernel_rfl)
      go_wp2_with (go_at_call 37; refine (eqChange_any _ _ _ _).mono ?_; rintro e w1 ⟨rfl, hb1⟩)
      go_roundw
      case rel => exact ⟨hb.trans ((Below.refl _ _).drew.trans (hb1.mono hb.size)), k + 1, by omega, by go_num⟩
      case measure => simp [intOf]; omega
    · go_wp2
      go_ret
      exact ⟨rfl, hb⟩
end Go.Proofs.YteboefffkpcnaaaDoor
