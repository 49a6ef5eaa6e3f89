/- Draws from bytes: the source. No conditions. -/
import Derived.Test.YtlcfjeofphncgaaKp
import Derived.Test.YtlcfjeofphncgaaHeld2
import Derived.Test.YtlcfjeofphncgaaOwn
import Derived.Outline
namespace Go.Proofs.Ytlcfjeofphncgaa
open Go.RowKit
set_option linter.unusedVariables false
set_option linter.unusedSimpArgs false

/-- all blocks but one are as they were, and so is all else -/
def KeepS (g : Nat) (w V : World) : Prop := w.heap.size ≤ V.heap.size ∧ (∀ j, j ≠ g → j < w.heap.size → V.heap[j]? = w.heap[j]?) ∧ V.os = w.os ∧ V.tape = w.tape ∧ V.output = w.output
section
variable {g : Nat} {w V U : World}
theorem KeepS.of (h : Below w.heap.size w V) : KeepS g w V := ⟨h.size, fun j _ hj => h.block j hj, h.os, h.tape, h.output⟩
theorem KeepS.trans (h : KeepS g w V) (h2 : KeepS g V U) : KeepS g w U := ⟨Nat.le_trans h.1 h2.1, fun j a hl => (h2.2.1 j a (Nat.lt_of_lt_of_le hl h.1)).trans (h.2.1 j a hl), h2.2.2.1.trans h.2.2.1, h2.2.2.2.1.trans h.2.2.2.1, h2.2.2.2.2.trans h.2.2.2.2⟩
theorem KeepS.refl (w : World) : KeepS g w w := ⟨Nat.le_refl _, fun _ _ _ => rfl, rfl, rfl, rfl⟩
theorem KeepS.row (h : KeepS g w V) {x : Nat} {o : Obj} (hx : w.heap[x]? = some o) (a : x ≠ g) : V.heap[x]? = some o := (h.2.1 x a (Array.getElem?_eq_some_iff.1 hx).1).trans hx
theorem KeepS.cell (h : KeepS g w V) {p : Addr} {v : Value} (hc : w.cell? p = some v) (hp : p.block < w.heap.size) (a : p.block ≠ g) : V.cell? p = some v := (World.cell?_of_block (h.2.1 p.block a hp)).trans hc
theorem KeepS.setCell (h : KeepS g w V) (k : Nat) (v : Value) : KeepS g w (V.setCell ⟨g, k, none⟩ v) := ⟨by have := h.1; simpa using this, fun j a hj => (heap_setCell_other _ _ j _ a).trans (h.2.1 j a hj), h.2.2.1, h.2.2.2.1, h.2.2.2.2⟩
theorem KeepS.grown (h : KeepS g w V) {base e sz n : Nat} {v : Value} {xs : List Value} (ho : w.ownsRow base e sz v n xs) (hb : g < base) : V.ownsRow base e sz v n xs := by
  refine own_grown ho (w' := V) (row := some g) ⟨h.2.2.1, h.2.2.2.1, h.2.2.2.2, h.1, fun k hk hne => h.2.1 k (fun e => hne (by rw [e])) hk⟩ fun k e => by cases e; exact hb
/-- older blocks stay when the kept block is young -/
theorem KeepS.below {B : Nat} (h : KeepS g w V) (hg : B ≤ g) (hB : B ≤ w.heap.size) : Below B w V := ⟨h.2.2.1, h.2.2.2.1, h.2.2.2.2, h.1, fun j hj => h.2.1 j (by omega) (by omega)⟩
theorem KeepS.and_below (h : KeepS g w V) (hb : Below (g + 1) V U) (hg : ∀ j, j ≠ g → j < w.heap.size → j < g + 1) : KeepS g w U := ⟨Nat.le_trans h.1 hb.size, fun j a hj => (hb.block j (hg j a hj)).trans (h.2.1 j a hj), hb.os.trans h.2.2.1, hb.tape.trans h.2.2.2.1, hb.output.trans h.2.2.2.2⟩
end
/-- so in every world in which all blocks but g are as in w -/
def Kx (g : Nat) (w : World) (P : World → Prop) : Prop := ∀ V, KeepS g w V → P V
section
variable {g : Nat} {w w' : World} {P : World → Prop}
theorem Kx.mk (h : ∀ V, KeepS g w V → P V) : Kx g w P := h
theorem Kx.at (h : Kx g w P) (hb : KeepS g w w') : P w' := h w' hb
theorem Kx.here (h : Kx g w P) : P w := h w (KeepS.refl _)
theorem Kx.on (h : Kx g w P) (hb : KeepS g w w') : Kx g w' P := fun V h2 => h V (hb.trans h2)
theorem Kx.under (h : Kx g w P) (hb : Below w.heap.size w w') : Kx g w' P := h.on (KeepS.of hb)
theorem Kx.alloc (h : Kx g w P) (o : Obj) : Kx g (w.alloc o) P := h.under ((Below.refl _ _).alloc (Nat.le_refl _) _)
theorem Kx.imp {R : World → Prop} (h : Kx g w P) (f : ∀ w', P w' → R w') : Kx g w R := fun w' hb => f w' (h w' hb)
end
attribute [irreducible] Kx
section
variable {g : Nat} {w : World}
theorem kx_row {x T : Nat} {cs : Array Value} {f : Nat × Nat} (h : w.heap[x]? = some (.cells cs T f)) (hne : x ≠ g) : Kx g w (fun V => V.heap[x]? = some (.cells cs T f)) := Kx.mk fun _ hb => hb.row h hne
theorem kx_own {base e sz n : Nat} {v : Value} {xs : List Value} (h : w.ownsRow base e sz v n xs) (hg : g < base) : Kx g w (fun V => V.ownsRow base e sz v n xs) := Kx.mk fun _ hb => hb.grown h hg
theorem kx_keep (g : Nat) (w : World) : Kx g w (fun V => KeepS g w V) := Kx.mk fun _ h => h
end
/-- bytes -/
def U8 (B : Nat → Int) : Prop := ∀ i, 0 ≤ B i ∧ B i ≤ 255
/-- a slice reads as n bytes that lie ahead of N -/
def BytIn (w : World) (N : Nat) (a : Option Addr) (n : Nat) (B : Nat → Int) : Prop :=
  0 < n → ∃ ad, a = some ad ∧ ad.block < N ∧ ∀ i, i < n → w.cell? (ad.add i) = some (.int .u8 (B i))
theorem BytIn.below {w w' : World} {N : Nat} {a : Option Addr} {n : Nat} {B : Nat → Int} (h : BytIn w N a n B) (hb : Below N w w') : BytIn w' N a n B := by
  intro hn
  obtain ⟨ad, rfl, hg, hc⟩ := h hn
  refine ⟨ad, rfl, hg, fun i hi => ?_⟩
  rw [hb.cell (p := ad.add i) (by rw [add_block]; exact hg)]
  exact hc i hi
theorem kp_byt {w : World} {a : Option Addr} {n : Nat} {B : Nat → Int} (h : BytIn w w.heap.size a n B) {N : Nat} (hN : N = w.heap.size) : Kp w (fun V => BytIn V N a n B) := Kp.mk fun _ hb => by subst hN; exact h.below hb
/-- the source: a block of its own, behind the bytes -/
structure SrcAt (W : World) (g : Nat) (a : Option Addr) (n c : Nat) (B : Nat → Int) (K : Nat) : Prop where
  u : U8 B
  b : BytIn W g a n B
  r : ∃ (p : Nat) (q : Int), p ≤ K ∧ 0 ≤ q ∧ q ≤ 18446744073709551615 ∧ W.heap[g]? = some (.cells #[.slice a n c, .int .i64 p, .int .u64 q] 102 (0, 0))
theorem SrcAt.lt {W : World} {g : Nat} {a : Option Addr} {n c : Nat} {B : Nat → Int} {K : Nat} (h : SrcAt W g a n c B K) : g < W.heap.size := by
  obtain ⟨p, q, _, _, _, h⟩ := h.r; exact row_lt h
theorem SrcAt.stay {W V : World} {g : Nat} {a : Option Addr} {n c : Nat} {B : Nat → Int} {K : Nat} (h : SrcAt W g a n c B K) (hb : Below (g + 1) W V) : SrcAt V g a n c B K := by
  refine ⟨h.u, h.b.below (hb.mono (Nat.le_succ _)), ?_⟩
  obtain ⟨p, q, h1, h2, h3, h4⟩ := h.r
  exact ⟨p, q, h1, h2, h3, (hb.block g (Nat.lt_succ_self _)).trans h4⟩
theorem SrcAt.below {W V : World} {g : Nat} {a : Option Addr} {n c : Nat} {B : Nat → Int} {K : Nat} (h : SrcAt W g a n c B K) (hb : Below W.heap.size W V) : SrcAt V g a n c B K := h.stay (hb.mono h.lt)
theorem SrcAt.more {W : World} {g : Nat} {a : Option Addr} {n c : Nat} {B : Nat → Int} {K L : Nat} (h : SrcAt W g a n c B K) (hl : K ≤ L) : SrcAt W g a n c B L := by
  refine ⟨h.u, h.b, ?_⟩
  obtain ⟨p, q, h1, h2⟩ := h.r
  exact ⟨p, q, Nat.le_trans h1 hl, h2⟩
theorem wraps_u64 (n : Int) (h₀ : 0 ≤ n) (h₁ : n < 2 ^ 64) : IntKind.u64.wrap n = n := by
  simp [IntKind.wrap, IntKind.bits, IntKind.signed]
  omega
theorem low_byte (z : Int) (h : 0 ≤ z ∧ z ≤ 18446744073709551615) : 0 ≤ wrap64 (bits .and .u64 (z / 1099511627776) 255) ∧ wrap64 (bits .and .u64 (z / 1099511627776) 255) ≤ 255 := by
  obtain ⟨y, hy⟩ : ∃ y : Nat, z / 1099511627776 = y := ⟨(z / 1099511627776).toNat, by omega⟩
  have hb := (bits_nat .u64 64 (by decide) wraps_u64 y 255 (by omega) (by decide)).1
  rw [hy, show (255 : Int) = ((255 : Nat) : Int) from rfl, hb]
  have h1 := Nat.and_le_right (n := y) (m := 255)
  have h2 : wrap64 ((y &&& 255 : Nat) : Int) = ((y &&& 255 : Nat) : Int) := by
    unfold wrap64; omega
  rw [h2]; omega
theorem u64_range (x : Int) : 0 ≤ IntKind.u64.wrap x ∧ IntKind.u64.wrap x ≤ 18446744073709551615 := by
  simp [IntKind.wrap, IntKind.bits, IntKind.signed]
  omega
/-- behind a draw -/
theorem src_step {w W0 : World} {g : Nat} {a : Option Addr} {n c p : Nat} {q z : Int} (hr : w.heap[g]? = some (.cells #[.slice a n c, .int .i64 p, .int .u64 q] 102 (0, 0))) (hb : Below w.heap.size w W0) :
    ((W0.setCell ⟨g, 1, none⟩ (.int .i64 ((p : Int) + 1))).setCell ⟨g, 2, none⟩ (.int .u64 z)).heap[g]? = some (.cells #[.slice a n c, .int .i64 ((p : Int) + 1), .int .u64 z] 102 (0, 0)) ∧
      KeepS g w ((W0.setCell ⟨g, 1, none⟩ (.int .i64 ((p : Int) + 1))).setCell ⟨g, 2, none⟩ (.int .u64 z)) := by
  have h0 := (hb.block g (row_lt hr)).trans hr
  have h1 := heap_setCell_same W0 g 1 _ _ (.int .i64 ((p : Int) + 1)) h0
  have h2 := heap_setCell_same _ g 2 _ _ (.int .u64 z) h1
  exact ⟨h2, ((KeepS.of hb).setCell _ _).setCell _ _⟩
theorem SrcAt.step {w W : World} {g : Nat} {a : Option Addr} {n c p K : Nat} {B : Nat → Int} {z : Int} (hu : U8 B) (hb : BytIn w g a n B) (hp : p ≤ K) (hz : 0 ≤ z ∧ z ≤ 18446744073709551615) (hr : W.heap[g]? = some (.cells #[.slice a n c, .int .i64 ((p : Int) + 1), .int .u64 z] 102 (0, 0))) (hk : KeepS g w W) (hl : g ≤ w.heap.size) : SrcAt W g a n c B (K + 1) :=
  ⟨hu, hb.below (hk.below (Nat.le_refl _) hl), p + 1, z, by omega, hz.1, hz.2, by rw [show ((p + 1 : Nat) : Int) = (p : Int) + 1 by omega]; exact hr⟩
set_option maxRecDepth 100000 in
set_option maxHeartbeats 1000000 in
theorem next_any (g : Nat) (a : Option Addr) (n c : Nat) (B : Nat → Int) (K : Nat) (w : World) (hK : K ≤ 1000000) (hn : n ≤ 1000000000000) (hs : SrcAt w g a n c B K) :
    Calls Try.prog 62 #[.pointer (some ⟨g, 0, none⟩)] w fun e w' => (∃ v : Int, e = .returned (.int .i64 v) ∧ 0 ≤ v ∧ v ≤ 255) ∧ SrcAt w' g a n c B (K + 1) ∧ KeepS g w w' := by
  have hgl := hs.lt
  obtain ⟨hu, hb, p, q, hp, hq0, hq1, hr⟩ := hs
  have HU := Lib.hid hu; have HB := Lib.hid hb; have HR := Lib.hid hr
  clear hu hb
  have c0 := row_cell 0 hr
  have c1 := row_cell 1 hr
  have c2 := row_cell 2 hr
  have f1 := frozen_of_row w g 1 _ _ hr
  have f2 := frozen_of_row w g 2 _ _ hr
  have q1 := i64_id (x := (p : Int) + 1) (by omega)
  have HD := Lib.hid (fun N => below_drewN (Below.refl w.heap.size w) N)
  by_cases hlt : p < n
  · have hlt' : (p : Int) < n := by omega
    obtain ⟨ad, rfl, hg, hc⟩ := HB.out (by omega)
    have e0 := hc p hlt
    clear hc hr
    have hub := HU.out p
    have q2 := i64_id (x := B p) (by omega)
    go_enter Try.func62, Try.ntmps62
    go_wp2
    go_quiet (fail)
    go_wp2
    go_quiet (fail)
    go_wp2
    generalize hW : w.drewN _ = W0
    have hd : Below w.heap.size w W0 := by rw [← hW]; exact HD.out _
    generalize hz : IntKind.u64.wrap (IntKind.u64.wrap (IntKind.u64.wrap (q * 6364136223846793005) + B p) + 1442695040888963407) = z
    have hzb : 0 ≤ z ∧ z ≤ 18446744073709551615 := by rw [← hz]; exact u64_range _
    obtain ⟨hr2, hk2⟩ := src_step (z := z) HR.out hd
    have hs2 := SrcAt.step HU.out HB.out hp hzb hr2 hk2 (Nat.le_of_lt hgl)
    have HS2 := Lib.hid hs2; have HK2 := Lib.hid hk2
    generalize (W0.setCell ⟨g, 1, none⟩ (.int .i64 ((p : Int) + 1))).setCell ⟨g, 2, none⟩ (.int .u64 z) = W2 at hr2 HS2 HK2 ⊢
    clear hs2 hk2 hzb hz hd hW c0 c1 c2 f1 f2 e0 HD
    have c0 := row_cell 0 hr2
    have c1 := row_cell 1 hr2
    have hle : (p : Int) + 1 ≤ n := by omega
    clear hr2 hlt
    go_quiet (fail)
    go_wp2
    go_ret
    exact ⟨⟨_, rfl, hub.1, hub.2⟩, HS2.out.below (below_drewN (Below.refl _ _) _), HK2.out.trans (KeepS.of (below_drewN (Below.refl _ _) _))⟩
  · clear hr
    have hlt' : ¬ (p : Int) < n := by omega
    go_enter Try.func62, Try.ntmps62
    go_wp2
    go_quiet (fail)
    go_wp2
    generalize hW : w.drewN _ = W0
    have hd : Below w.heap.size w W0 := by rw [← hW]; exact HD.out _
    generalize hz : IntKind.u64.wrap (IntKind.u64.wrap (IntKind.u64.wrap (q * 6364136223846793005)) + 1442695040888963407) = z
    have hzb : 0 ≤ z ∧ z ≤ 18446744073709551615 := by rw [← hz]; exact u64_range _
    obtain ⟨hr2, hk2⟩ := src_step (z := z) HR.out hd
    have hs2 := SrcAt.step HU.out HB.out hp hzb hr2 hk2 (Nat.le_of_lt hgl)
    have HS2 := Lib.hid hs2; have HK2 := Lib.hid hk2
    generalize (W0.setCell ⟨g, 1, none⟩ (.int .i64 ((p : Int) + 1))).setCell ⟨g, 2, none⟩ (.int .u64 z) = W2 at hr2 HS2 HK2 ⊢
    clear hs2 hk2 hz hd hW c0 c1 c2 f1 f2 HD
    have c0 := row_cell 0 hr2
    have c1 := row_cell 1 hr2
    have c2 := row_cell 2 hr2
    have hle : ¬ (p : Int) + 1 ≤ n := by omega
    clear hr2 hlt hlt'
    go_quiet (fail)
    go_wp2
    have hlb := low_byte z hzb
    generalize wrap64 (bits .and .u64 (z / 1099511627776) 255) = v at hlb ⊢
    go_ret
    exact ⟨⟨_, rfl, hlb.1, hlb.2⟩, HS2.out.below (below_drewN (Below.refl _ _) _), HK2.out.trans (KeepS.of (below_drewN (Below.refl _ _) _))⟩
/-- a number below n -/
def PickB (n v : Int) : Prop := 0 ≤ v ∧ (v < n ∨ v = 0) ∧ (n ≤ 1 → v = 0)
set_option maxRecDepth 100000 in
set_option maxHeartbeats 1000000 in
theorem pick_any (g : Nat) (a : Option Addr) (n c : Nat) (B : Nat → Int) (K : Nat) (m : Int) (w : World) (hK : K + 2 ≤ 1000000) (hn : n ≤ 1000000000000) (hm : -9223372036854775808 ≤ m ∧ m ≤ 9223372036854775807) (hs : SrcAt w g a n c B K) :
    Calls Try.prog 31 #[.pointer (some ⟨g, 0, none⟩), .int .i64 m] w fun e w' => (∃ v : Int, e = .returned (.int .i64 v) ∧ PickB m v) ∧ SrcAt w' g a n c B (K + 2) ∧ KeepS g w w' := by
  by_cases h1 : m ≤ 1
  · go_enter Try.func31, Try.ntmps31
    go_wp2
    go_ret
    exact ⟨⟨0, rfl, by omega, .inr rfl, fun _ => rfl⟩, hs.more (by omega), KeepS.refl _⟩
  · have HS := Lib.hid hs; clear hs
    go_enter Try.func31, Try.ntmps31
    go_wp2_with fail
    refine (next_any g a n c B K w (by omega) hn HS.out).mono ?_
    rintro e w2 ⟨⟨v, rfl, hv0, hv1⟩, hs2, hk2⟩
    have HS2 := Lib.hid hs2; have HK2 := Lib.hid hk2; clear hs2 hk2 HS
    have hm0 : ¬ m = 0 := by omega
    by_cases h2 : 200 < m
    · have q1 := i64_id (x := v * 256) (by omega)
      go_wp2_with fail
      refine (next_any g a n c B (K + 1) w2 (by omega) hn HS2.out).mono ?_
      rintro e w3 ⟨⟨u, rfl, hu0, hu1⟩, hs3, hk3⟩
      have HS3 := Lib.hid hs3; have HK3 := Lib.hid (HK2.out.trans hk3); clear hs3 hk3 HS2 HK2
      have q2 := i64_id (x := v * 256 + u) (by omega)
      have ht : (v * 256 + u).tmod m = (v * 256 + u) % m := Int.tmod_eq_emod_of_nonneg (by omega)
      have h3 := Int.emod_nonneg (v * 256 + u) hm0
      have h4 := Int.emod_lt_of_pos (v * 256 + u) (show 0 < m by omega)
      obtain ⟨r, hr⟩ : ∃ r, (v * 256 + u) % m = r := ⟨_, rfl⟩
      rw [hr] at ht h3 h4
      clear hr
      go_wp2
      go_ret
      exact ⟨⟨r, rfl, h3, .inl h4, fun h => by omega⟩, HS3.out, HK3.out⟩
    · have ht : v.tmod m = v % m := Int.tmod_eq_emod_of_nonneg (by omega)
      have h3 := Int.emod_nonneg v hm0
      have h4 := Int.emod_lt_of_pos v (show 0 < m by omega)
      obtain ⟨r, hr⟩ : ∃ r, v % m = r := ⟨_, rfl⟩
      rw [hr] at ht h3 h4
      clear hr
      go_wp2
      go_ret
      exact ⟨⟨r, rfl, h3, .inl h4, fun h => by omega⟩, HS2.out.more (by omega), HK2.out⟩
theorem PickB.lt {n v : Int} (h : PickB n v) (hn : 1 ≤ n) : 0 ≤ v ∧ v < n := by obtain ⟨h1, h2, h3⟩ := h; omega
attribute [irreducible] PickB
set_option maxRecDepth 100000 in
theorem l00From_any (a : Option Addr) (n c : Nat) (B : Nat → Int) (w : World) (hu : U8 B) (hb : BytIn w w.heap.size a n B) :
    Calls Try.prog 30 #[.slice a n c] w fun e w' => e = .returned (.pointer (some ⟨w.heap.size, 0, none⟩)) ∧ SrcAt w' w.heap.size a n c B 0 ∧ Below w.heap.size w w' := by
  have HS := Lib.hid (show SrcAt (w.alloc (.cells #[.slice a n c, .int .i64 ((0 : Nat) : Int), .int .u64 0] 102)) w.heap.size a n c B 0 from ⟨hu, hb.below ((Below.refl _ _).alloc (Nat.le_refl _) _), 0, 0, Nat.le_refl _, by decide, by decide, heap_alloc_new w _⟩)
  have HB := Lib.hid (show Below w.heap.size w (w.alloc (.cells #[.slice a n c, .int .i64 ((0 : Nat) : Int), .int .u64 0] 102)) from (Below.refl _ _).alloc (Nat.le_refl _) _)
  go_enter Try.func30, Try.ntmps30
  go_wp2
  go_ret
  exact ⟨rfl, HS.out, HB.out⟩
end Go.Proofs.Ytlcfjeofphncgaa
