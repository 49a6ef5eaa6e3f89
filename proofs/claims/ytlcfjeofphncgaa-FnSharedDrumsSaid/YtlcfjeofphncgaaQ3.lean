/- Texts of this claim, put together in their order of building. No conditions. -/
import Derived.Outline
import Derived.Test.YtlcfjeofphncgaaQ2
namespace Go.Proofs.Ytlcfjeofphncgaa
open Go.RowKit
set_option linter.unusedVariables false
set_option linter.unusedSimpArgs false

/-- the cost of the drum j behind the drum i -/
def cN (L : Nat → Nat → Nat) (i j : Nat) : Int := ((cnt (lessD (L i) (L j)) + cnt (lessD (L j) (L i)) : Nat) : Int)
theorem cN_def (L : Nat → Nat → Nat) (i j : Nat) : cN L i j = ((cnt (lessD (L i) (L j)) + cnt (lessD (L j) (L i)) : Nat) : Int) := rfl
theorem cN_bound (L : Nat → Nat → Nat) (i j : Nat) : 0 ≤ cN L i j ∧ cN L i j ≤ 6144 := by
  have h1 := cnt_le (lessD (L i) (L j))
  have h2 := cnt_le (lessD (L j) (L i))
  rw [cN_def]
  omega
attribute [irreducible] cN
/-- the first k costs behind the drum i -/
def rowL (L : Nat → Nat → Nat) (i k : Nat) : List Int := (List.range k).map (cN L i)
theorem rowL_zero (L : Nat → Nat → Nat) (i : Nat) : rowL L i 0 = [] := rfl
theorem rowL_succ (L : Nat → Nat → Nat) (i k : Nat) : rowL L i (k + 1) = rowL L i k ++ [cN L i k] := by simp [rowL, List.range_succ]
theorem rowL_len (L : Nat → Nat → Nat) (i k : Nat) : (rowL L i k).length = k := by simp [rowL]
theorem rowL_get (L : Nat → Nat → Nat) (i k j : Nat) (h : j < k) : (rowL L i k).getD j 0 = cN L i j := by simp [rowL, List.getD, h]
/-- the first k rows -/
def tabL (L : Nat → Nat → Nat) (m k : Nat) : List (List Int) := (List.range k).map fun i => rowL L i m
theorem tabL_zero (L : Nat → Nat → Nat) (m : Nat) : tabL L m 0 = [] := rfl
theorem tabL_succ (L : Nat → Nat → Nat) (m k : Nat) : tabL L m (k + 1) = tabL L m k ++ [rowL L k m] := by simp [tabL, List.range_succ]
theorem tabL_len (L : Nat → Nat → Nat) (m k : Nat) : (tabL L m k).length = k := by simp [tabL]
theorem tabL_get (L : Nat → Nat → Nat) (m k i : Nat) (h : i < k) : (tabL L m k)[i]? = some (rowL L i m) := by simp [tabL, h]
attribute [irreducible] rowL tabL

/-! ### rows that one owns -/
theorem OwnI.below {w w' : World} {base : Nat} {v : Value} {l : List Int} (h : OwnI w base v l) (hb : Below w.heap.size w w') : OwnI w' base v l := by
  obtain ⟨hl, h⟩ := h
  refine ⟨hl, ?_⟩
  rcases h with h | ⟨g, cap, cur, hv, hg, hc, h⟩
  · exact .inl h
  · exact .inr ⟨g, cap, cur, hv, hg, (hb.block g (Array.getElem?_eq_some_iff.1 hc).1).trans hc, h⟩
theorem OwnI.mono {w : World} {base base' : Nat} {v : Value} {l : List Int} (h : OwnI w base v l) (hb : base' ≤ base) : OwnI w base' v l := by
  obtain ⟨hl, h⟩ := h
  refine ⟨hl, ?_⟩
  rcases h with h | ⟨g, cap, cur, hv, hg, h⟩
  · exact .inl h
  · exact .inr ⟨g, cap, cur, hv, Nat.le_trans hb hg, h⟩
theorem kp_own {w : World} {base : Nat} {v : Value} {l : List Int} (h : OwnI w base v l) : Kp w (fun V => OwnI V base v l) := Kp.mk fun _ hb => h.below hb
theorem OwnI.one {w : World} {base : Nat} {v : Value} {l : List Int} (h : OwnI w base v l) : v.oneCell' = true := by
  obtain ⟨hl, h⟩ := h
  rcases h with ⟨rfl, _⟩ | ⟨g, cap, cur, rfl, _⟩ <;> rfl
theorem OwnI.nil (w : World) (base : Nat) (hb : base ≤ w.heap.size) : OwnI (w.alloc (.cells #[] 2)) base (.slice (some ⟨w.heap.size, 0, none⟩) 0 0) [] :=
  ⟨rfl, .inr ⟨w.heap.size, 0, #[], rfl, hb, heap_alloc_new w _, Nat.le_refl _, by unfold maxLen; omega, rfl, rfl⟩⟩
/-- a slice that reads as n rows of n numbers -/
def TabAt (w : World) (a : Option Addr) (n : Nat) (C : Nat → Nat → Int) : Prop :=
  0 < n → ∃ g off, a = some ⟨g, off, none⟩ ∧ g < w.heap.size ∧ ∀ i, i < n → ∃ b c, w.cell? ⟨g, off + i, none⟩ = some (.slice b n c) ∧ IntAt w b n (C i)
theorem TabAt.get {w : World} {a : Option Addr} {n : Nat} {C : Nat → Nat → Int} (h : TabAt w a n C) (hn : 0 < n) : ∃ g off, a = some ⟨g, off, none⟩ ∧ g < w.heap.size ∧ ∀ i, i < n → ∃ b c, w.cell? ⟨g, off + i, none⟩ = some (.slice b n c) ∧ IntAt w b n (C i) := h hn
theorem TabAt.below {w w' : World} {a : Option Addr} {n : Nat} {C : Nat → Nat → Int} (h : TabAt w a n C) (hb : Below w.heap.size w w') : TabAt w' a n C := fun hn => by
  obtain ⟨g, off, ha, hg, hc⟩ := h hn
  refine ⟨g, off, ha, Nat.lt_of_lt_of_le hg hb.size, fun i hi => ?_⟩
  obtain ⟨b, c, hc, hz⟩ := hc i hi
  exact ⟨b, c, (hb.cell (p := ⟨g, off + i, none⟩) hg).trans hc, hz.below hb⟩
theorem kp_tab {w : World} {a : Option Addr} {n : Nat} {C : Nat → Nat → Int} (h : TabAt w a n C) : Kp w (fun V => TabAt V a n C) := Kp.mk fun _ hb => h.below hb
theorem IntAt.congr {w : World} {a : Option Addr} {n : Nat} {Z Y : Nat → Int} (h : IntAt w a n Z) (e : ∀ i, i < n → Z i = Y i) : IntAt w a n Y := fun hn => by
  obtain ⟨g, off, ha, hg, hc⟩ := h hn
  exact ⟨g, off, ha, hg, fun i hi => by rw [hc i hi, e i hi]⟩
end Go.Proofs.Ytlcfjeofphncgaa
namespace Go.Proofs.Ytlcfjeofphncgaa
open Go.RowKit
set_option linter.unusedVariables false
set_option linter.unusedSimpArgs false

theorem index_ord (O : Nat → Int) (k : Nat) (hk : k < 48) (w : World) : (Instr.index 49 (.agg (oc O)) (.int .i64 k)).run Try.prog w = .ok (.int .i8 (O k)) w := by
  have hs : (sizeOf 48).run Try.prog w = .ok 1 w := by kernel_rfl
  have ha : (isAgg 48).run Try.prog w = .ok false w := by kernel_rfl
  simp only [Instr.index, asIntOf, Sem.run_bind, Sem.run_pure, Result.andThen_ok, run_underlying und_ord]
  rw [if_pos ⟨by omega, by omega⟩]
  simp only [Sem.run_bind, hs, Result.andThen_ok, part, ha, Int.toNat_natCast, Nat.mul_one, oc_get O k hk]
  rfl
theorem made_one (v : Value) (N : Nat) : madeCells #[v] N = cf N (fun _ => v) := by
  apply Array.ext_getElem?
  intro i
  by_cases h : i < N
  · rw [cf_get _ _ _ h]; simp [madeCells, h, Nat.mod_one]
  · rw [Array.getElem?_eq_none (by rw [size_madeCells]; omega), Array.getElem?_eq_none (by rw [cf_size]; omega)]
theorem infoInt64 : (Try.prog.info? 2).map (fun i => (i.zero, i.size, i.bytes)) = some (some (.int .i64 0), 1, 8) := by kernel_rfl
/-- make([]int64, n) -/
theorem run_make_i64 (w : World) (n : Nat) (hn : n ≤ 1000000) : (Instr.makeSlice 38 (.int .i64 (n : Int)) (.int .i64 (n : Int))).run Try.prog w = .ok (.slice (some ⟨w.heap.size, 0, none⟩) n n) (w.alloc (.cells (cf n fun _ => .int .i64 0) 2)) := by
  obtain ⟨i, hi, hz, hs, hb⟩ := info_parts infoInt64
  have h := run_make (P := Try.prog) w 38 2 i _ Try.underlying38 hi hz .i64 .i64 n n (by omega) (by omega) (by rw [hb]; omega) (by omega)
  simp only [Int.toNat_natCast, hs, Nat.mul_one] at h
  rw [show (Value.int IntKind.i64 0).cells = #[.int .i64 0] from rfl, made_one] at h
  exact h
end Go.Proofs.Ytlcfjeofphncgaa
namespace Go.Proofs.Ytlcfjeofphncgaa
open Go.RowKit
set_option linter.unusedVariables false
set_option linter.unusedSimpArgs false

theorem kp_OwnI {w : World} {base : Nat} {v : Value} {l : List Int} (h : OwnI w base v l) : Kp w (fun V => OwnI V base v l) := Kp.mk fun _ hb => h.below hb
theorem OwnI.readAt {w : World} {base : Nat} {b : Option Addr} {n c : Nat} {l : List Int} (h : OwnI w base (.slice b n c) l) : IntAt w b l.length (fun i => l.getD i 0) := by
  obtain ⟨b', c', e, hz⟩ := OwnI.at h
  injection e with e1 e2 e3
  subst e1
  exact hz
theorem OwnI.lt {w : World} {base : Nat} {v : Value} {l : List Int} (h : OwnI w base v l) : ∀ k, v.ownBlock = some k → base ≤ k ∧ k < w.heap.size := World.ownsRow.lt h
theorem OwnI.none0 (w : World) (base : Nat) : OwnI w base (.slice none 0 0) [] := World.ownsRow_nil _ _ _ _
/-- a block of numbers, one's own -/
theorem OwnI.blk {w : World} {base g n : Nat} {f : Nat → Value} {l : List Int} (h : BlkAt w 2 g n f) (hb : base ≤ g) (hn : n ≤ maxLen) (hl : l.length = n) (hf : ∀ i, i < n → f i = .int .i64 (l.getD i 0)) : OwnI w base (.slice (some ⟨g, 0, none⟩) n n) l := by
  subst hl
  have h2 := own_blk (size := 1) (n := l.length) h (by omega) hb hn
  unfold OwnI
  have e : (cf l.length f).toList = l.map (Value.int .i64) := by
    apply List.ext_getElem?
    intro i
    rw [Array.getElem?_toList, List.getElem?_map]
    by_cases hi : i < l.length
    · rw [cf_get _ _ _ hi, hf i hi]; simp [List.getD, List.getElem?_eq_getElem hi]
    · rw [Array.getElem?_eq_none (by rw [cf_size]; omega), List.getElem?_eq_none (by omega)]; rfl
  rw [← e]
  exact h2
end Go.Proofs.Ytlcfjeofphncgaa
namespace Go.Proofs.Ytlcfjeofphncgaa
open Go.RowKit
set_option linter.unusedVariables false
set_option linter.unusedSimpArgs false

theorem BytIn.mono {w : World} {N M : Nat} {a : Option Addr} {n : Nat} {B : Nat → Int} (h : BytIn w N a n B) (hm : N ≤ M) : BytIn w M a n B := fun hn => by
  obtain ⟨ad, e, h1, h2⟩ := h hn
  exact ⟨ad, e, Nat.lt_of_lt_of_le h1 hm, h2⟩
/-- a frame that is drawn, by its data -/
theorem dataFrame_22_any (a : Option Addr) (n c : Nat) (B : Nat → Int) (w : World) (hn : n ≤ 1000000000000) (hu : U8 B) (hb : BytIn w w.heap.size a n B) :
    Calls Try.prog 22 #[.slice a n c] w fun e w' => ∃ s b m d P R, e = .returned (.agg #[.int .i16 s, .slice b m d]) ∧ (4 ≤ s ∧ s ≤ 17) ∧ (1 ≤ m ∧ m ≤ 5) ∧ I8 P ∧ I8 R ∧ vFrame s m P R = true ∧ HamAt w' b m P R ∧ Below w.heap.size w w' := by
  refine (drawFrame_22_any a n c B w hn hu hb).mono ?_
  rintro e w' ⟨⟨s, b, d, L, rfl, hs, hl, hd, ho⟩, hb⟩
  exact ⟨s, b, L.length, d, _, _, rfl, hs, hl, hd.i8.1, hd.i8.2, hd.frame hs hl, OwnH.readAt ho, hb⟩
/-- a frame that is drawn, by its data -/
theorem dataFrame_6_any (a : Option Addr) (n c : Nat) (B : Nat → Int) (w : World) (hn : n ≤ 1000000000000) (hu : U8 B) (hb : BytIn w w.heap.size a n B) :
    Calls Try.prog 6 #[.slice a n c] w fun e w' => ∃ s b m d P R, e = .returned (.agg #[.int .i16 s, .slice b m d]) ∧ (4 ≤ s ∧ s ≤ 17) ∧ (1 ≤ m ∧ m ≤ 5) ∧ I8 P ∧ I8 R ∧ vFrame s m P R = true ∧ HamAt w' b m P R ∧ Below w.heap.size w w' := by
  refine (drawFrame_6_any a n c B w hn hu hb).mono ?_
  rintro e w' ⟨⟨s, b, d, L, rfl, hs, hl, hd, ho⟩, hb⟩
  exact ⟨s, b, L.length, d, _, _, rfl, hs, hl, hd.i8.1, hd.i8.2, hd.frame hs hl, OwnH.readAt ho, hb⟩
theorem a2Long_any (a : Option Addr) (n c : Nat) (b : Option Addr) (m d : Nat) (w : World) (h : (n : Int) ≤ 3000) (h2 : (m : Int) ≤ 3000) : Calls Try.prog 5 #[.slice a n c, .slice b m d] w fun e w' => e = .returned (.bool false) ∧ w = w' := by
  have h : ¬ (3000 : Int) < n := by omega
  have h2 : ¬ (3000 : Int) < m := by omega
  go_enter Try.func5, Try.ntmps5
  go_wp2
  go_ret
  exact ⟨rfl, rfl⟩
theorem f6big_any (a : Option Addr) (n c : Nat) (w : World) (h : (n : Int) ≤ 4096) : Calls Try.prog 21 #[.slice a n c] w fun e w' => e = .returned (.bool false) ∧ w = w' := by
  have h : ¬ (4096 : Int) < n := by omega
  go_enter Try.func21, Try.ntmps21
  go_wp2
  go_ret
  exact ⟨rfl, rfl⟩
set_option maxRecDepth 100000 in
theorem l00Same_any (a b : Option Addr) (n c d : Nat) (Z : Nat → Int) (w : World) (hn : n ≤ 1000000000) (ha : IntAt w a n Z) (hb : IntAt w b n Z) :
    Calls Try.prog 45 #[.slice a n c, .slice b n d] w fun e w' => e = .returned (.bool true) ∧ Below w.heap.size w w' := by
  have KA := kp_int ha; have KB := kp_int hb; clear ha hb
  have hnn : ((n : Int) != (n : Int)) = false := by simp
  go_enter Try.func45, Try.ntmps45
  go_wp2
  go_loopw [5] (fun i w' => Below w.heap.size w w' ∧ ∃ k : Nat, k ≤ n ∧ i = .int .i64 k) (fun i _ => n - (intOf i).toNat)
  case atStart => exact ⟨Below.refl _ _, 0, by omega, rfl⟩
  case round =>
    clear hnn
    obtain ⟨hb, k, hk, rfl⟩ := hrel
    replace KA := KA.on hb
    replace KB := KB.on hb
    by_cases hlt : k < n
    · have hk' : (k : Int) < n := by omega
      obtain ⟨g, off, rfl, hg, hc⟩ := IntAt.get KA.here (show 0 < n by omega)
      obtain ⟨g2, off2, rfl, hg2, hc2⟩ := IntAt.get KB.here (show 0 < n by omega)
      have c0 := hc k hlt
      have c1 := hc2 k hlt
      clear hc hc2
      have hne : (Z k != Z k) = false := by simp
      have q1 := i64_id (x := (k : Int) + 1) (by omega)
      go_wp2
      go_quiet (fail)
      go_wp2
      go_roundw
      case rel => exact ⟨below_drewN hb _, k + 1, by omega, by go_num⟩
      case measure => simp [intOf]; omega
    · go_wp2
      go_ret
      exact ⟨rfl, hb⟩
set_option maxRecDepth 100000 in
theorem same_27_any (a b : Option Addr) (n c d : Nat) (Z : Nat → Int) (w : World) (hn : n ≤ 1000000000) (ha : IntAt w a n Z) (hb : IntAt w b n Z) :
    Calls Try.prog 27 #[.slice a n c, .slice b n d] w fun e w' => e = .returned (.bool true) ∧ Below w.heap.size w w' := by
  go_enter Try.func27, Try.ntmps27
  go_wp2_with (go_at_call 45; refine (l00Same_any a b n c d Z _ hn ha hb).mono ?_; rintro e w2 ⟨rfl, hb2⟩)
  go_ret
  exact ⟨rfl, hb2⟩
set_option maxRecDepth 100000 in
theorem same_15_any (a b : Option Addr) (n c d : Nat) (Z : Nat → Int) (w : World) (hn : n ≤ 1000000000) (ha : IntAt w a n Z) (hb : IntAt w b n Z) :
    Calls Try.prog 15 #[.slice a n c, .slice b n d] w fun e w' => e = .returned (.bool true) ∧ Below w.heap.size w w' := by
  go_enter Try.func15, Try.ntmps15
  go_wp2_with (go_at_call 45; refine (l00Same_any a b n c d Z _ hn ha hb).mono ?_; rintro e w2 ⟨rfl, hb2⟩)
  go_ret
  exact ⟨rfl, hb2⟩
end Go.Proofs.Ytlcfjeofphncgaa
namespace Go.Proofs.Ytlcfjeofphncgaa
open Go.RowKit
set_option linter.unusedVariables false
set_option linter.unusedSimpArgs false

/-- a slice at the address a reads as n pairs -/
def PairAt (w : World) (a : Option Addr) (n : Nat) (P R : Nat → Int) : Prop :=
  0 < n → ∃ g off, a = some ⟨g, off, none⟩ ∧ g < w.heap.size ∧
    ∀ i, i < n → w.cell? ⟨g, off + i * 2, none⟩ = some (.int .i64 (P i)) ∧ w.cell? ⟨g, off + i * 2 + 1, none⟩ = some (.int .i64 (R i))
theorem PairAt.get {w : World} {a : Option Addr} {n : Nat} {P R : Nat → Int} (h : PairAt w a n P R) (hn : 0 < n) : ∃ g off, a = some ⟨g, off, none⟩ ∧ g < w.heap.size ∧
    ∀ i, i < n → w.cell? ⟨g, off + i * 2, none⟩ = some (.int .i64 (P i)) ∧ w.cell? ⟨g, off + i * 2 + 1, none⟩ = some (.int .i64 (R i)) := h hn
theorem PairAt.below {w w' : World} {a : Option Addr} {n : Nat} {P R : Nat → Int} (h : PairAt w a n P R) (hb : Below w.heap.size w w') : PairAt w' a n P R := by
  intro hn
  obtain ⟨g, off, rfl, hg, hc⟩ := h hn
  refine ⟨g, off, rfl, Nat.lt_of_lt_of_le hg hb.size, fun i hi => ?_⟩
  rw [hb.cell (p := ⟨g, off + i * 2, none⟩) hg, hb.cell (p := ⟨g, off + i * 2 + 1, none⟩) hg]
  exact hc i hi
theorem kp_pair {w : World} {a : Option Addr} {n : Nat} {F S : Nat → Int} (h : PairAt w a n F S) : Kp w (fun V => PairAt V a n F S) := Kp.mk fun _ hb => h.below hb
/-- a slice that came in reads as n pairs -/
def PairIn (w : World) (a : Option Addr) (n : Nat) (P R : Nat → Int) : Prop :=
  0 < n → ∃ ad, a = some ad ∧ ad.block < w.heap.size ∧
    ∀ i, i < n → w.cell? (ad.add (i * 2)) = some (.int .i64 (P i)) ∧ w.cell? ⟨(ad.add (i * 2)).block, (ad.add (i * 2)).off + 1, none⟩ = some (.int .i64 (R i))
theorem PairIn.get {w : World} {a : Option Addr} {n : Nat} {P R : Nat → Int} (h : PairIn w a n P R) (hn : 0 < n) : ∃ ad, a = some ad ∧ ad.block < w.heap.size ∧
    ∀ i, i < n → w.cell? (ad.add (i * 2)) = some (.int .i64 (P i)) ∧ w.cell? ⟨(ad.add (i * 2)).block, (ad.add (i * 2)).off + 1, none⟩ = some (.int .i64 (R i)) := h hn
theorem PairIn.below {w w' : World} {a : Option Addr} {n : Nat} {P R : Nat → Int} (h : PairIn w a n P R) (hb : Below w.heap.size w w') : PairIn w' a n P R := by
  intro hn
  obtain ⟨ad, rfl, hg, hc⟩ := h hn
  refine ⟨ad, rfl, Nat.lt_of_lt_of_le hg hb.size, fun i hi => ?_⟩
  rw [hb.cell (p := ad.add (i * 2)) (by rw [add_block]; exact hg), hb.cell (p := ⟨(ad.add (i * 2)).block, (ad.add (i * 2)).off + 1, none⟩) (by rw [add_block]; exact hg)]
  exact hc i hi
theorem kp_pairIn {w : World} {a : Option Addr} {n : Nat} {F S : Nat → Int} (h : PairIn w a n F S) : Kp w (fun V => PairIn V a n F S) := Kp.mk fun _ hb => h.below hb
end Go.Proofs.Ytlcfjeofphncgaa
namespace Go.Proofs.Ytlcfjeofphncgaa
open Go.RowKit
set_option linter.unusedVariables false
set_option linter.unusedSimpArgs false

def encP (x : Int × Int) : List Value := [.int .i64 x.1, .int .i64 x.2]
theorem encP_len (x : Int × Int) : (encP x).length = 2 := rfl
theorem encP_one (x : Int × Int) : ∀ u ∈ encP x, u.oneCell' = true := by
  intro u hu; simp [encP] at hu; rcases hu with rfl | rfl <;> rfl
def OwnP (w : World) (base : Nat) (v : Value) (l : List (Int × Int)) : Prop := OwnL 111 2 encP w base v l
theorem infoP2 : (Try.prog.info? 111).map (fun i => (i.zero, i.size, i.bytes)) = some (some (.agg #[.int .i64 0, .int .i64 0]), 2, 16) := by kernel_rfl
section
variable {w w' : World} {base : Nat} {v : Value} {l : List (Int × Int)}
theorem kp_OwnP (h : OwnP w base v l) : Kp w (fun V => OwnP V base v l) := kp_OwnL h
theorem OwnP.lt (h : OwnP w base v l) : ∀ k, v.ownBlock = some k → base ≤ k ∧ k < w.heap.size := OwnL.lt h
theorem OwnP.mono {base' : Nat} (h : OwnP w base v l) (hb : base' ≤ base) : OwnP w base' v l := OwnL.mono h hb
theorem OwnP.below (h : OwnP w base v l) (hb : Below w.heap.size w w') : OwnP w' base v l := OwnL.below h hb
theorem OwnP.alloc (h : OwnP w base v l) (o : Obj) : OwnP (w.alloc o) base v l := OwnL.alloc h o
theorem OwnP.readAt {b : Option Addr} {n c : Nat} (h : OwnP w base (.slice b n c) l) : PairAt w b l.length (fun i => (l.getD i (0, 0)).1) (fun i => (l.getD i (0, 0)).2) := fun hn => by
  obtain ⟨g, rfl, hg, hlt, hc⟩ := OwnL.cells encP_len h hn
  refine ⟨g, 0, rfl, hlt, fun i hi => ?_⟩
  have hl := List.getElem?_eq_getElem hi
  have e : l.getD i (0, 0) = l[i] := by simp [List.getD, hl]
  simp only [e, Nat.zero_add]
  exact ⟨hc i _ hl 0 (by omega), hc i _ hl 1 (by omega)⟩
theorem OwnP.at (h : OwnP w base v l) : ∃ b c, v = .slice b l.length c ∧ PairAt w b l.length (fun i => (l.getD i (0, 0)).1) (fun i => (l.getD i (0, 0)).2) := by
  obtain ⟨b, c, rfl⟩ := OwnL.form h
  exact ⟨b, c, rfl, OwnP.readAt h⟩
end
section
variable {ops : Array Oper} {rest : List Oper} {o : Oper} {a : Act} {w : World} {Q : Exit → Act → World → Prop}
theorem append_pairs (hgd : o.guard = none) (s x : Operand) (ho : o.op = .call { callee := .builtin .append, args := #[s, x], argTypes := #[72, 72] }) (base : Nat) (v : Value) (l : List (Int × Int)) (hs : a.eval s = v) (hown : OwnP w base v l)
    (ad : Addr) (m c : Nat) (ys : List (Int × Int)) (hm : ys.length = m) (hx : a.eval x = .slice (some ad) m c) (hc : ∀ j u, (ys.flatMap encP)[j]? = some u → w.cell? (ad.add j) = some u) (hl : l.length + m ≤ 10000000) (hbase : base ≤ w.heap.size)
    (h : ∀ v' w', OwnP w' base v' (l ++ ys) → Below base w w' → wpList Try.prog ops Q rest (a.put o.dst v') w') : wpList Try.prog ops Q (o :: rest) a w :=
  append_L Try.underlying72 infoP2 rfl (by decide) (by decide) encP_len encP_one hgd s x ho base v l hs hown ad m c ys hm hx hc hl hbase h
end
section
variable {md : Region.Mode} {ops : Array Oper} {Q : Exit → Act → World → Prop} {S : World → Prop} {fuel : Nat} {listed : Array Bool} {a : Act} {w : World}
theorem step_append_pairs (i : Nat) {o : Oper} (hr : Region.ready md ops listed = [i]) (hoi : ops[i]? = some o) (hw : Region.wanted o (yielded ops a.tmps) = true)
    (s x : Operand) (ho : o.op = .call { callee := .builtin .append, args := #[s, x], argTypes := #[72, 72] }) (base : Nat) (v : Value) (l : List (Int × Int)) (hs : a.eval s = v) (hown : OwnP w base v l)
    (ad : Addr) (m c : Nat) (ys : List (Int × Int)) (hm : ys.length = m) (hx : a.eval x = .slice (some ad) m c) (hc : ∀ j u, (ys.flatMap encP)[j]? = some u → w.cell? (ad.add j) = some u) (hl : l.length + m ≤ 10000000) (hbase : base ≤ w.heap.size)
    (h : ∀ v' w', OwnP w' base v' (l ++ ys) → Below base w w' → S w' ∧ wpAnyH Try.prog md ops Q S fuel (listed.setIfInBounds i true) (a.put o.dst v') w') : wpAnyH Try.prog md ops Q S (fuel + 1) listed a w :=
  step_append_L Try.underlying72 infoP2 rfl (by decide) (by decide) encP_len encP_one i hr hoi hw s x ho base v l hs hown ad m c ys hm hx hc hl hbase h
end
end Go.Proofs.Ytlcfjeofphncgaa
namespace Go.Proofs.Ytlcfjeofphncgaa
open Go.RowKit
set_option linter.unusedVariables false
set_option linter.unusedSimpArgs false

/-- a drum has a pin -/
def hasPin (D : Nat → Nat) (k t : Nat) : Bool := (D k).testBit t
theorem hasPin_mod (D : Nat → Nat) (k t : Nat) : hasPin D k t = decide (D k / 2 ^ t % 2 = 1) := by
  unfold hasPin; rw [Nat.testBit_eq_decide_div_mod_eq]
attribute [irreducible] hasPin
theorem and1 {a : Nat} (ha : a < 4294967296) : bits .and .u32 (a : Int) 1 = ((a % 2 : Nat) : Int) := by
  have h := bits_and_u32 (b := 1) ha (by omega)
  have e : a &&& 1 = a % 2 := Nat.and_two_pow_sub_one_eq_mod a 1
  rw [e] at h
  exact h
theorem div_cast (a t : Nat) : (a : Int) / 2 ^ t = ((a / 2 ^ t : Nat) : Int) := by rw [Int.natCast_ediv, Int.natCast_pow]; rfl
theorem pow24 {t : Nat} (ht : t < 24) : 2 ^ t ≤ 8388608 := Nat.pow_le_pow_right (by omega : 0 < 2) (by omega : t ≤ 23)
theorem wrap_pow {t b : Nat} (ht : t < 24) (hb : b = 2 ^ t) : IntKind.u32.wrap ((2 : Int) ^ t) = (b : Int) := by
  have h := pow24 ht
  have e : (2 : Int) ^ t = ((2 ^ t : Nat) : Int) := by rw [Int.natCast_pow]; rfl
  rw [e, hb]
  exact wraps_u32 _ (by omega) (by omega)
/-- a row with a pin put, or taken out -/
def putRow (x b : Nat) (on : Bool) : Nat := if on then andn x b ||| b else andn x b
theorem putRow_t (x b : Nat) : putRow x b true = andn x b ||| b := rfl
theorem putRow_f (x b : Nat) : putRow x b false = andn x b := rfl
theorem putRow_lt {x b : Nat} (on : Bool) (hx : x < 4294967296) (hb : b < 4294967296) : putRow x b on < 4294967296 := by
  cases on
  · exact andn_lt32 hx
  · exact or_lt32 (andn_lt32 hx) hb
theorem putRow_xor {D : Nat → Nat} {k t : Nat} {on : Bool} (h : hasPin D k t = !on) : putRow (D k) (2 ^ t) on = D k ^^^ 2 ^ t := by
  have hx : (D k).testBit t = !on := by rw [← h]; unfold hasPin; rfl
  apply Nat.eq_of_testBit_eq
  intro i
  rw [Nat.testBit_xor, Nat.testBit_two_pow]
  cases on
  · rw [putRow_f, andn_testBit, Nat.testBit_two_pow]
    by_cases e : t = i
    · subst e; rw [hx]; simp
    · simp [e]
  · rw [putRow_t, Nat.testBit_or, andn_testBit, Nat.testBit_two_pow]
    by_cases e : t = i
    · subst e; rw [hx]; simp
    · simp [e]
attribute [irreducible] putRow
theorem upd_upd (D : Nat → Nat) (k x y : Nat) : upd (upd D k x) k y = upd D k y := by funext j; unfold upd; by_cases e : j = k <;> simp [e]
set_option maxRecDepth 100000 in
theorem has_any (g T : Nat) (D : Nat → Nat) (k t : Nat) (w : World) (hD : D32 D) (hk : k < 96) (ht : t < 24) (hg : DrumAt w T g D) :
    Calls Try.prog 91 #[.pointer (some ⟨g, 0, none⟩), .int .i64 (k : Int), .int .i64 (t : Int)] w fun e w' => e = .returned (.bool (hasPin D k t)) ∧ w = w' := by
  have c0 := hg.cell k hk
  have HG := Lib.hid hg; clear hg
  have hk' : (k : Int) < 96 := by omega
  have hw2 : min t 32 = t := by omega
  go_enter Try.func91, Try.ntmps91
  go_wp2
  go_ret
  refine ⟨ret_bool ?_, rfl⟩
  have hlt : D k / 2 ^ t < 4294967296 := Nat.lt_of_le_of_lt (Nat.div_le_self _ _) (hD k)
  rw [div_cast, and1 hlt, hasPin_mod]
  rcases Nat.mod_two_eq_zero_or_one (D k / 2 ^ t) with h | h <;> rw [h] <;> rfl
set_option maxRecDepth 100000 in
theorem l02Pin_any (g T : Nat) (D : Nat → Nat) (k t : Nat) (w : World) (hD : D32 D) (hk : k < 96) (ht : t < 24) (hg : DrumAt w T g D) :
    Calls Try.prog 87 #[.pointer (some ⟨g, 0, none⟩), .int .i64 (k : Int), .int .i64 (t : Int)] w fun e w' => e = .returned (.bool (hasPin D k t)) ∧ w = w' := by
  have c0 := hg.cell k hk
  have HG := Lib.hid hg; clear hg
  have hk' : (k : Int) < 96 := by omega
  have hw1 := u64_nat t (by omega)
  have hw2 : min t 32 = t := by omega
  go_enter Try.func87, Try.ntmps87
  go_wp2
  go_ret
  refine ⟨ret_bool ?_, rfl⟩
  rw [div_cast, hasPin_mod, show ((D k / 2 ^ t : Nat) : Int).tmod 2 = ((D k / 2 ^ t % 2 : Nat) : Int) from (Int.ofNat_tmod _ 2).symm]
  rcases Nat.mod_two_eq_zero_or_one (D k / 2 ^ t) with h | h <;> rw [h] <;> rfl
/-- the code of a frame, a drum, a step and a track -/
def plc (s : Int) (n : Nat) (P R : Nat → Int) (D : Nat → Nat) (k t : Int) : Int := if okAll s n P R 1 (fun _ => D) then (if inB k 0 (s - 1) && inB t 0 ((n : Int) - 1) then 0 else 2) else 1
section
variable {s : Int} {n : Nat} {P R : Nat → Int} {D : Nat → Nat} {k t : Int}
theorem plc_1 (h : okAll s n P R 1 (fun _ => D) = false) : plc s n P R D k t = 1 := by unfold plc; rw [h]; rfl
theorem plc_2 (h : okAll s n P R 1 (fun _ => D) = true) (h2 : (inB k 0 (s - 1) && inB t 0 ((n : Int) - 1)) = false) : plc s n P R D k t = 2 := by unfold plc; rw [h, h2]; rfl
theorem plc_0 (h : okAll s n P R 1 (fun _ => D) = true) (h2 : (inB k 0 (s - 1) && inB t 0 ((n : Int) - 1)) = true) : plc s n P R D k t = 0 := by unfold plc; rw [h, h2]; rfl
theorem plc_zero (h : plc s n P R D k t = 0) : okAll s n P R 1 (fun _ => D) = true ∧ (0 ≤ k ∧ k ≤ s - 1) ∧ (0 ≤ t ∧ t ≤ (n : Int) - 1) := by
  cases h1 : okAll s n P R 1 (fun _ => D)
  · rw [plc_1 h1] at h; simp at h
  · cases h2 : (inB k 0 (s - 1) && inB t 0 ((n : Int) - 1))
    · rw [plc_2 h1 h2] at h; simp at h
    · rw [Bool.and_eq_true] at h2
      exact ⟨rfl, inB_iff.1 h2.1, inB_iff.1 h2.2⟩
end
attribute [irreducible] plc
theorem firstL_plc (s : Int) (n : Nat) (P R : Nat → Int) (D : Nat → Nat) (k t : Int) : firstL [unl (okAll s n P R 1 (fun _ => D)) 1, unl (inB k 0 (s - 1) && inB t 0 ((n : Int) - 1)) 2] = plc s n P R D k t := by
  cases h1 : okAll s n P R 1 (fun _ => D)
  · rw [plc_1 h1, firstL_at _ (by rw [unl_false]; simp), unl_false]
  · cases h2 : (inB k 0 (s - 1) && inB t 0 ((n : Int) - 1))
    · rw [plc_2 h1 h2, firstL_zero _ (unl_true 1), firstL_at _ (by rw [unl_false]; simp), unl_false]
    · rw [plc_0 h1 h2, firstL_zero _ (unl_true 1), firstL_zero _ (unl_true 2), firstL_nil]
theorem ex_build1 {o : Oper} {a : Act} {w : World} (x : Operand) (ho : o.op = .buildSlice 29 1 #[(0, x)]) (D : Nat → Nat) (hx : a.eval x = .agg (dc D)) :
    (execOp a.eval o).run Try.prog w = .ok (.value (.slice (some ⟨w.heap.size, 0, none⟩) 1 1)) (w.alloc (.cells (dc D) 33)) := by
  have hm : (#[(0, x)] : Array (Nat × Operand)).map (fun (i, y) => (i, a.eval y)) = #[(0, .agg (dc D))] := by simp [hx]
  simp only [execOp, ho, hm, Sem.run_bind, run_build1, Result.andThen_ok]
  rfl
end Go.Proofs.Ytlcfjeofphncgaa
namespace Go.Proofs.Ytlcfjeofphncgaa
open Go.RowKit
set_option linter.unusedVariables false
set_option linter.unusedSimpArgs false

/-- memory but for blocks of two types is as it was -/
def KeepT (T1 T2 : Nat) (w w' : World) : Prop := w.heap.size ≤ w'.heap.size ∧ ∀ (x : Nat) cs (T : Nat) f, w.heap[x]? = some (.cells cs T f) → T ≠ T1 → T ≠ T2 → w'.heap[x]? = some (.cells cs T f)
theorem KeepT.refl (T1 T2 : Nat) (w : World) : KeepT T1 T2 w w := ⟨Nat.le_refl _, fun _ _ _ _ h _ _ => h⟩
theorem KeepT.trans {T1 T2 : Nat} {w w1 w2 : World} (h : KeepT T1 T2 w w1) (h2 : KeepT T1 T2 w1 w2) : KeepT T1 T2 w w2 :=
  ⟨Nat.le_trans h.1 h2.1, fun x cs T f hx n1 n2 => h2.2 x cs T f (h.2 x cs T f hx n1 n2) n1 n2⟩
theorem KeepT.below {T1 T2 : Nat} {w w' : World} (h : Below w.heap.size w w') : KeepT T1 T2 w w' := ⟨h.size, fun x cs T f hx _ _ => (h.block x (Array.getElem?_eq_some_iff.1 hx).1).trans hx⟩
theorem KeepT.row {T1 T2 : Nat} {w w' : World} (h : KeepT T1 T2 w w') {x : Nat} {cs : Array Value} {T : Nat} {f : Nat × Nat} (hx : w.heap[x]? = some (.cells cs T f)) (n1 : T ≠ T1) (n2 : T ≠ T2) : w'.heap[x]? = some (.cells cs T f) := h.2 x cs T f hx n1 n2
theorem place_div {n k t : Nat} (ht : t < n) : (k * n + t) / n = k ∧ (k * n + t) % n = t := by
  have hn : 0 < n := by omega
  constructor
  · rw [Nat.mul_comm, Nat.mul_add_div hn, Nat.div_eq_of_lt ht, Nat.add_zero]
  · rw [Nat.mul_comm, Nat.mul_add_mod, Nat.mod_eq_of_lt ht]
theorem call_enter (K : FuncId) (fn : Func) (h : Try.prog.funcs[K]? = some fn) (h1 : (fn.name == "runtime.NumGoroutine") = false) (h2 : fn.body.isNone = false) : ∀ (args : Array Value) (W : World), (callFunc K args).run Try.prog W = .ok (.enter K args) W := by
  intro args W
  unfold callFunc
  rw [Sem.run_bind]
  show Result.andThen (.ok Try.prog W) _ = _
  simp only [Result.andThen_ok, h, h1, h2, Bool.false_eq_true, if_false, Sem.run_pure]
set_option maxRecDepth 100000 in
set_option maxHeartbeats 1000000 in
/-- Inv j: what holds when the first j places (by the step, then by the track) have been looked at -/
theorem pins_any (T1 T2 : Nat) (s : Int) (a : Option Addr) (n c : Nat) (D : Nat → Nat) (K : FuncId) (caps : Array Value) (Inv : Nat → World → Prop) (w : World) (hs : 2 ≤ s ∧ s ≤ 96) (hn : 1 ≤ n ∧ n ≤ 24) (hD : D32 D)
    (hT1 : T1 ≠ 27 ∧ T1 ≠ 33) (hT2 : T2 ≠ 27 ∧ T2 ≠ 33)
    (hK : ∀ (args : Array Value) (W : World), (callFunc K args).run Try.prog W = .ok (.enter K args) W)
    (hyes : ∀ (j k t : Nat) (W : World), (k : Int) < s → t < n → j = k * n + t → hasPin D k t = true → Inv j W → Calls Try.prog K (#[.int .i64 (k : Int), .int .i64 (t : Int)] ++ caps) W fun e W' => e = .returned (.tuple #[]) ∧ Inv (j + 1) W' ∧ KeepT T1 T2 W W')
    (hno : ∀ (j k t : Nat) (W : World), (k : Int) < s → t < n → j = k * n + t → hasPin D k t = false → Inv j W → Inv (j + 1) W)
    (hst : ∀ (j : Nat) (W W' : World), Inv j W → Below W.heap.size W W' → Inv j W') (h0 : Inv 0 w) :
    Calls Try.prog 69 #[.agg #[.int .i16 s, .slice a n c], .agg (dc D), .func (.func K) #[] caps] w fun e w' => e = .returned (.tuple #[]) ∧ Inv (s.toNat * n) w' ∧ KeepT T1 T2 w w' := by
  have HD := Lib.hid hD; have HY := Lib.hid hyes; have HNO := Lib.hid hno; have HST := Lib.hid hst; have H0 := Lib.hid h0; have HT1 := Lib.hid hT1; have HT2 := Lib.hid hT2
  clear hD hyes hno hst h0 hT1 hT2
  have KB := Kp.base w
  replace KB := KB.alloc (.cells #[.int .i16 s, .slice a n c] 27)
  have KF := kp_new1 w #[.int .i16 s, .slice a n c] 27 (g := w.heap.size) (by simp)
  replace KB := KB.alloc (.cells (dc D) 33)
  replace KF := KF.alloc (.cells (dc D) 33)
  have KD := kp_newd (w.alloc (.cells #[.int .i16 s, .slice a n c] 27)) (D) 33 (g := w.heap.size + 1) (by simp)
  have HZ := Lib.hid (show ((w.alloc (.cells #[.int .i16 s, .slice a n c] 27)).alloc (.cells (dc D) 33)).heap.size = w.heap.size + 1 + 1 by simp)
  have kf := KF.here; have kd := KD.here
  have hi0 := HST.out 0 _ _ H0.out KB.here
  have hk0 := KeepT.below (T1 := T1) (T2 := T2) KB.here
  obtain ⟨W, hW⟩ : ∃ W, W = (w.alloc (.cells #[.int .i16 s, .slice a n c] 27)).alloc (.cells (dc D) 33) := ⟨_, rfl⟩
  rw [← hW] at kf kd hi0 hk0
  have HKF := Lib.hid kf; have HKD := Lib.hid kd; have HI0 := Lib.hid hi0; have HK0 := Lib.hid hk0
  clear kf kd hi0 hk0 KF KD KB H0
  have f0 := row_cell 0 HKF.out
  rw [hW] at f0
  have HW := Lib.hid hW; clear hW
  go_enter Try.func69, Try.ntmps69
  go_wp2
  rw [← HW.out]
  clear f0 HW HZ
  go_loopw [11] (fun i w' => KeepT T1 T2 w w' ∧ w'.heap[w.heap.size]? = some (.cells #[.int .i16 s, .slice a n c] 27 (0, 0)) ∧ DrumAt w' 33 (w.heap.size + 1) D ∧ ∃ k : Nat, (k : Int) ≤ s ∧ i = .int .i64 k ∧ Inv (k * n) w') (fun i _ => (s - intOf i).toNat)
  case atStart => exact ⟨HK0.out, HKF.out, HKD.out, 0, by omega, rfl, by rw [Nat.zero_mul]; exact HI0.out⟩
  case round =>
    clear HKF HKD HI0 HK0
    obtain ⟨hkp, hkf, hkd, k, hk, rfl, hinv⟩ := hrel
    have HKP := Lib.hid hkp; have HKF := Lib.hid hkf; have HKD := Lib.hid hkd; have HINV := Lib.hid hinv
    clear hkp hkf hkd hinv
    have f1 := row_cell 1 HKF.out
    by_cases hlt : (k : Int) < s
    · go_wp2_with (go_at_call 90; refine (sizeHammer_any _ _ _ _ (by omega)).mono ?_; rintro e w2 ⟨rfl, rfl⟩)
      clear f1
      go_loopw [17] (fun i w' => KeepT T1 T2 w w' ∧ w'.heap[w.heap.size]? = some (.cells #[.int .i16 s, .slice a n c] 27 (0, 0)) ∧ DrumAt w' 33 (w.heap.size + 1) D ∧ ∃ t : Nat, t ≤ n ∧ i = .int .i64 t ∧ Inv (k * n + t) w') (fun i _ => n - (intOf i).toNat)
      case atStart => exact ⟨HKP.out, HKF.out, HKD.out, 0, by omega, rfl, HINV.out⟩
      case round =>
        clear HKP HKF HKD HINV
        obtain ⟨hkp, hkf, hkd, t, ht, rfl, hinv⟩ := hrel
        have HKP := Lib.hid hkp; have HKF := Lib.hid hkf; have HKD := Lib.hid hkd; have HINV := Lib.hid hinv
        clear hkp hkf hkd hinv
        by_cases hlt2 : t < n
        · have ht' : (t : Int) < n := by omega
          cases hp : hasPin D k t
          · have hi := Lib.hid (HNO.out _ k t _ hlt hlt2 rfl hp HINV.out)
            go_wp2_with (go_at_call 91; refine (has_any (w.heap.size + 1) 33 D k t _ HD.out (by omega) (by omega) HKD.out).mono ?_; rw [hp]; rintro e w2 ⟨rfl, rfl⟩)
            go_roundw
            case rel => exact ⟨HKP.out, HKF.out, HKD.out, t + 1, by omega, by go_num, hi.out⟩
            case measure => simp [intOf]; omega
          · have hcall := Lib.hid (HY.out _ k t _ hlt hlt2 rfl hp HINV.out)
            go_wp2_with (go_at_call 91; refine (has_any (w.heap.size + 1) 33 D k t _ HD.out (by omega) (by omega) HKD.out).mono ?_; rw [hp]; rintro e w2 ⟨rfl, rfl⟩)
            refine hcall.out.mono ?_
            rintro e w2 ⟨rfl, hi2, hk2⟩
            have HI2 := Lib.hid hi2; have HKP2 := Lib.hid (HKP.out.trans hk2); have HKF2 := Lib.hid (hk2.row HKF.out HT1.out.1.symm HT2.out.1.symm); have HKD2 := Lib.hid (show DrumAt w2 33 (w.heap.size + 1) D from hk2.row HKD.out HT1.out.2.symm HT2.out.2.symm)
            clear hi2 hk2
            go_wp2
            go_roundw
            case rel => exact ⟨HKP2.out, HKF2.out, HKD2.out, t + 1, by omega, by go_num, HI2.out⟩
            case measure => simp [intOf]; omega
        · have htn : t = n := by omega
          subst htn
          go_wp2
          go_roundw
          case rel => exact ⟨HKP.out, HKF.out, HKD.out, k + 1, by omega, by go_num, by rw [Nat.add_mul, Nat.one_mul]; exact HINV.out⟩
          case measure => simp [intOf]; omega
    · have hks : (k : Int) = s := by omega
      go_wp2
      go_end0
      exact ⟨rfl, by rw [show s.toNat = k by omega]; exact HINV.out, HKP.out⟩
end Go.Proofs.Ytlcfjeofphncgaa
namespace Go.Proofs.Ytlcfjeofphncgaa
open Go.RowKit
set_option linter.unusedVariables false
set_option linter.unusedSimpArgs false

section
variable {w w' : World} {base sz n : Nat} {T T2 : TypeId} {v : Value} {xs : List Value}
theorem own_type (h : w.ownsRow base T sz v n xs) {k : Nat} (hk : v.ownBlock = some k) : ∃ cur, w.heap[k]? = some (.cells cur T (0, 0)) := by
  rcases h.2 with ⟨rfl, _⟩ | ⟨g, cap, cur, rfl, hg, hb, _⟩
  · simp [Value.ownBlock] at hk
  · simp [Value.ownBlock] at hk
    subst hk
    exact ⟨cur, hb⟩
theorem own_apart (h : w.ownsRow base T sz v n xs) {x : Nat} {cs : Array Value} {T' : TypeId} {f : Nat × Nat} (hx : w.heap[x]? = some (.cells cs T' f)) (hne : T' ≠ T) : some x ≠ v.ownBlock := by
  intro e
  obtain ⟨cur, hb⟩ := own_type h e.symm
  rw [hx] at hb
  simp at hb
  exact hne hb.2.1
theorem keep_grown (h : w.ownsRow base T sz v n xs) (hg : w.grownBy w' v.ownBlock) : KeepT T T2 w w' :=
  ⟨hg.size, fun x cs T' f hx n1 _ => (hg.block x (Array.getElem?_eq_some_iff.1 hx).1 (own_apart h hx n1)).trans hx⟩
theorem own_keep {T1 T3 : TypeId} (h : w.ownsRow base T sz v n xs) (hk : KeepT T1 T3 w w') (h1 : T ≠ T1) (h3 : T ≠ T3) : w'.ownsRow base T sz v n xs := by
  refine ⟨h.1, ?_⟩
  rcases h.2 with h0 | ⟨g', cap, cur, rfl, hb, hr, h2⟩
  · exact .inl h0
  · exact .inr ⟨g', cap, cur, rfl, hb, hk.row hr h1 h3, h2⟩
theorem keep_set {T1 : TypeId} {g k : Nat} {cs : Array Value} {f : Nat × Nat} (h : w.heap[g]? = some (.cells cs T2 f)) (u : Value) : KeepT T1 T2 w (w.setCell ⟨g, k, none⟩ u) :=
  ⟨by simp, fun x cs' T' f' hx _ n2 => (heap_setCell_other w _ x _ (by rintro rfl; rw [h] at hx; simp at hx; exact n2 hx.2.1.symm)).trans hx⟩
theorem keep_set1 {T1 : TypeId} {g k : Nat} {cs : Array Value} {f : Nat × Nat} (h : w.heap[g]? = some (.cells cs T1 f)) (u : Value) : KeepT T1 T2 w (w.setCell ⟨g, k, none⟩ u) :=
  ⟨by simp, fun x cs' T' f' hx n1 _ => (heap_setCell_other w _ x _ (by rintro rfl; rw [h] at hx; simp at hx; exact n1 hx.2.1.symm)).trans hx⟩
theorem keep_alloc (T1 T2 : Nat) (w : World) (o : Obj) : KeepT T1 T2 w (w.alloc o) := KeepT.below ((Below.refl _ _).alloc (Nat.le_refl _) _)
theorem own_set (h : w.ownsRow base T sz v n xs) {g k : Nat} {cs : Array Value} {f : Nat × Nat} (hg : w.heap[g]? = some (.cells cs T2 f)) (hne : T2 ≠ T) (u : Value) : (w.setCell ⟨g, k, none⟩ u).ownsRow base T sz v n xs := by
  refine ⟨h.1, ?_⟩
  rcases h.2 with h0 | ⟨g', cap, cur, rfl, hb, hr, h2⟩
  · exact .inl h0
  · refine .inr ⟨g', cap, cur, rfl, hb, (heap_setCell_other w _ g' _ ?_).trans hr, h2⟩
    rintro rfl
    rw [hr] at hg
    simp at hg
    exact hne hg.2.1.symm
end
section
variable {α : Type} {T sz : Nat} {enc : α → List Value} {ops : Array Oper} {rest : List Oper} {o : Oper} {a : Act} {w : World} {Q : Exit → Act → World → Prop}
/-- some are appended; what the world is then, block by block -/
theorem append_Lg {t : TypeId} {z : Value} {bytes : Nat} (ht : Try.prog.underlying t = some (.slice T)) (hinfo : (Try.prog.info? T).map (fun i => (i.zero, i.size, i.bytes)) = some (some z, sz, bytes)) (hzs : z.cells.size = sz) (hsz : 0 < sz) (hby : bytes ≤ 1000)
    (henc : ∀ x, (enc x).length = sz) (hone : ∀ x, ∀ u ∈ enc x, u.oneCell' = true)
    (hgd : o.guard = none) (s x : Operand) (ho : o.op = .call { callee := .builtin .append, args := #[s, x], argTypes := #[t, t] }) (base : Nat) (v : Value) (l : List α) (hs : a.eval s = v) (hown : OwnL T sz enc w base v l)
    (ad : Addr) (m c : Nat) (ys : List α) (hm : ys.length = m) (hx : a.eval x = .slice (some ad) m c) (hc : ∀ j u, (ys.flatMap enc)[j]? = some u → w.cell? (ad.add j) = some u) (hl : l.length + m ≤ 10000000) (hbase : base ≤ w.heap.size)
    (h : ∀ v' w', OwnL T sz enc w' base v' (l ++ ys) → w.grownBy w' v.ownBlock → wpList Try.prog ops Q rest (a.put o.dst v') w') : wpList Try.prog ops Q (o :: rest) a w := by
  subst hm
  obtain ⟨i0, hi, hz0, hz1, hz2⟩ := info_parts hinfo
  refine wpList_append_own w hgd s x t ho base T i0 z sz bytes ht hi hz0 hz1 hz2 hzs hsz v l.length _ hs hown ad ys.length c (ys.flatMap enc) hx (flat_len enc sz henc ys) hc ?_ ?_ ?_ hbase ?_
  · intro u hu
    obtain ⟨y, _, hy⟩ := List.mem_flatMap.1 hu
    exact hone y u hy
  · unfold maxLen; omega
  · exact Nat.le_trans (Nat.mul_le_mul hl hby) (by omega)
  · intro v' w' hown' hgrow _
    refine h v' w' ?_ hgrow
    unfold OwnL
    rw [List.length_append, List.flatMap_append]
    exact hown'
end
end Go.Proofs.Ytlcfjeofphncgaa
namespace Go.Proofs.Ytlcfjeofphncgaa
open Go.RowKit
set_option linter.unusedVariables false
set_option linter.unusedSimpArgs false

/-- the places of which p holds, of the first j ones (by the step, then by the track; n tracks) -/
def plL (p : Nat → Nat → Bool) (n : Nat) : Nat → List (Int × Int)
  | 0 => []
  | j + 1 => if p (j / n) (j % n) then plL p n j ++ [(((j / n : Nat) : Int), ((j % n : Nat) : Int))] else plL p n j
theorem plL_zero (p : Nat → Nat → Bool) (n : Nat) : plL p n 0 = [] := rfl
theorem plL_yes {p : Nat → Nat → Bool} {n k t : Nat} (ht : t < n) (h : p k t = true) : plL p n (k * n + t + 1) = plL p n (k * n + t) ++ [((k : Int), (t : Int))] := by
  have e : plL p n (k * n + t + 1) = if p ((k * n + t) / n) ((k * n + t) % n) then plL p n (k * n + t) ++ [((((k * n + t) / n : Nat) : Int), (((k * n + t) % n : Nat) : Int))] else plL p n (k * n + t) := rfl
  rw [e, (place_div ht).1, (place_div ht).2, h]
  rfl
theorem plL_no {p : Nat → Nat → Bool} {n k t : Nat} (ht : t < n) (h : p k t = false) : plL p n (k * n + t + 1) = plL p n (k * n + t) := by
  have e : plL p n (k * n + t + 1) = if p ((k * n + t) / n) ((k * n + t) % n) then plL p n (k * n + t) ++ [((((k * n + t) / n : Nat) : Int), (((k * n + t) % n : Nat) : Int))] else plL p n (k * n + t) := rfl
  rw [e, (place_div ht).1, (place_div ht).2, h]
  rfl
theorem plL_len (p : Nat → Nat → Bool) (n j : Nat) : (plL p n j).length ≤ j := by
  induction j with
  | zero => simp [plL]
  | succ j ih =>
    rw [plL]
    split
    · simp; omega
    · omega
theorem plL_congr {p q : Nat → Nat → Bool} {n : Nat} : ∀ j, (∀ i, i < j → p (i / n) (i % n) = q (i / n) (i % n)) → plL p n j = plL q n j := by
  intro j
  induction j with
  | zero => intro _; rfl
  | succ j ih =>
    intro h
    have e1 : plL p n (j + 1) = if p (j / n) (j % n) then plL p n j ++ [(((j / n : Nat) : Int), ((j % n : Nat) : Int))] else plL p n j := rfl
    have e2 : plL q n (j + 1) = if q (j / n) (j % n) then plL q n j ++ [(((j / n : Nat) : Int), ((j % n : Nat) : Int))] else plL q n j := rfl
    rw [e1, e2, ih fun i hi => h i (by omega), h j (by omega)]
theorem place_lt {s n k t : Nat} (hk : k < s) (ht : t < n) : k * n + t < s * n := by
  have := Nat.mul_le_mul_right n (show k + 1 ≤ s by omega)
  rw [Nat.add_mul, Nat.one_mul] at this
  omega
theorem place_bound {s n : Nat} (hs : s ≤ 96) (hn : n ≤ 24) : s * n ≤ 2304 := Nat.mul_le_mul hs hn
attribute [irreducible] plL
theorem hasPin_less (D E : Nat → Nat) (k t : Nat) : hasPin (lessD D E) k t = (hasPin D k t && !hasPin E k t) := by
  unfold hasPin lessD
  exact andn_testBit _ _ _
theorem hasPin_valid {s : Int} {n : Nat} {D : Nat → Nat} (h : vDrum s n D = true) (hs : 2 ≤ s ∧ s ≤ 96) : (∀ k t, k < 96 → n ≤ t → hasPin D k t = false) ∧ ∀ k t, k < 96 → s.toNat ≤ k → hasPin D k t = false := by
  have hv := vDrum_iff.1 h
  constructor
  · intro k t hk ht
    rw [hasPin_mod]
    have h1 : D k < 2 ^ n := by
      have := (hv k hk).1
      rcases Nat.lt_or_ge (D k) (2 ^ n) with h2 | h2
      · exact h2
      · have := Nat.div_pos h2 (Nat.two_pow_pos n); omega
    have h3 : D k / 2 ^ t = 0 := Nat.div_eq_of_lt (Nat.lt_of_lt_of_le h1 (Nat.pow_le_pow_right (by omega) ht))
    rw [h3]; rfl
  · intro k t hk hks
    rw [hasPin_mod, (hv k hk).2 (by omega), Nat.zero_div]; rfl
/-- what holds while the pins are listed -/
def LsInv (w : World) (go : Nat) (p : Nat → Nat → Bool) (n j : Nat) (W : World) : Prop :=
  Below w.heap.size w W ∧ w.heap.size ≤ go ∧ ∃ v, W.heap[go]? = some (.cells #[v] 72 (0, 0)) ∧ OwnP W w.heap.size v (plL p n j)
/-- two drums as a list -/
def twoL (A B : Nat → Nat) : Nat → Nat → Nat := fun i => if i = 0 then A else B
def ok2 (s : Int) (n : Nat) (P R : Nat → Int) (A B : Nat → Nat) : Bool := okAll s n P R 2 (twoL A B)
theorem ok2_def (s : Int) (n : Nat) (P R : Nat → Int) (A B : Nat → Nat) : ok2 s n P R A B = okAll s n P R 2 (twoL A B) := rfl
theorem ok2_iff {s : Int} {n : Nat} {P R : Nat → Int} {A B : Nat → Nat} : ok2 s n P R A B = true ↔ vFrame s n P R = true ∧ vDrum s n A = true ∧ vDrum s n B = true := by
  rw [ok2_def, okAll_iff]
  constructor
  · rintro ⟨h1, h2⟩; exact ⟨h1, h2 0 (by omega), h2 1 (by omega)⟩
  · rintro ⟨h1, h2, h3⟩
    exact ⟨h1, fun i hi => by
      obtain rfl | rfl : i = 0 ∨ i = 1 := by omega
      · exact h2
      · exact h3⟩
theorem ok2_no {s : Int} {n : Nat} {P R : Nat → Int} {A B : Nat → Nat} (h : ¬ (vFrame s n P R = true ∧ vDrum s n A = true ∧ vDrum s n B = true)) : ok2 s n P R A B = false := by
  rw [← Bool.not_eq_true, ok2_iff]; exact h
attribute [irreducible] ok2
def mbV (s : Int) (n : Nat) (P R : Nat → Int) (A B : Nat → Nat) (C : Nat → Nat) : List (Int × Int) := if ok2 s n P R A B then plL (hasPin C) n (s.toNat * n) else []
theorem mbV_yes {s : Int} {n : Nat} {P R : Nat → Int} {A B C : Nat → Nat} (h : ok2 s n P R A B = true) : mbV s n P R A B C = plL (hasPin C) n (s.toNat * n) := by unfold mbV; rw [h]; rfl
theorem mbV_no {s : Int} {n : Nat} {P R : Nat → Int} {A B C : Nat → Nat} (h : ok2 s n P R A B = false) : mbV s n P R A B C = [] := by unfold mbV; rw [h]; rfl
theorem mbV_len {s : Int} {n : Nat} {P R : Nat → Int} {A B C : Nat → Nat} : (mbV s n P R A B C).length ≤ 1000000 := by
  cases h : ok2 s n P R A B
  · rw [mbV_no h]; simp
  · rw [mbV_yes h]
    have h1 := plL_len (hasPin C) n (s.toNat * n)
    obtain ⟨hS, hN, _⟩ := vFrame_iff.1 (ok2_iff.1 h).1
    have h2 := place_bound (s := s.toNat) (n := n) (by omega) (by omega)
    omega
attribute [irreducible] mbV
end Go.Proofs.Ytlcfjeofphncgaa
namespace Go.Proofs.Ytlcfjeofphncgaa
open Go.RowKit
set_option linter.unusedVariables false
set_option linter.unusedSimpArgs false

/-- how many steps behind the step k the next pin of the track t comes, of the first j steps behind; m: none -/
def nxtTo (D : Nat → Nat) (m k t : Nat) : Nat → Option Nat
  | 0 => none
  | j + 1 => match nxtTo D m k t j with
    | some x => some x
    | none => if hasPin D ((k + (j + 1)) % m) t then some (j + 1) else none
/-- the next pin -/
def nxt (D : Nat → Nat) (m k t : Nat) : Nat := (nxtTo D m k t (m - 1)).getD m
theorem nxt_at {D : Nat → Nat} {m k t f : Nat} (hf : 1 ≤ f) (hfm : f < m) (h : hasPin D ((k + f) % m) t = true) (hno : ∀ j, 1 ≤ j → j < f → hasPin D ((k + j) % m) t = false) : nxt D m k t = f := by
  have h0 : ∀ j, j < f → nxtTo D m k t j = none := by
    intro j
    induction j with
    | zero => intro _; rfl
    | succ j ih =>
      intro hj
      have := hno (j + 1) (by omega) hj
      simp [nxtTo, ih (by omega), this]
  have h1 : ∀ j, f ≤ j → nxtTo D m k t j = some f := by
    intro j hj
    induction j with
    | zero => omega
    | succ j ih =>
      by_cases e : j + 1 = f
      · subst e; simp [nxtTo, h0 j (by omega), h]
      · simp [nxtTo, ih (by omega)]
  unfold nxt
  rw [h1 (m - 1) (by omega)]
  rfl
theorem nxt_none {D : Nat → Nat} {m k t : Nat} (hno : ∀ j, 1 ≤ j → j < m → hasPin D ((k + j) % m) t = false) : nxt D m k t = m := by
  have h0 : ∀ j, j < m → nxtTo D m k t j = none := by
    intro j
    induction j with
    | zero => intro _; rfl
    | succ j ih =>
      intro hj
      have := hno (j + 1) (by omega) hj
      simp [nxtTo, ih (by omega), this]
  unfold nxt
  rcases Nat.lt_or_ge 0 m with h | h
  · rw [h0 (m - 1) (by omega)]; rfl
  · have : m = 0 := by omega
    subst this
    rfl
theorem nxt_le (D : Nat → Nat) (m k t : Nat) : nxt D m k t ≤ m := by
  by_cases h : ∃ f, 1 ≤ f ∧ f < m ∧ hasPin D ((k + f) % m) t = true
  · obtain ⟨f, h1, h2, h3⟩ := h
    have : ∀ g, 1 ≤ g → g < m → hasPin D ((k + g) % m) t = true → nxt D m k t ≤ m := by
      intro g
      induction g using Nat.strongRecOn with
      | _ g ih =>
        intro a1 a2 a3
        by_cases hx : ∃ j, 1 ≤ j ∧ j < g ∧ hasPin D ((k + j) % m) t = true
        · obtain ⟨j, b1, b2, b3⟩ := hx; exact ih j b2 b1 (by omega) b3
        · rw [nxt_at a1 a2 a3 fun j b1 b2 => by
            cases hh : hasPin D ((k + j) % m) t
            · rfl
            · exact absurd ⟨j, b1, b2, hh⟩ hx]
          omega
    exact this f h1 h2 h3
  · rw [nxt_none fun j b1 b2 => by
      cases hh : hasPin D ((k + j) % m) t
      · rfl
      · exact absurd ⟨j, b1, b2, hh⟩ h]
    exact Nat.le_refl _
attribute [irreducible] nxt nxtTo
/-- there is a clash at the pin -/
def clB (m : Nat) (R : Nat → Int) (D : Nat → Nat) (k t : Nat) : Bool := hasPin D k t && decide ((nxt D m k t : Int) < R t)
theorem clB_pin {m : Nat} {R : Nat → Int} {D : Nat → Nat} {k t : Nat} (h : hasPin D k t = true) : clB m R D k t = decide ((nxt D m k t : Int) < R t) := by unfold clB; rw [h]; rfl
theorem clB_no {m : Nat} {R : Nat → Int} {D : Nat → Nat} {k t : Nat} (h : hasPin D k t = false) : clB m R D k t = false := by unfold clB; rw [h]; rfl
attribute [irreducible] clB
theorem nmod (k b m : Nat) : ((k : Int) + (b : Int)) % (m : Int) = (((k + b) % m : Nat) : Int) := by rw [← Int.natCast_add, ← Int.natCast_emod]
theorem ntmod (k b m : Nat) : ((k : Int) + (b : Int)).tmod (m : Int) = (((k + b) % m : Nat) : Int) := by rw [← Int.natCast_add, ← Int.ofNat_tmod]
theorem nmod2 (k b m : Nat) : ((k : Int) + (b : Int) + (m : Int)) % (m : Int) = (((k + b) % m : Nat) : Int) := by rw [Int.add_emod_right, nmod]
theorem ntmod2 (k b m : Nat) : ((k : Int) + (b : Int) + (m : Int)).tmod (m : Int) = (((k + b) % m : Nat) : Int) := by rw [← Int.natCast_add, ← Int.natCast_add, ← Int.ofNat_tmod, Nat.add_mod_right]
set_option maxRecDepth 100000 in
theorem l02Next_any (gf gd Tf Td : Nat) (m : Nat) (a : Option Addr) (n c : Nat) (D : Nat → Nat) (k t : Nat) (w : World) (hm : 2 ≤ m ∧ m ≤ 96) (hk : k < m) (ht : t < 24) (hD : D32 D)
    (hf : w.heap[gf]? = some (.cells #[.int .i16 (m : Int), .slice a n c] Tf (0, 0))) (hd : DrumAt w Td gd D) :
    Calls Try.prog 96 #[.pointer (some ⟨gf, 0, none⟩), .pointer (some ⟨gd, 0, none⟩), .int .i64 (k : Int), .int .i64 (t : Int)] w fun e w' => e = .returned (.int .i64 (nxt D m k t : Nat)) ∧ w = w' := by
  have HD := Lib.hid hD; have HDR := Lib.hid hd; clear hD hd
  have f0 := row_cell 0 hf
  have q0 := i64_id (x := (m : Int)) (by omega)
  go_enter Try.func96, Try.ntmps96
  go_wp2
  go_loopw [10] (fun i w' => w = w' ∧ ∃ f : Nat, 1 ≤ f ∧ f ≤ m ∧ i = .int .i64 f ∧ ∀ j, 1 ≤ j → j < f → hasPin D ((k + j) % m) t = false) (fun i _ => (m - intOf i).toNat)
  case atStart => exact ⟨rfl, 1, by omega, by omega, rfl, fun j h1 h2 => by omega⟩
  case round =>
    obtain ⟨rfl, f, hf1, hfm, rfl, hno⟩ := hrel
    have HNO := Lib.hid hno; clear hno
    by_cases hlt : f < m
    · have hlt' : (f : Int) < m := by omega
      have hq := Nat.mod_lt (k + f) (show 0 < m by omega)
      have hmod := nmod k f m
      have hmod' := ntmod k f m
      obtain ⟨r, hr⟩ : ∃ r, (k + f) % m = r := ⟨_, rfl⟩
      rw [hr] at hq hmod hmod'
      have HR := Lib.hid hr; clear hr
      have q1 := i64_id (x := (k : Int) + (f : Int)) (by omega)
      have hm0 : ¬ m = 0 := by omega
      cases hp : hasPin D r t
      · have HP := Lib.hid hp
        go_wp2_with (go_at_call 87; refine (l02Pin_any gd Td D r t _ HD.out (by omega) (by omega) HDR.out).mono ?_; rw [hp]; rintro e w2 ⟨rfl, rfl⟩)
        go_roundw
        case rel => exact ⟨trivial, f + 1, by omega, by omega, by go_num, fun j h1 h2 => if e : j = f then by rw [e, HR.out]; exact HP.out else HNO.out j h1 (by omega)⟩
        case measure => simp [intOf]; omega
      · have HX := Lib.hid (nxt_at hf1 hlt (show hasPin D ((k + f) % m) t = true by rw [HR.out]; exact hp) HNO.out)
        go_wp2_with (go_at_call 87; refine (l02Pin_any gd Td D r t _ HD.out (by omega) (by omega) HDR.out).mono ?_; rw [hp]; rintro e w2 ⟨rfl, rfl⟩)
        go_ret
        exact ⟨by rw [HX.out]; rfl, rfl⟩
    · have hfe : f = m := by omega
      subst hfe
      have HX := Lib.hid (nxt_none HNO.out)
      go_wp2
      go_ret
      exact ⟨by rw [HX.out]; rfl, rfl⟩
set_option maxRecDepth 100000 in
theorem behind_any (gd Td : Nat) (m : Nat) (a : Option Addr) (n c : Nat) (D : Nat → Nat) (k t : Nat) (w : World) (hm : 2 ≤ m ∧ m ≤ 96) (hk : k < m) (ht : t < 24) (hD : D32 D) (hd : DrumAt w Td gd D) :
    Calls Try.prog 92 #[.agg #[.int .i16 (m : Int), .slice a n c], .pointer (some ⟨gd, 0, none⟩), .int .i64 (k : Int), .int .i64 (t : Int), .int .i64 1] w fun e w' => e = .returned (.int .i64 (nxt D m k t : Nat)) ∧ Below w.heap.size w w' := by
  have HD := Lib.hid hD; have KD := kp_drum hd; clear hD hd
  have KB := Kp.base w
  replace KB := KB.alloc (.cells #[.int .i16 (m : Int), .slice a n c] 27)
  replace KD := KD.alloc (.cells #[.int .i16 (m : Int), .slice a n c] 27)
  have KF := kp_new1 w #[.int .i16 (m : Int), .slice a n c] 27 (g := w.heap.size) (by simp)
  have HZ := Lib.hid (show (w.alloc (.cells #[.int .i16 (m : Int), .slice a n c] 27)).heap.size = w.heap.size + 1 by simp)
  have f0 := row_cell 0 KF.here
  have q0 := i64_id (x := (m : Int)) (by omega)
  go_enter Try.func92, Try.ntmps92
  go_wp2
  clear f0
  generalize w.alloc (.cells #[.int .i16 (m : Int), .slice a n c] 27) = W at KB KD KF HZ ⊢
  have HB := Lib.hid KB.here; have HDR := Lib.hid KD.here; clear KB KD KF HZ
  go_loopw [12] (fun i w' => W = w' ∧ ∃ f : Nat, 1 ≤ f ∧ f ≤ m ∧ i = .int .i64 f ∧ ∀ j, 1 ≤ j → j < f → hasPin D ((k + j) % m) t = false) (fun i _ => (m - intOf i).toNat)
  case atStart => exact ⟨rfl, 1, by omega, by omega, rfl, fun j h1 h2 => by omega⟩
  case round =>
    obtain ⟨rfl, f, hf1, hfm, rfl, hno⟩ := hrel
    have HNO := Lib.hid hno; clear hno
    by_cases hlt : f < m
    · have hlt' : (f : Int) < m := by omega
      have hq := Nat.mod_lt (k + f) (show 0 < m by omega)
      have hmod := nmod2 k f m
      have hmod' := ntmod2 k f m
      obtain ⟨r, hr⟩ : ∃ r, (k + f) % m = r := ⟨_, rfl⟩
      rw [hr] at hq hmod hmod'
      have HR := Lib.hid hr; clear hr
      have q1 := i64_id (x := (k : Int) + (f : Int)) (by omega)
      have q2 := i64_id (x := (k : Int) + (f : Int) + (m : Int)) (by omega)
      have q3 := i64_id (x := (f : Int)) (by omega)
      have hm0 : ¬ m = 0 := by omega
      cases hp : hasPin D r t
      · have HP := Lib.hid hp
        go_wp2_with (go_at_call 91; refine (has_any gd Td D r t _ HD.out (by omega) (by omega) HDR.out).mono ?_; rw [hp]; rintro e w2 ⟨rfl, rfl⟩)
        go_roundw
        case rel => exact ⟨trivial, f + 1, by omega, by omega, by go_num, fun j h1 h2 => if e : j = f then by rw [e, HR.out]; exact HP.out else HNO.out j h1 (by omega)⟩
        case measure => simp [intOf]; omega
      · have HX := Lib.hid (nxt_at hf1 hlt (show hasPin D ((k + f) % m) t = true by rw [HR.out]; exact hp) HNO.out)
        go_wp2_with (go_at_call 91; refine (has_any gd Td D r t _ HD.out (by omega) (by omega) HDR.out).mono ?_; rw [hp]; rintro e w2 ⟨rfl, rfl⟩)
        go_ret
        exact ⟨by rw [HX.out]; rfl, HB.out⟩
    · have hfe : f = m := by omega
      subst hfe
      have HX := Lib.hid (nxt_none HNO.out)
      go_wp2
      go_ret
      exact ⟨by rw [HX.out]; rfl, HB.out⟩
set_option maxRecDepth 100000 in
theorem clashes_any (gd Td : Nat) (m : Nat) (a : Option Addr) (n c : Nat) (P R : Nat → Int) (D : Nat → Nat) (k t : Nat) (w : World) (hm : 2 ≤ m ∧ m ≤ 96) (hn : n ≤ 24) (hk : k < m) (ht : t < n) (hD : D32 D) (hR : I8 R) (hp : hasPin D k t = true) (hd : DrumAt w Td gd D) (hh : HamAt w a n P R) :
    Calls Try.prog 71 #[.agg #[.int .i16 (m : Int), .slice a n c], .pointer (some ⟨gd, 0, none⟩), .int .i64 (k : Int), .int .i64 (t : Int)] w fun e w' => e = .returned (.bool (clB m R D k t)) ∧ Below w.heap.size w w' := by
  obtain ⟨gh, off, rfl, _, _⟩ := hh.get (show 0 < n by omega)
  have HC := Lib.hid (clB_pin (m := m) (R := R) hp)
  have HD := Lib.hid hD; have KD := kp_drum hd; have KH := kp_ham hh; clear hD hd hh hp
  have hle := nxt_le D m k t
  have hrt := hR t
  have HR := Lib.hid hR; clear hR
  have KB := Kp.base w
  replace KB := KB.alloc (.cells #[.int .i16 (m : Int), .slice (some ⟨gh, off, none⟩) n c] 27)
  replace KD := KD.alloc (.cells #[.int .i16 (m : Int), .slice (some ⟨gh, off, none⟩) n c] 27)
  replace KH := KH.alloc (.cells #[.int .i16 (m : Int), .slice (some ⟨gh, off, none⟩) n c] 27)
  have KF := kp_new1 w #[.int .i16 (m : Int), .slice (some ⟨gh, off, none⟩) n c] 27 (g := w.heap.size) (by simp)
  have HZ := Lib.hid (show (w.alloc (.cells #[.int .i16 (m : Int), .slice (some ⟨gh, off, none⟩) n c] 27)).heap.size = w.heap.size + 1 by simp)
  go_enter Try.func71, Try.ntmps71
  have hS := below_drew (w.alloc (.cells #[.int .i16 (m : Int), .slice (some ⟨gh, off, none⟩) n c] 27))
  have ht' : (t : Int) < n := by omega
  have HCE := Lib.hid (fun V (hV : Below (w.alloc (.cells #[.int .i16 (m : Int), .slice (some ⟨gh, off, none⟩) n c] 27)).heap.size (w.alloc (.cells #[.int .i16 (m : Int), .slice (some ⟨gh, off, none⟩) n c] 27)) V) => by
    obtain ⟨g, o, e, hg, hc⟩ := ((KH.on hV).here : HamAt V _ n P R).get (show 0 < n by omega)
    simp at e
    obtain ⟨rfl, rfl⟩ := e
    exact (hc t ht).2 : ∀ V, Below (w.alloc (.cells #[.int .i16 (m : Int), .slice (some ⟨gh, off, none⟩) n c] 27)).heap.size (w.alloc (.cells #[.int .i16 (m : Int), .slice (some ⟨gh, off, none⟩) n c] 27)) V → V.cell? ⟨gh, off + t * 2 + 1, none⟩ = some (.int .i8 (R t)))
  go_wp2
  refine wp_region_S (fun V => Below (w.alloc (.cells #[.int .i16 (m : Int), .slice (some ⟨gh, off, none⟩) n c] 27)).heap.size (w.alloc (.cells #[.int .i16 (m : Int), .slice (some ⟨gh, off, none⟩) n c] 27)) V) (by kernel_rfl) hS ?_
  refine take_val 0 (.agg #[.int .i16 (m : Int), .slice (some ⟨gh, off, none⟩) n c]) rfl (by kernel_rfl) (by kernel_rfl) (by kernel_rfl) (fun _ _ _ h => h) rfl (fun V hV => ex_load_iframe _ rfl w.heap.size rfl _ (m : Int) (some ⟨gh, off, none⟩) n c (KF.at hV)) hS ?_
  simp only [List.getElem_toArray, List.getElem_cons_zero, List.getElem_cons_succ, Act.put, List.setIfInBounds_toArray, List.set_cons_zero, List.set_cons_succ]
  refine take_val 1 (.pointer (some ⟨gd, 0, none⟩)) rfl (by kernel_rfl) (by kernel_rfl) (by kernel_rfl) (fun _ _ _ h => h) rfl (fun V hV => by simp [go_sem]) hS ?_
  simp only [List.getElem_toArray, List.getElem_cons_zero, List.getElem_cons_succ, Act.put, List.setIfInBounds_toArray, List.set_cons_zero, List.set_cons_succ]
  refine take_val 2 (.int .i64 (k : Int)) rfl (by kernel_rfl) (by kernel_rfl) (by kernel_rfl) (fun _ _ _ h => h) rfl (fun V hV => by simp [go_sem]) hS ?_
  simp only [List.getElem_toArray, List.getElem_cons_zero, List.getElem_cons_succ, Act.put, List.setIfInBounds_toArray, List.set_cons_zero, List.set_cons_succ]
  refine take_val 3 (.int .i64 (t : Int)) rfl (by kernel_rfl) (by kernel_rfl) (by kernel_rfl) (fun _ _ _ h => h) rfl (fun V hV => by simp [go_sem]) hS ?_
  simp only [List.getElem_toArray, List.getElem_cons_zero, List.getElem_cons_succ, Act.put, List.setIfInBounds_toArray, List.set_cons_zero, List.set_cons_succ]
  refine take_val 5 (.pointer (some ⟨w.heap.size, 1, none⟩)) rfl (by kernel_rfl) (by kernel_rfl) (by kernel_rfl) (fun _ _ _ h => h) rfl (fun V hV => by simp [go_sem]) hS ?_
  simp only [List.getElem_toArray, List.getElem_cons_zero, List.getElem_cons_succ, Act.put, List.setIfInBounds_toArray, List.set_cons_zero, List.set_cons_succ]
  refine take_val 6 (.slice (some ⟨gh, off, none⟩) n c) rfl (by kernel_rfl) (by kernel_rfl) (by kernel_rfl) (fun _ _ _ h => h) rfl (fun V hV => by have h := row_cell 1 (KF.at hV); simp [go_sem, h]) hS ?_
  simp only [List.getElem_toArray, List.getElem_cons_zero, List.getElem_cons_succ, Act.put, List.setIfInBounds_toArray, List.set_cons_zero, List.set_cons_succ]
  refine take_val 7 (.int .i64 (t : Int)) rfl (by kernel_rfl) (by kernel_rfl) (by kernel_rfl) (fun _ _ _ h => h) rfl (fun V hV => by simp [go_sem]) hS ?_
  simp only [List.getElem_toArray, List.getElem_cons_zero, List.getElem_cons_succ, Act.put, List.setIfInBounds_toArray, List.set_cons_zero, List.set_cons_succ]
  refine take_val 8 (.pointer (some ⟨gh, off + t * 2, none⟩)) rfl (by kernel_rfl) (by kernel_rfl) (by kernel_rfl) (fun _ _ _ h => h) rfl (fun V hV => by simp [go_sem, ht, ht']) hS ?_
  simp only [List.getElem_toArray, List.getElem_cons_zero, List.getElem_cons_succ, Act.put, List.setIfInBounds_toArray, List.set_cons_zero, List.set_cons_succ]
  refine take_val 9 (.pointer (some ⟨gh, off + t * 2 + 1, none⟩)) rfl (by kernel_rfl) (by kernel_rfl) (by kernel_rfl) (fun _ _ _ h => h) rfl (fun V hV => by simp [go_sem]) hS ?_
  simp only [List.getElem_toArray, List.getElem_cons_zero, List.getElem_cons_succ, Act.put, List.setIfInBounds_toArray, List.set_cons_zero, List.set_cons_succ]
  refine take_val 10 (.int .i8 (R t)) rfl (by kernel_rfl) (by kernel_rfl) (by kernel_rfl) (fun _ _ _ h => h) rfl (fun V hV => by have h := HCE.out V hV; simp [go_sem, h]) hS ?_
  simp only [List.getElem_toArray, List.getElem_cons_zero, List.getElem_cons_succ, Act.put, List.setIfInBounds_toArray, List.set_cons_zero, List.set_cons_succ]
  refine take_val 11 (.int .i64 (R t)) rfl (by kernel_rfl) (by kernel_rfl) (by kernel_rfl) (fun _ _ _ h => h) rfl (fun V hV => by have h := i64_id (x := R t) (by omega); simp [go_sem, h]) hS ?_
  simp only [List.getElem_toArray, List.getElem_cons_zero, List.getElem_cons_succ, Act.put, List.setIfInBounds_toArray, List.set_cons_zero, List.set_cons_succ]
  refine step_call 4 92 #[.agg #[.int .i16 (m : Int), .slice (some ⟨gh, off, none⟩) n c], .pointer (some ⟨gd, 0, none⟩), .int .i64 (k : Int), .int .i64 (t : Int), .int .i64 1] (by kernel_rfl) rfl rfl (by simp [go_sem]) ?_
  refine (behind_any gd Td m (some ⟨gh, off, none⟩) n c D k t _ hm hk (by omega) HD.out (KD.at hS)).mono ?_
  rintro e w2 ⟨rfl, hb2⟩
  have hS2 := hS.trans (hb2.mono hS.size)
  refine ⟨_, rfl, hS2, ?_⟩
  simp only [List.getElem_toArray, List.getElem_cons_zero, List.getElem_cons_succ, Act.put, List.setIfInBounds_toArray, List.set_cons_zero, List.set_cons_succ]
  refine take_val 12 (.bool (decide ((nxt D m k t : Int) < R t))) rfl (by kernel_rfl) (by kernel_rfl) (by kernel_rfl) (fun _ _ _ h => h) rfl (fun V hV => by simp [go_sem]) hS2 ?_
  simp only [List.getElem_toArray, List.getElem_cons_zero, List.getElem_cons_succ, Act.put, List.setIfInBounds_toArray, List.set_cons_zero, List.set_cons_succ]
  refine take_val 13 (.bool (decide ((nxt D m k t : Int) < R t))) rfl (by kernel_rfl) (by kernel_rfl) (by kernel_rfl) (fun _ _ _ h => h) rfl (fun V hV => by simp [go_sem]) hS2 ?_
  simp only [List.getElem_toArray, List.getElem_cons_zero, List.getElem_cons_succ, Act.put, List.setIfInBounds_toArray, List.set_cons_zero, List.set_cons_succ]
  refine wpAnyH_done (by kernel_rfl) ?_ _
  have hb3 := KB.at hS2
  go_wp2
  go_ret
  exact ⟨ret_bool HC.out.symm, hb3⟩
set_option maxRecDepth 100000 in
theorem l02Clash_any (gf gd Tf Td : Nat) (m : Nat) (a : Option Addr) (n c : Nat) (P R : Nat → Int) (D : Nat → Nat) (k t : Nat) (w : World) (hm : 2 ≤ m ∧ m ≤ 96) (hn : n ≤ 24) (hk : k < m) (ht : t < n) (hD : D32 D) (hR : I8 R)
    (hf : w.heap[gf]? = some (.cells #[.int .i16 (m : Int), .slice a n c] Tf (0, 0))) (hd : DrumAt w Td gd D) (hh : HamAt w a n P R) :
    Calls Try.prog 76 #[.pointer (some ⟨gf, 0, none⟩), .pointer (some ⟨gd, 0, none⟩), .int .i64 (k : Int), .int .i64 (t : Int)] w fun e w' => e = .returned (.bool (clB m R D k t)) ∧ ∃ q, w' = w.drewN q := by
  obtain ⟨gh, off, rfl, hgh, hcell⟩ := hh.get (show 0 < n by omega)
  have HD := Lib.hid hD; have HDR := Lib.hid hd; have HF := Lib.hid hf; clear hD hd
  have hle := nxt_le D m k t
  have hrt := hR t
  have HR := Lib.hid hR; clear hR
  have c1 := (hcell t ht).2
  have f1 := row_cell 1 HF.out
  clear hcell
  go_enter Try.func76, Try.ntmps76
  cases hp : hasPin D k t
  · have HC := Lib.hid (clB_no (m := m) (R := R) hp)
    have hl2 : ∀ q, Calls Try.prog 87 #[.pointer (some ⟨gd, 0, none⟩), .int .i64 (k : Int), .int .i64 (t : Int)] (w.drewN q) fun e w' => e = .returned (.bool (hasPin D k t)) ∧ w.drewN q = w' := fun q => l02Pin_any gd Td D k t _ HD.out (by omega) (by omega) (HDR.out.drewN q)
    rw [hp] at hl2
    have HL := Lib.hid hl2; clear hl2 hp
    go_wp2
    go_quiet ((go_at_call 87; exact q_same (HL.out _)))
    go_wp2
    go_ret
    exact ⟨ret_bool HC.out.symm, _, rfl⟩
  · have HC := Lib.hid (clB_pin (m := m) (R := R) hp)
    have HN := Lib.hid (fun q => l02Next_any gf gd Tf Td m (some ⟨gh, off, none⟩) n c D k t (w.drewN q) hm hk (by omega) HD.out HF.out (HDR.out.drewN q))
    have hl2 : ∀ q, Calls Try.prog 87 #[.pointer (some ⟨gd, 0, none⟩), .int .i64 (k : Int), .int .i64 (t : Int)] (w.drewN q) fun e w' => e = .returned (.bool (hasPin D k t)) ∧ w.drewN q = w' := fun q => l02Pin_any gd Td D k t _ HD.out (by omega) (by omega) (HDR.out.drewN q)
    rw [hp] at hl2
    have HL := Lib.hid hl2; clear hl2 hp
    have q3 := i64_id (x := R t) (by omega)
    obtain ⟨x, hx⟩ : ∃ x, nxt D m k t = x := ⟨_, rfl⟩
    rw [hx] at HN HC
    clear hx hle
    go_wp2
    go_quiet (first | (go_at_call 87; exact q_same (HL.out _)) | (go_at_call 96; exact q_same (HN.out _)))
    go_wp2
    go_ret
    exact ⟨ret_bool HC.out.symm, _, rfl⟩
set_option maxRecDepth 100000 in
set_option maxHeartbeats 1000000 in
theorem l02Clashes_any (gf gd Tf Td : Nat) (m : Nat) (a : Option Addr) (n c : Nat) (P R : Nat → Int) (D : Nat → Nat) (w : World) (hm : 2 ≤ m ∧ m ≤ 96) (hn : 1 ≤ n ∧ n ≤ 24) (hD : D32 D) (hR : I8 R)
    (hf : w.heap[gf]? = some (.cells #[.int .i16 (m : Int), .slice a n c] Tf (0, 0))) (hd : DrumAt w Td gd D) (hh : HamAt w a n P R) :
    Calls Try.prog 48 #[.pointer (some ⟨gf, 0, none⟩), .pointer (some ⟨gd, 0, none⟩)] w fun e w' => ∃ v, e = .returned v ∧ Below w.heap.size w w' ∧ OwnP w' w.heap.size v (plL (clB m R D) n (m * n)) := by
  have HD := Lib.hid hD; have HR := Lib.hid hR; clear hD hR
  have KF := kp_row hf; have KD := kp_drum hd; have KH := kp_ham hh; clear hf hd hh
  have hn0 : OwnP (w.alloc (.cells #[] 111)) w.heap.size (.slice (some ⟨w.heap.size, 0, none⟩) 0 0) (plL (clB m R D) n 0) := by rw [plL_zero]; exact OwnL.nil w w.heap.size (Nat.le_refl _)
  have HN0 := Lib.hid hn0; clear hn0
  go_enter Try.func48, Try.ntmps48
  go_wp2
  go_loopw [5, 6] (fun v i w' => Below w.heap.size w w' ∧ ∃ k : Nat, k ≤ m ∧ i = .int .i64 k ∧ OwnP w' w.heap.size v (plL (clB m R D) n (k * n))) (fun _ i _ => (m - intOf i).toNat)
  case atStart => exact ⟨(Below.refl _ _).alloc (Nat.le_refl _) _, 0, by omega, rfl, by rw [Nat.zero_mul]; exact HN0.out⟩
  case round =>
    clear HN0
    obtain ⟨hb, k, hk, rfl, hown⟩ := hrel
    have HOWN := Lib.hid hown; clear hown
    have f0 := row_cell 0 (KF.at hb)
    have q0 := i64_id (x := (m : Int)) (by omega)
    by_cases hlt : k < m
    · have hlt' : (k : Int) < m := by omega
      go_wp2
      go_loopw [5, 7] (fun v i w' => Below w.heap.size w w' ∧ ∃ t : Nat, t ≤ n ∧ i = .int .i64 t ∧ OwnP w' w.heap.size v (plL (clB m R D) n (k * n + t))) (fun _ i _ => n - (intOf i).toNat)
      case atStart => exact ⟨hb, 0, by omega, rfl, HOWN.out⟩
      case round =>
        clear HOWN f0 hb
        obtain ⟨hb, t, ht, rfl, hown⟩ := hrel
        have HOWN := Lib.hid hown; clear hown
        have f1 := row_cell 1 (KF.at hb)
        by_cases hlt2 : t < n
        · have ht' : (t : Int) < n := by omega
          have hsz := hb.size
          have hlen := plL_len (clB m R D) n (k * n + t)
          have hj := place_lt (s := m) hlt hlt2
          have hj2 := place_bound (s := m) (n := n) (by omega) (by omega)
          have HLEN := Lib.hid (show (plL (clB m R D) n (k * n + t)).length ≤ 3000 by omega)
          clear hlen hj hj2
          cases hp : clB m R D k t
          · have hy := Lib.hid (plL_no hlt2 hp)
            go_wp2_with fail
            refine (l02Clash_any gf gd Tf Td m a n c P R D k t _ hm hn.2 hlt hlt2 HD.out HR.out (KF.at hb) (KD.at hb) (KH.at hb)).mono ?_
            rw [hp]
            rintro e w2 ⟨rfl, q, rfl⟩
            have hb2 := below_drewN hb q
            have HO2 := Lib.hid (OwnP.below HOWN.out (below_drewN (Below.refl _ _) q))
            go_wp2
            go_roundw
            case rel => exact ⟨hb2, t + 1, by omega, by go_num, by rw [← Nat.add_assoc, hy.out]; exact HO2.out⟩
            case measure => simp [intOf]; omega
          · have hy := Lib.hid (plL_yes hlt2 hp)
            go_wp2_with fail
            refine (l02Clash_any gf gd Tf Td m a n c P R D k t _ hm hn.2 hlt hlt2 HD.out HR.out (KF.at hb) (KD.at hb) (KH.at hb)).mono ?_
            rw [hp]
            rintro e w2 ⟨rfl, q, rfl⟩
            have hb2 := below_drewN hb q
            have HO2 := Lib.hid (OwnP.below HOWN.out (below_drewN (Below.refl _ _) q))
            obtain ⟨w3, hw3⟩ : ∃ x, wr.drewN q = x := ⟨_, rfl⟩
            rw [hw3] at hb2 HO2 ⊢
            clear hw3
            have hb1 := hb2.alloc hb2.size (.cells #[.int .i64 (k : Int), .int .i64 (t : Int)] 111)
            have hz3 := hb2.size
            go_wp2_with (at_builtin; refine append_pairs rfl _ _ rfl w.heap.size _ (plL (clB m R D) n (k * n + t)) rfl (OwnP.alloc HO2.out _) ⟨w3.heap.size, 0, none⟩ 1 1 [((k : Int), (t : Int))] rfl rfl (one_cells (heap_alloc_new w3 _)) (by have := HLEN.out; omega) (by simp; omega) ?_; intro v2 w4 hown2 hb4; have HO4 := Lib.hid hown2; have hb5 := hb1.trans hb4; clear hown2 hb4)
            go_roundw
            case rel => exact ⟨hb5, t + 1, by omega, by go_num, by rw [← Nat.add_assoc, hy.out]; exact HO4.out⟩
            case measure => simp [intOf]; omega
        · have htn : t = n := by omega
          subst htn
          go_wp2
          go_roundw
          case rel => exact ⟨hb, k + 1, by omega, by go_num, by rw [Nat.add_mul, Nat.one_mul]; exact HOWN.out⟩
          case measure => simp [intOf]; omega
    · have hks : k = m := by omega
      subst hks
      go_wp2
      go_ret
      exact ⟨_, rfl, hb, HOWN.out⟩
/-- one more, if so -/
def adB (b : Bool) (x : Int × Int) (l : List (Int × Int)) : List (Int × Int) := if b then l ++ [x] else l
theorem adB_yes (x : Int × Int) (l : List (Int × Int)) : adB true x l = l ++ [x] := rfl
theorem adB_no (x : Int × Int) (l : List (Int × Int)) : adB false x l = l := rfl
theorem adB_plL {p : Nat → Nat → Bool} {n k t : Nat} (ht : t < n) : adB (p k t) ((k : Int), (t : Int)) (plL p n (k * n + t)) = plL p n (k * n + t + 1) := by
  cases h : p k t
  · rw [plL_no ht h, adB_no]
  · rw [plL_yes ht h, adB_yes]
attribute [irreducible] adB
set_option maxRecDepth 100000 in
theorem allClashes1_any (go gf gd base : Nat) (m : Nat) (a : Option Addr) (n c : Nat) (P R : Nat → Int) (D : Nat → Nat) (v : Value) (l : List (Int × Int)) (k t : Nat) (W : World) (hm : 2 ≤ m ∧ m ≤ 96) (hn : n ≤ 24) (hk : k < m) (ht : t < n) (hD : D32 D) (hR : I8 R) (hp : hasPin D k t = true)
    (hgo : W.heap[go]? = some (.cells #[v] 72 (0, 0))) (hown : OwnP W base v l) (hl : l.length ≤ 10000) (hbase : base ≤ W.heap.size) (hf : W.heap[gf]? = some (.cells #[.int .i16 (m : Int), .slice a n c] 27 (0, 0))) (hd : DrumAt W 33 gd D) (hh : HamAt W a n P R) :
    Calls Try.prog 70 #[.int .i64 (k : Int), .int .i64 (t : Int), .pointer (some ⟨gf, 0, none⟩), .pointer (some ⟨gd, 0, none⟩), .pointer (some ⟨go, 0, none⟩)] W fun e W' => e = .returned (.tuple #[]) ∧ KeepT 111 72 W W' ∧ (∀ B, B ≤ base → B ≤ go → Below B W W') ∧ ∃ v', W'.heap[go]? = some (.cells #[v'] 72 (0, 0)) ∧ OwnP W' base v' (adB (clB m R D k t) ((k : Int), (t : Int)) l) := by
  obtain ⟨b, c1, rfl⟩ := OwnL.form hown
  have HGO := Lib.hid hgo; have HOWN := Lib.hid hown; have HL := Lib.hid hl; have HB := Lib.hid hbase; have HF := Lib.hid hf; have HDR := Lib.hid hd; have HH := Lib.hid hh; have HD := Lib.hid hD; have HR := Lib.hid hR; have HP := Lib.hid hp
  clear hgo hown hf hd hh hD hR hp
  obtain ⟨nl, hnl⟩ : ∃ n, l.length = n := ⟨_, rfl⟩
  rw [hnl] at HGO HOWN hl
  have HN := Lib.hid hnl; clear hnl
  go_enter Try.func70, Try.ntmps70
  go_wp2_with (with_reducible refine load_iframe rfl _ rfl gf rfl _ (m : Int) a n c HF.out ?_)
  refine (clashes_any gd 33 m a n c P R D k t W hm hn hk ht HD.out HR.out HP.out HDR.out HH.out).mono ?_
  rintro e w1 ⟨rfl, hb1⟩
  have HB1 := Lib.hid hb1
  have hgo1 : w1.heap[go]? = some (.cells #[.slice b nl c1] 72 (0, 0)) := (hb1.block _ (row_lt HGO.out)).trans HGO.out
  have hown1 := OwnP.below HOWN.out hb1
  have hz1 := hb1.size
  have HK1 := Lib.hid (KeepT.below (T1 := 111) (T2 := 72) hb1)
  cases hc : clB m R D k t
  · have HGO1 := Lib.hid hgo1; have HO1 := Lib.hid hown1; have HC := Lib.hid hc; clear hgo1 hown1 hc hb1
    go_wp2
    go_end0
    exact ⟨rfl, HK1.out, fun B h1 h2 => HB1.out.mono (Nat.le_trans h1 HB.out), _, HGO1.out, by rw [HC.out, adB_no]; exact HO1.out⟩
  · have c0 := row_cell 0 hgo1
    have HGO1 := Lib.hid hgo1; have HO1 := Lib.hid hown1; have HC := Lib.hid hc; clear hgo1 hown1 hc hb1
    obtain ⟨o1, ho1⟩ : ∃ o : Obj, o = .cells #[.int .i64 (k : Int), .int .i64 (t : Int)] 111 := ⟨_, rfl⟩
    have HW1 := Lib.hid (show (w1.alloc o1).heap[go]? = some (.cells #[.slice b nl c1] 72 (0, 0)) from (heap_alloc_old w1 o1 (row_lt HGO1.out)).trans HGO1.out)
    rw [ho1] at HW1
    clear ho1 o1
    go_wp2_with (at_builtin; go_loud (refine append_Lg Try.underlying72 infoP2 rfl (by decide) (by decide) encP_len encP_one rfl _ _ rfl base _ l rfl (OwnP.alloc HO1.out _) ⟨w1.heap.size, 0, none⟩ 1 1 [((k : Int), (t : Int))] rfl rfl (one_cells (heap_alloc_new w1 _)) (by rw [HN.out]; omega) (Nat.le_trans HB.out (by simp; omega)) ?_; intro v2 w2 hown2 hg2; obtain ⟨b2, c3, hv2⟩ := OwnL.form hown2; obtain ⟨n2, hn2⟩ : ∃ m, (l ++ [((k : Int), (t : Int))]).length = m := ⟨_, rfl⟩; rw [hn2] at hv2; subst hv2; clear hn2; have HO2 := Lib.hid hown2; have HG2 := Lib.hid hg2; have HR2 := Lib.hid (show w2.heap[go]? = some (.cells #[.slice b nl c1] 72 (0, 0)) from (keep_grown (T2 := 111) (OwnP.alloc HO1.out _) hg2).2 go _ _ _ HW1.out (by decide) (by decide)); have c2 := row_cell 0 HR2.out; have f2 := frozen_of_row w2 go 0 _ _ HR2.out; clear hown2 hg2 c0))
    go_end0
    refine ⟨rfl, HK1.out.trans (((keep_alloc _ _ w1 _).trans (keep_grown (T2 := 72) (OwnP.alloc HO1.out _) HG2.out)).trans (keep_set HR2.out _)), fun B h1 h2 => ?_, _, heap_setCell_same w2 go 0 _ _ _ HR2.out, by rw [HC.out, adB_yes]; exact own_set HO2.out HR2.out (by decide) _⟩
    have ho := OwnP.alloc HO1.out (.cells #[.int .i64 (k : Int), .int .i64 (t : Int)] 111)
    have hbw : B ≤ W.heap.size := Nat.le_trans h1 HB.out
    have ha : Below B W (w1.alloc (.cells #[.int .i64 (k : Int), .int .i64 (t : Int)] 111)) := (HB1.out.mono hbw).alloc (by omega) _
    exact (ha.trans (below_grown HG2.out (by simp; omega) (fun x hx => Nat.le_trans h1 (OwnP.lt ho x hx).1))).setCell h2 _
/-- what holds while the clashes are listed -/
def ClInv (w : World) (go : Nat) (p : Nat → Nat → Bool) (m : Nat) (a : Option Addr) (n c : Nat) (D : Nat → Nat) (j : Nat) (W : World) : Prop :=
  LsInv w go p n j W ∧ W.heap[w.heap.size]? = some (.cells #[.int .i16 (m : Int), .slice a n c] 27 (0, 0)) ∧ DrumAt W 33 (w.heap.size + 1) D
set_option maxRecDepth 100000 in
theorem allClashes_any (m : Nat) (a : Option Addr) (n c : Nat) (P R : Nat → Int) (D : Nat → Nat) (w : World) (hm : 2 ≤ m ∧ m ≤ 96) (hn : 1 ≤ n ∧ n ≤ 24) (hD : D32 D) (hR : I8 R) (hh : HamAt w a n P R) :
    Calls Try.prog 42 #[.agg #[.int .i16 (m : Int), .slice a n c], .agg (dc D)] w fun e w' => ∃ v, e = .returned v ∧ Below w.heap.size w w' ∧ OwnP w' w.heap.size v (plL (clB m R D) n (m * n)) := by
  have HD := Lib.hid hD; have HR := Lib.hid hR; clear hD hR
  have KB := Kp.base w; have KH0 := kp_ham hh; clear hh
  replace KB := KB.alloc (.cells #[.int .i16 (m : Int), .slice a n c] 27)
  have KF := kp_new1 w #[.int .i16 (m : Int), .slice a n c] 27 (g := w.heap.size) (by simp)
  replace KB := KB.alloc (.cells (dc D) 33)
  replace KF := KF.alloc (.cells (dc D) 33)
  have KD := kp_newd (w.alloc (.cells #[.int .i16 (m : Int), .slice a n c] 27)) (D) 33 (g := w.heap.size + 1) (by simp)
  have HZ := Lib.hid (show ((w.alloc (.cells #[.int .i16 (m : Int), .slice a n c] 27)).alloc (.cells (dc D) 33)).heap.size = w.heap.size + 1 + 1 by simp)
  go_enter Try.func42, Try.ntmps42
  go_wp2_with (first | (with_reducible refine load_iframe rfl _ rfl w.heap.size rfl _ (m : Int) a n c ((KF.alloc _).alloc _).here ?_) | (with_reducible refine load_drum rfl _ rfl (w.heap.size + 1) rfl _ D ((KD.alloc _).alloc _).here ?_))
  have hb0 : Below w.heap.size w ((((w.alloc (.cells #[.int .i16 (m : Int), .slice a n c] 27)).alloc (.cells (dc D) 33)).alloc (.cells #[] 111)).alloc (.cells #[.slice (some ⟨w.heap.size + 1 + 1, 0, none⟩) 0 0] 72)) := (((KB.alloc _).alloc _)).here
  have h0 : ClInv w (w.heap.size + 1 + 1 + 1) (clB m R D) m a n c D 0 ((((w.alloc (.cells #[.int .i16 (m : Int), .slice a n c] 27)).alloc (.cells (dc D) 33)).alloc (.cells #[] 111)).alloc (.cells #[.slice (some ⟨w.heap.size + 1 + 1, 0, none⟩) 0 0] 72)) := by
    refine ⟨⟨hb0, by omega, .slice (some ⟨w.heap.size + 1 + 1, 0, none⟩) 0 0, ?_, ?_⟩, ((KF.alloc _).alloc _).here, ((KD.alloc _).alloc _).here⟩
    · have h := heap_alloc_new (((w.alloc (.cells #[.int .i16 (m : Int), .slice a n c] 27)).alloc (.cells (dc D) 33)).alloc (.cells #[] 111)) (.cells #[.slice (some ⟨w.heap.size + 1 + 1, 0, none⟩) 0 0] 72)
      simpa using h
    · rw [plL_zero]
      have h := OwnL.nil (T := 111) (sz := 2) (enc := encP) ((w.alloc (.cells #[.int .i16 (m : Int), .slice a n c] 27)).alloc (.cells (dc D) 33)) w.heap.size (by simp; omega)
      rw [show ((w.alloc (.cells #[.int .i16 (m : Int), .slice a n c] 27)).alloc (.cells (dc D) 33)).heap.size = w.heap.size + 1 + 1 by simp] at h
      exact OwnP.alloc h _
  refine (pins_any 111 72 (m : Int) a n c D 70 #[.pointer (some ⟨w.heap.size, 0, none⟩), .pointer (some ⟨w.heap.size + 1, 0, none⟩), .pointer (some ⟨w.heap.size + 1 + 1 + 1, 0, none⟩)] (ClInv w (w.heap.size + 1 + 1 + 1) (clB m R D) m a n c D) _ (by omega) hn HD.out ⟨by decide, by decide⟩ ⟨by decide, by decide⟩ (call_enter _ _ Try.func70 (by kernel_rfl) (by kernel_rfl)) ?_ ?_ ?_ h0).mono ?_
  · rintro j k t W hk ht rfl hp ⟨⟨hb, hgo, v, hc, hown⟩, hf, hd⟩
    have hlen := plL_len (clB m R D) n (k * n + t)
    have hj := place_lt (s := m) (by omega : k < m) ht
    have hj2 := place_bound (s := m) (n := n) (by omega) (by omega)
    refine (allClashes1_any _ w.heap.size (w.heap.size + 1) w.heap.size m a n c P R D v _ k t W hm hn.2 (by omega) ht HD.out HR.out hp hc hown (by omega) hb.size hf hd (KH0.at hb)).mono ?_
    rintro e W' ⟨rfl, hkp, hbl, v', hc', hown'⟩
    exact ⟨rfl, ⟨⟨hb.trans (hbl _ (Nat.le_refl _) hgo), hgo, v', hc', by rw [← adB_plL ht]; exact hown'⟩, hkp.row hf (by decide) (by decide), hkp.row hd (by decide) (by decide)⟩, hkp⟩
  · rintro j k t W hk ht rfl hp ⟨⟨hb, hgo, v, hc, hown⟩, hf, hd⟩
    exact ⟨⟨hb, hgo, v, hc, by rw [plL_no ht (clB_no hp)]; exact hown⟩, hf, hd⟩
  · rintro j W W' ⟨⟨hb, hgo, v, hc, hown⟩, hf, hd⟩ hb2
    exact ⟨⟨hb.trans (hb2.mono hb.size), hgo, v, (hb2.block _ (row_lt hc)).trans hc, OwnP.below hown hb2⟩, (hb2.block _ (row_lt hf)).trans hf, hd.below hb2 hd.lt⟩
  · rintro e w2 ⟨rfl, ⟨⟨hb, hgo, v, hc, hown⟩, _⟩, _⟩
    have c0 := row_cell 0 hc
    obtain ⟨b, c2, rfl⟩ := OwnL.form hown
    rw [Int.toNat_natCast] at hown c0
    have HO := Lib.hid hown; clear hown hc
    clear h0
    go_wp2
    go_ret
    exact ⟨_, rfl, hb, HO.out⟩
end Go.Proofs.Ytlcfjeofphncgaa
namespace Go.Proofs.Ytlcfjeofphncgaa
open Go.RowKit
set_option linter.unusedVariables false
set_option linter.unusedSimpArgs false

/-- the pins that some of the first i drums have -/
def unionTo (L : Nat → Nat → Nat) : Nat → Nat → Nat
  | 0 => fun _ => 0
  | i + 1 => fun k => unionTo L i k ||| L i k
theorem unionTo_zero (L : Nat → Nat → Nat) : unionTo L 0 = fun _ => 0 := rfl
theorem unionTo_succ (L : Nat → Nat → Nat) (i : Nat) : unionTo L (i + 1) = fun k => unionTo L i k ||| L i k := rfl
theorem unionTo_32 {L : Nat → Nat → Nat} (h : L32 L) (i : Nat) : D32 (unionTo L i) := by
  induction i with
  | zero => intro j; rw [unionTo_zero]; simp
  | succ i ih => intro j; rw [unionTo_succ]; exact or_lt32 (ih j) (h i j)
attribute [irreducible] unionTo
/-- the union of m drums, if the code is OK -/
def uniRes (s : Int) (n : Nat) (P R : Nat → Int) (m : Nat) (L : Nat → Nat → Nat) : Nat → Nat := if lcode (okAll s n P R m L) m = 0 then unionTo L m else fun _ => 0
theorem uniRes_yes {s : Int} {n : Nat} {P R : Nat → Int} {m : Nat} {L : Nat → Nat → Nat} (h : lcode (okAll s n P R m L) m = 0) : uniRes s n P R m L = unionTo L m := if_pos h
theorem uniRes_no {s : Int} {n : Nat} {P R : Nat → Int} {m : Nat} {L : Nat → Nat → Nat} (h : ¬ lcode (okAll s n P R m L) m = 0) : uniRes s n P R m L = fun _ => 0 := if_neg h
attribute [irreducible] uniRes

set_option maxRecDepth 100000 in
theorem union_any (b : Option Addr) (m d : Nat) (L : Nat → Nat → Nat) (w : World) (hm : m ≤ 1048576) (hL : L32 L) (hl : DrumsAt w b m L) :
    Calls Try.prog 36 #[.slice b m d] w fun e w' => e = .returned (.agg (dc (unionTo L m))) ∧ Below w.heap.size w w' := by
  have HL := Lib.hid hL; clear hL
  have KB := Kp.base w
  have KL := kp_drums hl; clear hl
  have KLo := KL
  replace KB := KB.alloc (.cells (dc fun _ => 0) 33)
  replace KL := KL.alloc (.cells (dc fun _ => 0) 33)
  have K0 := kp_newd w (fun _ => 0) 33 (g := w.heap.size) (by simp)
  have HZ := Lib.hid (show (w.alloc (.cells (dc fun _ => 0) 33)).heap.size = w.heap.size + 1 by simp)
  go_enter Try.func36, Try.ntmps36
  go_wp2_with (first | (with_reducible refine new_drum rfl rfl rfl rfl rfl _ _ rfl rfl rfl ?_; intro W hb hz hg; replace KB := KB.on hb; replace K0 := K0.on hb; replace KL := KL.on hb; rw [HZ.out] at hz hg; have HG := Lib.hid hg; have HZ1 := Lib.hid hz; clear hb hz hg) | (with_reducible refine alloc_drum ?_ ?_ ?_; with_reducible rfl; with_reducible rfl))
  have HB1 := Lib.hid (show Below (w.heap.size + 1) W W from Below.refl _ _)
  have HR0 := Lib.hid K0.here
  have HBW := Lib.hid KB.here
  clear HZ K0 KB KL
  go_loopw [11] (fun i w' => Below (w.heap.size + 1) W w' ∧ ∃ k : Nat, k ≤ m ∧ i = .int .i64 k ∧ w.heap.size + 1 < w'.heap.size ∧ DrumAt w' 33 (w.heap.size + 1) (unionTo L k)) (fun i _ => m - (intOf i).toNat)
  case atStart => exact ⟨HB1.out, 0, by omega, rfl, by have := HZ1.out; omega, by rw [unionTo_zero]; exact HG.out⟩
  case round =>
    clear HB1 HG
    obtain ⟨hb, k, hk, rfl, hsz, hg⟩ := hrel
    have HG := Lib.hid hg; clear hg
    have hbw : Below w.heap.size w wr := HBW.out.trans (hb.mono (by omega))
    by_cases hlt : k < m
    · have hx := DrumsAt.get (KLo.at hbw) (show 0 < m by omega)
      obtain ⟨g, off, rfl, hg, hc⟩ := hx
      have HC := Lib.hid (hc k hlt); clear hc
      go_wp2_with (first | (with_reducible refine load_drum_mid rfl _ rfl g (off + k * 96) rfl (L k) HC.out ?_) | (with_reducible refine copy_drum rfl rfl rfl _ _ rfl (L k) rfl rfl ?_; intro V hb2 hz2 hg2; have HG2 := Lib.hid hg2; have HB2 := Lib.hid hb2; have HZ2 := Lib.hid hz2; clear hz2 hg2 hb2) | (with_reducible refine load_drum rfl _ rfl wr.heap.size rfl _ (L k) HG2.out ?_))
      have hz2 := HZ2.out
      have HA := Lib.hid (HG.out.below HB2.out hsz)
      have HBV := Lib.hid (hb.trans (HB2.out.mono (by omega)))
      clear HG HG2 HB2 hz2
      go_loopw [16] (fun i w' => Below (w.heap.size + 1) W w' ∧ ∃ j : Nat, j ≤ 96 ∧ i = .int .i64 j ∧ w.heap.size + 1 < w'.heap.size ∧ DrumAt w' 33 (w.heap.size + 1) (mixD (fun x => unionTo L k x ||| L k x) (unionTo L k) j)) (fun i _ => 96 - (intOf i).toNat)
      case atStart => exact ⟨HBV.out, 0, by omega, rfl, by have := HZ2.out; omega, by rw [mixD_zero]; exact HA.out⟩
      case round =>
        clear HBV HA
        obtain ⟨hb3, j, hj, rfl, hsz3, hg3⟩ := hrel
        have HG3 := Lib.hid hg3; clear hg3
        by_cases hlj : j < 96
        · have hix := index_drum (L k) j hlj
          have c0 := HG3.out.cell j hlj
          rw [mixD_at] at c0
          have hf := HG3.out.frozen j
          have hbit := bits_or_u32 (unionTo_32 HL.out k j) (HL.out k j)
          go_wp2
          go_roundw
          case rel =>
            have h3 := HG3.out.setCell j (unionTo L k j ||| L k j) hlj
            rw [mixD_upd (fun x => unionTo L k x ||| L k x)] at h3
            exact ⟨hb3.setCell (by simp) _, j + 1, by omega, by go_num, by simp; omega, h3⟩
          case measure => simp [intOf]; omega
        · have hj96 : j = 96 := by omega
          subst hj96
          have h3 := HG3.out.congr (mixD_full _ _)
          rw [← unionTo_succ] at h3
          have H3 := Lib.hid h3; clear h3
          go_wp2
          go_roundw
          case rel => exact ⟨hb3, k + 1, by omega, by go_num, hsz3, H3.out⟩
          case measure => simp [intOf]; omega
    · have hkm : k = m := by omega
      subst hkm
      have h0 := HR0.out.below hb (by omega)
      have h0' := DrumAt.setRow h0 (unionTo L k)
      have h1 := HG.out
      go_wp2_with (first | (with_reducible refine load_drum rfl _ rfl (w.heap.size + 1) rfl _ (unionTo L k) h1 ?_) | (with_reducible refine store_drum rfl _ _ rfl w.heap.size (unionTo L k) rfl rfl _ _ h0 ?_))
      refine bodyPost_ret (results_drum rfl _ _ w.heap.size _ (unionTo L k) rfl h0') rfl ⟨rfl, below_setRow hbw (Nat.le_refl _) _⟩
set_option maxRecDepth 100000 in
theorem l05Union_any (b : Option Addr) (m d : Nat) (L : Nat → Nat → Nat) (w : World) (hm : m ≤ 1048576) (hL : L32 L) (hl : DrumsAt w b m L) :
    Calls Try.prog 38 #[.slice b m d] w fun e w' => e = .returned (.agg (dc (unionTo L m))) ∧ Below w.heap.size w w' := by
  have HL := Lib.hid hL; clear hL
  have KB := Kp.base w
  have KL := kp_drums hl; clear hl
  have KLo := KL
  replace KB := KB.alloc (.cells (dc fun _ => 0) 33)
  replace KL := KL.alloc (.cells (dc fun _ => 0) 33)
  have K0 := kp_newd w (fun _ => 0) 33 (g := w.heap.size) (by simp)
  have HZ := Lib.hid (show (w.alloc (.cells (dc fun _ => 0) 33)).heap.size = w.heap.size + 1 by simp)
  go_enter Try.func38, Try.ntmps38
  go_wp2_with (first | (with_reducible refine new_drum rfl rfl rfl rfl rfl _ _ rfl rfl rfl ?_; intro W hb hz hg; replace KB := KB.on hb; replace K0 := K0.on hb; replace KL := KL.on hb; rw [HZ.out] at hz hg; have HG := Lib.hid hg; have HZ1 := Lib.hid hz; clear hb hz hg) | (with_reducible refine alloc_drum ?_ ?_ ?_; with_reducible rfl; with_reducible rfl))
  have HB1 := Lib.hid (show Below (w.heap.size + 1) W W from Below.refl _ _)
  have HR0 := Lib.hid K0.here
  have HBW := Lib.hid KB.here
  clear HZ K0 KB KL
  go_loopw [4] (fun i w' => Below (w.heap.size + 1) W w' ∧ ∃ k : Nat, k ≤ m ∧ i = .int .i64 k ∧ w.heap.size + 1 < w'.heap.size ∧ DrumAt w' 33 (w.heap.size + 1) (unionTo L k)) (fun i _ => m - (intOf i).toNat)
  case atStart => exact ⟨HB1.out, 0, by omega, rfl, by have := HZ1.out; omega, by rw [unionTo_zero]; exact HG.out⟩
  case round =>
    clear HB1 HG
    obtain ⟨hb, k, hk, rfl, hsz, hg⟩ := hrel
    have HA := Lib.hid hg; clear hg
    have hbw : Below w.heap.size w wr := HBW.out.trans (hb.mono (by omega))
    by_cases hlt : k < m
    · have hx := DrumsAt.get KLo.here (show 0 < m by omega)
      obtain ⟨g, off, rfl, hg, hc⟩ := hx
      have HC := Lib.hid (hc k hlt); clear hc
      have HBV := Lib.hid hb; clear hb
      go_wp2
      go_loopw [5] (fun i w' => Below (w.heap.size + 1) W w' ∧ ∃ j : Nat, j ≤ 96 ∧ i = .int .i64 j ∧ w.heap.size + 1 < w'.heap.size ∧ DrumAt w' 33 (w.heap.size + 1) (mixD (fun x => unionTo L k x ||| L k x) (unionTo L k) j)) (fun i _ => 96 - (intOf i).toNat)
      case atStart => exact ⟨HBV.out, 0, by omega, rfl, hsz, by rw [mixD_zero]; exact HA.out⟩
      case round =>
        clear HBV HA hbw
        obtain ⟨hb3, j, hj, rfl, hsz3, hg3⟩ := hrel
        have hbw : Below w.heap.size w wr := HBW.out.trans (hb3.mono (by omega))
        have HG3 := Lib.hid hg3; clear hg3
        by_cases hlj : j < 96
        · have c0 := HG3.out.cell j hlj
          rw [mixD_at] at c0
          have hf := HG3.out.frozen j
          have c1 := (HC.out.below hbw hg) j hlj
          have hbit := bits_or_u32 (unionTo_32 HL.out k j) (HL.out k j)
          have hk' : (k : Int) < m := by omega
          have hj' : (j : Int) < 96 := by omega
          go_wp2
          go_still_tail 12, (by kernel_rfl)
          go_wp2
          go_roundw
          case rel =>
            have h3 := HG3.out.setCell j (unionTo L k j ||| L k j) hlj
            rw [mixD_upd (fun x => unionTo L k x ||| L k x)] at h3
            exact ⟨(hb3.setCell (by simp) _).drew, j + 1, by omega, by go_num, by simp; omega, h3⟩
          case measure => simp [intOf]; omega
        · have hj96 : j = 96 := by omega
          subst hj96
          have h3 := HG3.out.congr (mixD_full _ _)
          rw [← unionTo_succ] at h3
          have H3 := Lib.hid h3; clear h3
          go_wp2
          go_roundw
          case rel => exact ⟨hb3, k + 1, by omega, by go_num, hsz3, H3.out⟩
          case measure => simp [intOf]; omega
    · have hkm : k = m := by omega
      subst hkm
      have h0 := HR0.out.below hb (by omega)
      have h0' := DrumAt.setRow h0 (unionTo L k)
      have h1 := HA.out
      go_wp2_with (first | (with_reducible refine load_drum rfl _ rfl (w.heap.size + 1) rfl _ (unionTo L k) h1 ?_) | (with_reducible refine store_drum rfl _ _ rfl w.heap.size (unionTo L k) rfl rfl _ _ h0 ?_))
      refine bodyPost_ret (results_drum rfl _ _ w.heap.size _ (unionTo L k) rfl h0') rfl ⟨rfl, below_setRow hbw (Nat.le_refl _) _⟩
set_option maxRecDepth 100000 in
theorem specUnionOf_any (s : Int) (a : Option Addr) (n c : Nat) (P R : Nat → Int) (b : Option Addr) (m d : Nat) (L : Nat → Nat → Nat) (w : World) (hs : -32768 ≤ s ∧ s ≤ 32767) (hn : n ≤ 1048576) (hP : I8 P) (hR : I8 R) (hh : HamAt w a n P R) (hm : m ≤ 1048576) (hL : L32 L) (hl : DrumsAt w b m L) :
    Calls Try.prog 11 #[.agg #[.int .i16 s, .slice a n c], .slice b m d] w fun e w' => e = .returned (.tuple #[.agg (dc (uniRes s n P R m L)), .int .i64 (lcode (okAll s n P R m L) m)]) ∧ Below w.heap.size w w' := by
  have HP := Lib.hid hP; have HR := Lib.hid hR; have HL := Lib.hid hL
  clear hP hR hL
  have KB := Kp.base w
  have KH := kp_ham hh; have KL := kp_drums hl; clear hh hl
  replace KB := KB.alloc (.cells #[.int .i16 s, .slice a n c] 27)
  replace KH := KH.alloc (.cells #[.int .i16 s, .slice a n c] 27)
  replace KL := KL.alloc (.cells #[.int .i16 s, .slice a n c] 27)
  have KF := kp_new1 w #[.int .i16 s, .slice a n c] 27 (g := w.heap.size) (by simp)
  replace KB := KB.alloc (.cells (dc fun _ => 0) 33)
  replace KH := KH.alloc (.cells (dc fun _ => 0) 33)
  replace KL := KL.alloc (.cells (dc fun _ => 0) 33)
  replace KF := KF.alloc (.cells (dc fun _ => 0) 33)
  have K0 := kp_newd (w.alloc (.cells #[.int .i16 s, .slice a n c] 27)) (fun _ => 0) 33 (g := w.heap.size + 1) (by simp)
  have HZ := Lib.hid (show ((w.alloc (.cells #[.int .i16 s, .slice a n c] 27)).alloc (.cells (dc fun _ => 0) 33)).heap.size = w.heap.size + 1 + 1 by simp)
  go_enter Try.func11, Try.ntmps11
  go_wp2_with (first | (with_reducible refine load_iframe rfl _ rfl w.heap.size rfl _ s a n c KF.here ?_) | (with_reducible refine alloc_drum ?_ ?_ ?_; with_reducible rfl; with_reducible rfl))
  generalize ((w.alloc (.cells #[.int .i16 s, .slice a n c] 27)).alloc (.cells (dc fun _ => 0) 33)) = W at KB KH KL KF K0 HZ ⊢
  refine (l05Asked_any w.heap.size s a n c P R b m d L W hs hn HP.out HR.out KF.here KH.here hm KL.here).mono ?_
  rintro e w1 ⟨rfl, hb1⟩
  replace KB := KB.on hb1
  replace KH := KH.on hb1
  replace KL := KL.on hb1
  replace KF := KF.on hb1
  replace K0 := K0.on hb1
  obtain ⟨x, hx⟩ : ∃ x, lcode (okAll s n P R m L) m = x := ⟨_, rfl⟩
  rw [hx]
  have HX := Lib.hid hx
  by_cases h0 : x = 0
  · have hr := Lib.hid (uniRes_yes (hx.trans h0))
    clear hx hb1
    subst h0
    have h0 := K0.here
    go_wp2_with fail
    refine (l05Union_any b m d L w1 (by omega) HL.out KL.here).mono ?_
    rintro e w2 ⟨rfl, hb2⟩
    clear h0
    replace KB := KB.on hb2
    replace K0 := K0.on hb2
    have h0 := K0.here
    have h0' := DrumAt.setRow h0 (unionTo L m)
    go_wp2_with (with_reducible refine store_drum rfl _ _ rfl (w.heap.size + 1) (unionTo L m) rfl rfl _ _ h0 ?_)
    refine bodyPost_ret (results_drum2 rfl _ _ (w.heap.size + 1) _ (unionTo L m) (.int .i64 0) rfl h0' rfl) rfl ⟨by rw [hr.out, HX.out], below_setRow KB.here (by omega) _⟩
  · have hr := Lib.hid (uniRes_no (s := s) (n := n) (P := P) (R := R) (m := m) (L := L) (by rw [hx]; exact h0))
    clear hx hb1
    have h1 := K0.here
    have h1' := DrumAt.setRow h1 (fun _ => 0)
    go_wp2_with (first | (with_reducible refine build_drum rfl rfl ?_) | (with_reducible refine store_drum rfl _ _ rfl (w.heap.size + 1) (fun _ => 0) rfl rfl _ _ h1 ?_))
    refine bodyPost_ret (results_drum2 rfl _ _ (w.heap.size + 1) _ (fun _ => 0) (.int .i64 x) rfl h1' rfl) rfl ⟨by rw [hr.out, HX.out], below_setRow KB.here (by omega) _⟩
set_option maxRecDepth 100000 in
theorem implUnionOf_any (s : Int) (a : Option Addr) (n c : Nat) (P R : Nat → Int) (b : Option Addr) (m d : Nat) (L : Nat → Nat → Nat) (w : World) (hs : -32768 ≤ s ∧ s ≤ 32767) (hn : n ≤ 1048576) (hP : I8 P) (hR : I8 R) (hh : HamAt w a n P R) (hm : m ≤ 1048576) (hL : L32 L) (hl : DrumsAt w b m L) :
    Calls Try.prog 10 #[.agg #[.int .i16 s, .slice a n c], .slice b m d] w fun e w' => e = .returned (.tuple #[.agg (dc (uniRes s n P R m L)), .int .i64 (lcode (okAll s n P R m L) m)]) ∧ Below w.heap.size w w' := by
  have HP := Lib.hid hP; have HR := Lib.hid hR; have HL := Lib.hid hL
  clear hP hR hL
  have KB := Kp.base w
  have KH := kp_ham hh; have KL := kp_drums hl; clear hh hl
  replace KB := KB.alloc (.cells #[.int .i16 s, .slice a n c] 27)
  replace KH := KH.alloc (.cells #[.int .i16 s, .slice a n c] 27)
  replace KL := KL.alloc (.cells #[.int .i16 s, .slice a n c] 27)
  have KF := kp_new1 w #[.int .i16 s, .slice a n c] 27 (g := w.heap.size) (by simp)
  replace KB := KB.alloc (.cells (dc fun _ => 0) 33)
  replace KH := KH.alloc (.cells (dc fun _ => 0) 33)
  replace KL := KL.alloc (.cells (dc fun _ => 0) 33)
  replace KF := KF.alloc (.cells (dc fun _ => 0) 33)
  have K0 := kp_newd (w.alloc (.cells #[.int .i16 s, .slice a n c] 27)) (fun _ => 0) 33 (g := w.heap.size + 1) (by simp)
  have HZ := Lib.hid (show ((w.alloc (.cells #[.int .i16 s, .slice a n c] 27)).alloc (.cells (dc fun _ => 0) 33)).heap.size = w.heap.size + 1 + 1 by simp)
  go_enter Try.func10, Try.ntmps10
  go_wp2_with (first | (with_reducible refine load_iframe rfl _ rfl w.heap.size rfl _ s a n c KF.here ?_) | (with_reducible refine alloc_drum ?_ ?_ ?_; with_reducible rfl; with_reducible rfl))
  generalize ((w.alloc (.cells #[.int .i16 s, .slice a n c] 27)).alloc (.cells (dc fun _ => 0) 33)) = W at KB KH KL KF K0 HZ ⊢
  refine (listCode_any s a n c P R b m d L W hs hn HP.out HR.out KH.here hm KL.here).mono ?_
  rintro e w1 ⟨rfl, hb1⟩
  replace KB := KB.on hb1
  replace KH := KH.on hb1
  replace KL := KL.on hb1
  replace KF := KF.on hb1
  replace K0 := K0.on hb1
  obtain ⟨x, hx⟩ : ∃ x, lcode (okAll s n P R m L) m = x := ⟨_, rfl⟩
  rw [hx]
  have HX := Lib.hid hx
  by_cases h0 : x = 0
  · have hr := Lib.hid (uniRes_yes (hx.trans h0))
    clear hx hb1
    subst h0
    have h0 := K0.here
    go_wp2_with fail
    refine (union_any b m d L w1 (by omega) HL.out KL.here).mono ?_
    rintro e w2 ⟨rfl, hb2⟩
    clear h0
    replace KB := KB.on hb2
    replace K0 := K0.on hb2
    have h0 := K0.here
    have h0' := DrumAt.setRow h0 (unionTo L m)
    go_wp2_with (with_reducible refine store_drum rfl _ _ rfl (w.heap.size + 1) (unionTo L m) rfl rfl _ _ h0 ?_)
    refine bodyPost_ret (results_drum2 rfl _ _ (w.heap.size + 1) _ (unionTo L m) (.int .i64 0) rfl h0' rfl) rfl ⟨by rw [hr.out, HX.out], below_setRow KB.here (by omega) _⟩
  · have hr := Lib.hid (uniRes_no (s := s) (n := n) (P := P) (R := R) (m := m) (L := L) (by rw [hx]; exact h0))
    clear hx hb1
    have h1 := K0.here
    have h1' := DrumAt.setRow h1 (fun _ => 0)
    go_wp2_with (first | (with_reducible refine build_drum rfl rfl ?_) | (with_reducible refine store_drum rfl _ _ rfl (w.heap.size + 1) (fun _ => 0) rfl rfl _ _ h1 ?_))
    refine bodyPost_ret (results_drum2 rfl _ _ (w.heap.size + 1) _ (fun _ => 0) (.int .i64 x) rfl h1' rfl) rfl ⟨by rw [hr.out, HX.out], below_setRow KB.here (by omega) _⟩
end Go.Proofs.Ytlcfjeofphncgaa
namespace Go.Proofs.Ytlcfjeofphncgaa
open Go.RowKit
set_option linter.unusedVariables false
set_option linter.unusedSimpArgs false

/-- no clash in a drum -/
def freeB (m : Nat) (R : Nat → Int) (n : Nat) (D : Nat → Nat) : Bool := decide ((plL (clB m R D) n (m * n)).length = 0)
theorem freeB_def (m : Nat) (R : Nat → Int) (n : Nat) (D : Nat → Nat) : freeB m R n D = decide ((plL (clB m R D) n (m * n)).length = 0) := rfl
attribute [irreducible] freeB
def csV (s : Int) (n : Nat) (P R : Nat → Int) (D E : Nat → Nat) : Bool := ok2 s n P R D E && freeB s.toNat R n (unionTo (twoL D E) 2)
theorem csV_no {s : Int} {n : Nat} {P R : Nat → Int} {D E : Nat → Nat} (h : ok2 s n P R D E = false) : csV s n P R D E = false := by unfold csV; rw [h]; rfl
theorem csV_yes {s : Int} {n : Nat} {P R : Nat → Int} {D E : Nat → Nat} (h : ok2 s n P R D E = true) : csV s n P R D E = freeB s.toNat R n (unionTo (twoL D E) 2) := by unfold csV; rw [h]; rfl
attribute [irreducible] csV
theorem twoL_32 {D E : Nat → Nat} (hD : D32 D) (hE : D32 E) : L32 (twoL D E) := by
  intro i
  unfold twoL
  split
  · exact hD
  · exact hE
theorem ex_build2 {o : Oper} {a : Act} {w : World} (x y : Operand) (ho : o.op = .buildSlice 29 2 #[(0, x), (1, y)]) (D E : Nat → Nat) (hx : a.eval x = .agg (dc D)) (hy : a.eval y = .agg (dc E)) :
    (execOp a.eval o).run Try.prog w = .ok (.value (.slice (some ⟨w.heap.size, 0, none⟩) 2 2)) (w.alloc (.cells (dc D ++ dc E) 33)) := by
  have hm : (#[(0, x), (1, y)] : Array (Nat × Operand)).map (fun (i, y) => (i, a.eval y)) = #[(0, .agg (dc D)), (1, .agg (dc E))] := by simp [hx, hy]
  simp only [execOp, ho, hm, Sem.run_bind, run_build2, Result.andThen_ok]
  rfl
theorem eq0_dec (x : Nat) : ((x : Int) == 0) = decide (x = 0) := by rw [Bool.eq_iff_iff]; simp
theorem freeB_len {m : Nat} {R : Nat → Int} {n : Nat} {D : Nat → Nat} {x : Nat} (h : (plL (clB m R D) n (m * n)).length = x) : freeB m R n D = decide (x = 0) := by rw [freeB_def, h]
set_option maxRecDepth 100000 in
theorem l05Share_any (gf Tf : Nat) (k : Nat) (a : Option Addr) (n c : Nat) (P R : Nat → Int) (b : Option Addr) (m d : Nat) (L : Nat → Nat → Nat) (w : World) (hk : 2 ≤ k ∧ k ≤ 96) (hn : 1 ≤ n ∧ n ≤ 24) (hm : m ≤ 1048576) (hL : L32 L) (hR : I8 R)
    (hf : w.heap[gf]? = some (.cells #[.int .i16 (k : Int), .slice a n c] Tf (0, 0))) (hl : DrumsAt w b m L) (hh : HamAt w a n P R) :
    Calls Try.prog 44 #[.pointer (some ⟨gf, 0, none⟩), .slice b m d] w fun e w' => e = .returned (.bool (freeB k R n (unionTo L m))) ∧ Below w.heap.size w w' := by
  have HL := Lib.hid hL; have HR := Lib.hid hR; clear hL hR
  have KB := Kp.base w
  have KF := kp_row hf; have KL := kp_drums hl; have KH := kp_ham hh; clear hf hl hh
  go_enter Try.func44, Try.ntmps44
  go_wp2_with fail
  refine (l05Union_any b m d L w hm HL.out KL.here).mono ?_
  rintro e w1 ⟨rfl, hb1⟩
  replace KB := KB.on hb1
  replace KF := KF.on hb1
  replace KH := KH.on hb1
  clear KL hb1
  have hu := unionTo_32 HL.out m
  obtain ⟨U, hU⟩ : ∃ U, unionTo L m = U := ⟨_, rfl⟩
  rw [hU] at hu ⊢
  have HU := Lib.hid hu; have HE := Lib.hid hU; clear hu hU
  go_wp2_with (with_reducible refine copy_drum rfl rfl rfl _ _ rfl U rfl rfl ?_; intro W2 hb2 hz2 hg2; have HB2 := Lib.hid hb2; have HZ2 := Lib.hid hz2; have HG2 := Lib.hid hg2; clear hb2 hz2 hg2)
  have hb2 := HB2.out
  replace KB := KB.on hb2
  replace KF := KF.on hb2
  replace KH := KH.on hb2
  clear hb2
  refine (l02Clashes_any gf w1.heap.size Tf 33 k a n c P R U W2 hk hn HU.out HR.out KF.here HG2.out KH.here).mono ?_
  rintro e w3 ⟨v, rfl, hb3, hown⟩
  replace KB := KB.on hb3
  obtain ⟨b1, c1, rfl⟩ := OwnL.form hown
  obtain ⟨x, hx⟩ : ∃ x, (plL (clB k R U) n (k * n)).length = x := ⟨_, rfl⟩
  have HX := Lib.hid (freeB_len hx)
  rw [hx]
  clear hown hx
  have heq := eq0_dec x
  have hb4 := KB.here
  go_wp2
  go_ret
  exact ⟨ret_bool (by rw [HE.out, HX.out]), hb4⟩
set_option maxRecDepth 100000 in
theorem implCanShare_any (s : Int) (a : Option Addr) (n c : Nat) (P R : Nat → Int) (D E : Nat → Nat) (w : World) (hs : -32768 ≤ s ∧ s ≤ 32767) (hn : n ≤ 1048576) (hP : I8 P) (hR : I8 R) (hh : HamAt w a n P R) (hD : D32 D) (hE : D32 E) :
    Calls Try.prog 18 #[.agg #[.int .i16 s, .slice a n c], .agg (dc D), .agg (dc E)] w fun e w' => e = .returned (.tuple #[.bool (csV s n P R D E), .int .i64 (unl (ok2 s n P R D E) 1)]) ∧ Below w.heap.size w w' := by
  have HP := Lib.hid hP; have HR := Lib.hid hR; have HD := Lib.hid hD; have HE := Lib.hid hE; clear hP hR hD hE
  have KB := Kp.base w; have KH := kp_ham hh; clear hh
  replace KB := KB.alloc (.cells #[.int .i16 s, .slice a n c] 27)
  replace KH := KH.alloc (.cells #[.int .i16 s, .slice a n c] 27)
  have KF := kp_new1 w #[.int .i16 s, .slice a n c] 27 (g := w.heap.size) (by simp)
  replace KB := KB.alloc (.cells (dc D) 33)
  replace KH := KH.alloc (.cells (dc D) 33)
  replace KF := KF.alloc (.cells (dc D) 33)
  have KD := kp_newd (w.alloc (.cells #[.int .i16 s, .slice a n c] 27)) (D) 33 (g := w.heap.size + 1) (by simp)
  replace KB := KB.alloc (.cells (dc E) 33)
  replace KH := KH.alloc (.cells (dc E) 33)
  replace KF := KF.alloc (.cells (dc E) 33)
  replace KD := KD.alloc (.cells (dc E) 33)
  have KE := kp_newd ((w.alloc (.cells #[.int .i16 s, .slice a n c] 27)).alloc (.cells (dc D) 33)) (E) 33 (g := w.heap.size + 1 + 1) (by simp)
  have HZ := Lib.hid (show (((w.alloc (.cells #[.int .i16 s, .slice a n c] 27)).alloc (.cells (dc D) 33)).alloc (.cells (dc E) 33)).heap.size = w.heap.size + 1 + 1 + 1 by simp)
  go_enter Try.func18, Try.ntmps18
  go_wp2_with (first | (with_reducible refine load_iframe rfl _ rfl w.heap.size rfl _ s a n c KF.here ?_) | (with_reducible refine load_drum rfl _ rfl (w.heap.size + 1) rfl _ D KD.here ?_) | (with_reducible refine load_drum rfl _ rfl (w.heap.size + 1 + 1) rfl _ E KE.here ?_) | (with_reducible refine build2 rfl _ _ rfl D E rfl rfl ?_))
  generalize (((w.alloc (.cells #[.int .i16 s, .slice a n c] 27)).alloc (.cells (dc D) 33)).alloc (.cells (dc E) 33)) = W at KB KH KF KD KE HZ ⊢
  have hz := HZ.out
  have hl := DrumsAt.two W D E (twoL D E) rfl rfl
  rw [hz] at hl
  refine (drumCode_any s a n c P R _ 2 2 (twoL D E) _ (by omega) (by omega) hs HP.out HR.out (KH.alloc _).here hl).mono ?_
  rw [← ok2_def]
  rintro e w1 ⟨rfl, hb1⟩
  replace KB := (KB.alloc (.cells (dc D ++ dc E) 33)).on hb1
  replace KH := (KH.alloc (.cells (dc D ++ dc E) 33)).on hb1
  replace KF := (KF.alloc (.cells (dc D ++ dc E) 33)).on hb1
  replace KD := (KD.alloc (.cells (dc D ++ dc E) 33)).on hb1
  replace KE := (KE.alloc (.cells (dc D ++ dc E) 33)).on hb1
  clear hb1 hz hl
  cases hv : ok2 s n P R D E
  · have HC := Lib.hid (csV_no hv); have HV := Lib.hid hv; clear hv
    rw [unl_false]
    go_wp2
    go_ret2
    exact ⟨by rw [HV.out, HC.out, unl_false]; rfl, KB.here⟩
  · have HC := Lib.hid (csV_yes hv); 
    obtain ⟨hS, hN, _⟩ := vFrame_iff.1 (ok2_iff.1 hv).1
    have HV := Lib.hid hv; clear hv
    rw [unl_true]
    obtain ⟨k, rfl⟩ : ∃ k : Nat, s = k := ⟨s.toNat, by omega⟩
    rw [Int.toNat_natCast] at HC
    go_wp2
    have hS0 := below_drew w1
    refine wp_region_S (fun V => Below w1.heap.size w1 V) (by kernel_rfl) hS0 ?_
    refine take_val 0 (.agg #[.int .i16 (k : Int), .slice a n c]) rfl (by kernel_rfl) (by kernel_rfl) (by kernel_rfl) (fun _ _ _ h => h) rfl (fun V hV => ex_load_iframe _ rfl w.heap.size rfl _ (k : Int) a n c (KF.at hV)) hS0 ?_
    simp only [List.getElem_toArray, List.getElem_cons_zero, List.getElem_cons_succ, Act.put, List.setIfInBounds_toArray, List.set_cons_zero, List.set_cons_succ]
    refine take_val 1 (.agg (dc D)) rfl (by kernel_rfl) (by kernel_rfl) (by kernel_rfl) (fun _ _ _ h => h) rfl (fun V hV => ex_load_drum _ rfl (w.heap.size + 1) rfl _ D (KD.at hV)) hS0 ?_
    simp only [List.getElem_toArray, List.getElem_cons_zero, List.getElem_cons_succ, Act.put, List.setIfInBounds_toArray, List.set_cons_zero, List.set_cons_succ]
    refine take_val 2 (.agg (dc E)) rfl (by kernel_rfl) (by kernel_rfl) (by kernel_rfl) (fun _ _ _ h => h) rfl (fun V hV => ex_load_drum _ rfl (w.heap.size + 1 + 1) rfl _ E (KE.at hV)) hS0 ?_
    simp only [List.getElem_toArray, List.getElem_cons_zero, List.getElem_cons_succ, Act.put, List.setIfInBounds_toArray, List.set_cons_zero, List.set_cons_succ]
    have hl := DrumsAt.two w1.drew D E (twoL D E) rfl rfl
    have hS1 := hS0.alloc (o := .cells (dc D ++ dc E) 33) hS0.size
    refine step_val 3 _ _ (by kernel_rfl) rfl rfl (ex_build2 _ _ rfl D E rfl rfl) hS1 ?_
    simp only [List.getElem_toArray, List.getElem_cons_zero, List.getElem_cons_succ, Act.put, List.setIfInBounds_toArray, List.set_cons_zero, List.set_cons_succ]
    refine step_call 4 36 #[.slice (some ⟨w1.drew.heap.size, 0, none⟩) 2 2] (by kernel_rfl) rfl rfl (by simp [go_sem]) ?_
    refine (union_any _ 2 2 (twoL D E) _ (by omega) (twoL_32 HD.out HE.out) hl).mono ?_
    have hu := unionTo_32 (twoL_32 HD.out HE.out) 2
    obtain ⟨U, hU⟩ : ∃ U, unionTo (twoL D E) 2 = U := ⟨_, rfl⟩
    rw [hU] at hu HC ⊢
    rintro e w2 ⟨rfl, hb2⟩
    have hS2 := hS1.trans (hb2.mono hS1.size)
    refine ⟨_, rfl, hS2, ?_⟩
    simp only [List.getElem_toArray, List.getElem_cons_zero, List.getElem_cons_succ, Act.put, List.setIfInBounds_toArray, List.set_cons_zero, List.set_cons_succ]
    refine step_call 5 42 #[.agg #[.int .i16 (k : Int), .slice a n c], .agg (dc U)] (by kernel_rfl) rfl rfl (by simp [go_sem]) ?_
    refine (allClashes_any k a n c P R U w2 (by omega) hN hu HR.out (KH.at hS2)).mono ?_
    rintro e w3 ⟨v, rfl, hb3, hown⟩
    have hS3 := hS2.trans (hb3.mono hS2.size)
    obtain ⟨b1, c1, rfl⟩ := OwnL.form hown
    obtain ⟨x, hx⟩ : ∃ x, (plL (clB k R U) n (k * n)).length = x := ⟨_, rfl⟩
    have HX := Lib.hid (freeB_len hx)
    rw [hx]
    clear hown
    refine ⟨_, rfl, hS3, ?_⟩
    simp only [List.getElem_toArray, List.getElem_cons_zero, List.getElem_cons_succ, Act.put, List.setIfInBounds_toArray, List.set_cons_zero, List.set_cons_succ]
    refine take_val 6 (.int .i64 (x : Int)) rfl (by kernel_rfl) (by kernel_rfl) (by kernel_rfl) (fun _ _ _ h => h) rfl (fun V hV => by simp [go_sem]) hS3 ?_
    simp only [List.getElem_toArray, List.getElem_cons_zero, List.getElem_cons_succ, Act.put, List.setIfInBounds_toArray, List.set_cons_zero, List.set_cons_succ]
    refine take_val 7 (.bool (decide (x = 0))) rfl (by kernel_rfl) (by kernel_rfl) (by kernel_rfl) (fun _ _ _ h => h) rfl (fun V hV => by simp [go_sem, eq0_dec]) hS3 ?_
    simp only [List.getElem_toArray, List.getElem_cons_zero, List.getElem_cons_succ, Act.put, List.setIfInBounds_toArray, List.set_cons_zero, List.set_cons_succ]
    refine take_val 8 (.bool (decide (x = 0))) rfl (by kernel_rfl) (by kernel_rfl) (by kernel_rfl) (fun _ _ _ h => h) rfl (fun V hV => by simp [go_sem]) hS3 ?_
    simp only [List.getElem_toArray, List.getElem_cons_zero, List.getElem_cons_succ, Act.put, List.setIfInBounds_toArray, List.set_cons_zero, List.set_cons_succ]
    refine take_val 9 (.int .i64 0) rfl (by kernel_rfl) (by kernel_rfl) (by kernel_rfl) (fun _ _ _ h => h) rfl (fun V hV => by simp [go_sem]) hS3 ?_
    simp only [List.getElem_toArray, List.getElem_cons_zero, List.getElem_cons_succ, Act.put, List.setIfInBounds_toArray, List.set_cons_zero, List.set_cons_succ]
    refine wpAnyH_done (by kernel_rfl) ?_ _
    have hb3 := KB.at hS3
    go_wp2
    go_ret2
    exact ⟨by rw [HV.out, HC.out, HX.out, unl_true]; rfl, hb3⟩
set_option maxRecDepth 100000 in
theorem specCanShare_any (s : Int) (a : Option Addr) (n c : Nat) (P R : Nat → Int) (D E : Nat → Nat) (w : World) (hs : -32768 ≤ s ∧ s ≤ 32767) (hn : n ≤ 1048576) (hP : I8 P) (hR : I8 R) (hh : HamAt w a n P R) (hD : D32 D) (hE : D32 E) :
    Calls Try.prog 19 #[.agg #[.int .i16 s, .slice a n c], .agg (dc D), .agg (dc E)] w fun e w' => e = .returned (.tuple #[.bool (csV s n P R D E), .int .i64 (unl (ok2 s n P R D E) 1)]) ∧ Below w.heap.size w w' := by
  have HP := Lib.hid hP; have HR := Lib.hid hR; have HD := Lib.hid hD; have HE := Lib.hid hE; clear hP hR hD hE
  have KB := Kp.base w; have KH := kp_ham hh; clear hh
  replace KB := KB.alloc (.cells #[.int .i16 s, .slice a n c] 27)
  replace KH := KH.alloc (.cells #[.int .i16 s, .slice a n c] 27)
  have KF := kp_new1 w #[.int .i16 s, .slice a n c] 27 (g := w.heap.size) (by simp)
  replace KB := KB.alloc (.cells (dc D) 33)
  replace KH := KH.alloc (.cells (dc D) 33)
  replace KF := KF.alloc (.cells (dc D) 33)
  have KD := kp_newd (w.alloc (.cells #[.int .i16 s, .slice a n c] 27)) (D) 33 (g := w.heap.size + 1) (by simp)
  replace KB := KB.alloc (.cells (dc E) 33)
  replace KH := KH.alloc (.cells (dc E) 33)
  replace KF := KF.alloc (.cells (dc E) 33)
  replace KD := KD.alloc (.cells (dc E) 33)
  have KE := kp_newd ((w.alloc (.cells #[.int .i16 s, .slice a n c] 27)).alloc (.cells (dc D) 33)) (E) 33 (g := w.heap.size + 1 + 1) (by simp)
  have HZ := Lib.hid (show (((w.alloc (.cells #[.int .i16 s, .slice a n c] 27)).alloc (.cells (dc D) 33)).alloc (.cells (dc E) 33)).heap.size = w.heap.size + 1 + 1 + 1 by simp)
  go_enter Try.func19, Try.ntmps19
  go_wp2_with fail
  generalize (((w.alloc (.cells #[.int .i16 s, .slice a n c] 27)).alloc (.cells (dc D) 33)).alloc (.cells (dc E) 33)) = W at KB KH KF KD KE HZ ⊢
  refine (l05Both_any w.heap.size (w.heap.size + 1) (w.heap.size + 1 + 1) s a n c P R (twoL D E) W (by omega) hs HP.out HR.out (row_lt KF.here) (row_cell 0 KF.here) (row_cell 1 KF.here) KH.here (row_lt KD.here) (row_lt KE.here) (DrumAt.cells KD.here) (DrumAt.cells KE.here)).mono ?_
  rw [← ok2_def]
  rintro e w1 ⟨rfl, hb1⟩
  replace KB := KB.on hb1
  replace KH := KH.on hb1
  replace KF := KF.on hb1
  replace KD := KD.on hb1
  replace KE := KE.on hb1
  clear hb1
  cases hv : ok2 s n P R D E
  · have HC := Lib.hid (csV_no hv); have HV := Lib.hid hv; clear hv
    rw [unl_false]
    go_wp2
    go_ret2
    exact ⟨by rw [HV.out, HC.out, unl_false]; rfl, KB.here⟩
  · have HC := Lib.hid (csV_yes hv)
    obtain ⟨hS, hN, _⟩ := vFrame_iff.1 (ok2_iff.1 hv).1
    have HV := Lib.hid hv; clear hv
    rw [unl_true]
    go_wp2_with (first | (with_reducible refine load_drum rfl _ rfl (w.heap.size + 1) rfl _ D KD.here ?_) | (with_reducible refine load_drum rfl _ rfl (w.heap.size + 1 + 1) rfl _ E KE.here ?_) | (with_reducible refine build2 rfl _ _ rfl D E rfl rfl ?_))
    obtain ⟨k, rfl⟩ : ∃ k : Nat, s = k := ⟨s.toNat, by omega⟩
    rw [Int.toNat_natCast] at HC
    have hl := DrumsAt.two w1 D E (twoL D E) rfl rfl
    refine (l05Share_any w.heap.size _ k a n c P R _ 2 2 (twoL D E) _ (by omega) hN (by omega) (twoL_32 HD.out HE.out) HR.out (KF.alloc _).here hl (KH.alloc _).here).mono ?_
    rw [← HC.out]
    rintro e w2 ⟨rfl, hb2⟩
    have hb3 := (KB.alloc (.cells (dc D ++ dc E) 33)).at hb2
    clear hl
    go_wp2
    go_ret2
    exact ⟨by rw [HV.out, unl_true]; rfl, hb3⟩
end Go.Proofs.Ytlcfjeofphncgaa
