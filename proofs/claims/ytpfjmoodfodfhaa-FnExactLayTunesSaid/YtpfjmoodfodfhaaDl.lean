/- Lists of drums that come in: sizes, copies, equality; the codes of a frame and a list. No conditions. -/
import Derived.Test.YtpfjmoodfodfhaaKp
import Derived.Test.YtpfjmoodfodfhaaOwn
import Derived.Test.YtpfjmoodfodfhaaDrum
import Derived.Outline
namespace Go.Proofs.Ytpfjmoodfodfhaa
open Go.RowKit
set_option linter.unusedVariables false
set_option linter.unusedSimpArgs false

theorem l02DrumO_any (gf gd o : Nat) (s : Int) (a : Option Addr) (n c : Nat) (D : Nat → Nat) (w : World) (hn : n ≤ 24) (hs0 : 2 ≤ s) (hs1 : s ≤ 96)
    (h0 : w.cell? ⟨gf, 0, none⟩ = some (.int .i16 s)) (h1 : w.cell? ⟨gf, 1, none⟩ = some (.slice a n c)) (hd : DrumCells w gd o D) :
    Calls Try.prog 112 #[.pointer (some ⟨gf, 0, none⟩), .pointer (some ⟨gd, o, none⟩)] w fun e w' => e = .returned (.bool (vDrum s n D)) ∧ ∃ q, w' = w.drewN q := by
  have Hd := Lib.hid hd; clear hd
  go_enter Try.func112, Try.ntmps112
  go_wp2
  go_loopw [5] (fun i w' => (∃ q, w' = w.drewN q) ∧ ∃ k : Nat, k ≤ 96 ∧ i = .int .i64 k ∧ ∀ j, j < k → D j / 2 ^ n = 0 ∧ (s ≤ (j : Int) → D j = 0)) (fun i _ => 96 - (intOf i).toNat)
  case atStart => exact ⟨⟨0, rfl⟩, 0, by omega, rfl, fun j hj => by omega⟩
  case round =>
    obtain ⟨⟨q, rfl⟩, k, hk, rfl, hP⟩ := hrel
    have HP := Lib.hid hP; clear hP
    by_cases hlt : k < 96
    · have hdk := Hd.out k hlt
      have hw1 := u64_nat n (by omega)
      have hw2 : min n 32 = n := by omega
      by_cases h1 : D k / 2 ^ n = 0
      · have hb1 := ne0_false h1
        have H1 := Lib.hid h1; clear h1
        by_cases h2 : s ≤ k
        · have h2' : decide (s ≤ (k : Int)) = true := by simpa using h2
          by_cases h3 : D k = 0
          · have hb3 := z0_false h3
            have H3 := Lib.hid h3; clear h3
            go_wp2
            go_quiet (fail)
            go_wp2
            go_roundw
            case rel => exact ⟨⟨q + nq, by first | rfl | rw [World.drewN_drewN]⟩, k + 1, by omega, by go_num, fun j hj => if e : j = k then e ▸ ⟨H1.out, fun _ => H3.out⟩ else HP.out j (by omega)⟩
            case measure => simp [intOf]; omega
          · have hb3 := z0_true h3
            have H3 := Lib.hid h3; clear h3
            go_wp2
            go_quiet (fail)
            go_wp2
            go_ret
            exact ⟨ret_bool (vDrum_false k hlt fun H => H3.out (H.2 h2)).symm, q + nq, by first | rfl | rw [World.drewN_drewN]⟩
        · have h2' : decide (s ≤ (k : Int)) = false := by simpa using h2
          have H2 := Lib.hid h2; clear h2
          go_wp2
          go_quiet (fail)
          go_wp2
          go_roundw
          case rel => exact ⟨⟨q + nq, by first | rfl | rw [World.drewN_drewN]⟩, k + 1, by omega, by go_num, fun j hj => if e : j = k then e ▸ ⟨H1.out, fun h => absurd h (by have := H2.out; omega)⟩ else HP.out j (by omega)⟩
          case measure => simp [intOf]; omega
      · have hb1 := ne0_true h1
        have H1 := Lib.hid h1; clear h1
        go_wp2
        go_quiet (fail)
        go_wp2
        go_ret
        exact ⟨ret_bool (vDrum_false k hlt fun H => H1.out H.1).symm, q + nq, by first | rfl | rw [World.drewN_drewN]⟩
    · go_wp2
      go_ret
      exact ⟨ret_bool (vDrum_iff.2 fun j hj => HP.out j (by omega)).symm, _, rfl⟩
theorem below_setCells {B : Nat} {a : World} {g : Nat} (hg : B ≤ g) (vs : List Value) : ∀ {o : Nat} {w : World}, Below B a w → Below B a (w.setCells g o vs) := by
  induction vs with
  | nil => intro o w h; exact h
  | cons v r ih => intro o w h; rw [World.setCells]; exact ih (h.setCell hg _)
theorem blk_setCells {T g N : Nat} (vs : List Value) : ∀ {o : Nat} {w : World} {f : Nat → Value}, BlkAt w T g N f → o + vs.length ≤ N → ∃ f', BlkAt (w.setCells g o vs) T g N f' := by
  induction vs with
  | nil => intro o w f h _; exact ⟨f, h⟩
  | cons v r ih => intro o w f h hl; rw [World.setCells]; exact ih (h.setCell o v (by simp at hl; omega)) (by simp at hl ⊢; omega)
/-- numbers of 32 bits in all drums -/
def L32 (L : Nat → Nat → Nat) : Prop := ∀ i, D32 (L i)
/-- a slice that came in reads as n drums -/
def DrumsIn (w : World) (a : Option Addr) (n : Nat) (L : Nat → Nat → Nat) : Prop :=
  0 < n → ∃ ad, a = some ad ∧ ad.block < w.heap.size ∧ ∀ i, i < n → ∀ k, k < 96 → w.cell? ((ad.add (i * 96)).add k) = some (.int .u32 (L i k))
theorem DrumsIn.get {w : World} {a : Option Addr} {n : Nat} {L : Nat → Nat → Nat} (h : DrumsIn w a n L) (hn : 0 < n) : ∃ ad, a = some ad ∧ ad.block < w.heap.size ∧ ∀ i, i < n → ∀ k, k < 96 → w.cell? ((ad.add (i * 96)).add k) = some (.int .u32 (L i k)) := h hn
theorem DrumsIn.below {w w' : World} {a : Option Addr} {n : Nat} {L : Nat → Nat → Nat} (h : DrumsIn w a n L) (hb : Below w.heap.size w w') : DrumsIn w' a n L := by
  intro hn
  obtain ⟨ad, rfl, hg, hc⟩ := h hn
  refine ⟨ad, rfl, Nat.lt_of_lt_of_le hg hb.size, fun i hi k hk => ?_⟩
  rw [hb.cell (p := (ad.add (i * 96)).add k) (by rw [add_block, add_block]; exact hg)]
  exact hc i hi k hk
theorem kp_drumsIn {w : World} {a : Option Addr} {n : Nat} {L : Nat → Nat → Nat} (h : DrumsIn w a n L) : Kp w (fun V => DrumsIn V a n L) := Kp.mk fun _ hb => h.below hb
set_option maxRecDepth 100000 in
/-- a whole drum is read, wherever it lies -/
theorem run_load_at (w : World) (p : Addr) (D : Nat → Nat) (h : ∀ k, k < 96 → w.cell? (p.add k) = some (.int .u32 (D k))) : (loadVar 70 p).run Try.prog w = .ok (.agg (dc D)) w := by
  have hl : (loadCells p (dc D).toList.length).run Try.prog w = .ok (dc D).toList.toArray w := run_loadCells_list (P := Try.prog) w p (dc D).toList (fun j v hv => by
    have hj : j < 96 := by have := (List.getElem?_eq_some_iff.1 hv).1; simpa [dc_size] using this
    rw [h j hj, ← dc_get D j hj]; simpa using hv)
  rw [Array.length_toList, dc_size] at hl
  have hagg : (isAgg 70).run Try.prog w = .ok true w := by kernel_rfl
  have hs : (sizeOf 70).run Try.prog w = .ok 96 w := by kernel_rfl
  simp only [loadVar, Sem.run_bind, hagg, Result.andThen_ok, if_true, hs, hl, Array.toArray_toList]
  rfl
section
variable {ops : Array Oper} {rest : List Oper} {o : Oper} {a : Act} {w : World} {Q : Exit → Act → World → Prop}
theorem load_arr_in (hgd : o.guard = none) (x : Operand) (ho : o.op = .load 70 x) (p : Addr) (hx : a.eval x = .pointer (some p)) (D : Nat → Nat) (hc : ∀ k, k < 96 → w.cell? (p.add k) = some (.int .u32 (D k)))
    (h : wpList Try.prog ops Q rest (a.put o.dst (.agg (dc D))) w) : wpList Try.prog ops Q (o :: rest) a w := by
  refine wpList_plain hgd fun K hK => ?_
  unfold Oper.wp execOp
  simp only [ho, hx, Instr.loadAt, Instr.sureAddr, Sem.run_bind, Sem.run_pure, Result.andThen_ok, run_load_at w p D hc]
  exact hK _ _ h
theorem store_drum_mid (hgd : o.guard = none) (x y : Operand) (ho : o.op = .store 71 x y) (g p : Nat) (E : Nat → Nat) (hx : a.eval x = .pointer (some ⟨g, p, none⟩)) (hy : a.eval y = .agg (dc E)) (ht : w.there g p 96)
    (h : wpList Try.prog ops Q rest (a.put o.dst undef) (w.setCells g p (dc E).toList)) : wpList Try.prog ops Q (o :: rest) a w :=
  wpList_store_mid hgd _ x y ho g p (dc E) hx hy (by rw [dc_size]; exact ht) (by rw [dc_size]; exact size_drum) (dc_one E) h
end
theorem ex_load_drum_mid {o : Oper} {a : Act} {W : World} (x : Operand) (ho : o.op = .load 71 x) (g p : Nat) (hx : a.eval x = .pointer (some ⟨g, p, none⟩)) (D : Nat → Nat) (hg : DrumCells W g p D) :
    (execOp a.eval o).run Try.prog W = .ok (.value (.agg (dc D))) W := by
  have h := run_loadVar_mid (P := Try.prog) W g p 71 (dc D).toList _ hg.range und_drum rfl (by rw [Array.length_toList, dc_size]; exact size_drum)
  rw [Array.toArray_toList] at h
  unfold execOp
  simp only [ho, hx, Instr.loadAt, Instr.sureAddr, Sem.run_bind, Sem.run_pure, Result.andThen_ok, h]
theorem there_part {w : World} {g N : Nat} (h : w.there g 0 N) (o n : Nat) (hn : o + n ≤ N) : w.there g o n := fun j hj => by have := h (o + j) (by omega); rw [Nat.zero_add] at this; exact this
theorem drum_same {w : World} {g o : Nat} (E : Nat → Nat) (h : w.there g o 96) : DrumCells (w.setCells g o (dc E).toList) g o E := fun k hk => by
  have := World.rangeAt_setCells_same w g o (dc E).toList (by rw [Array.length_toList, dc_size]; exact h) k (.int .u32 (E k)) (by have := dc_get E k hk; simpa using this)
  exact this
theorem drum_apart {w : World} {g' o' : Nat} {D : Nat → Nat} (h : DrumCells w g' o' D) (g o : Nat) (E : Nat → Nat) (hap : g' ≠ g ∨ o' + 96 ≤ o ∨ o + 96 ≤ o') : DrumCells (w.setCells g o (dc E).toList) g' o' D := fun k hk => by
  have := World.rangeAt_setCells_apart h.range g o (dc E).toList (by simpa [dc_size] using hap) k (.int .u32 (D k)) (by have := dc_get D k hk; simpa using this)
  exact this
theorem infoDrum : (Try.prog.info? 71).map (fun i => (i.zero, i.size, i.bytes)) = some (some (.agg (Array.replicate 96 (.int .u32 0))), 96, 384) := by kernel_rfl
theorem BlkAt.there {w : World} {T g N : Nat} {f : Nat → Value} (h : BlkAt w T g N f) : w.there g 0 N := fun j hj => by
  rw [Nat.zero_add]
  exact ⟨by rw [h.cell j hj]; rfl, h.frozen j⟩
theorem there_below {B : Nat} {w w' : World} {g o n : Nat} (h : w.there g o n) (hb : Below B w w') (hg : g < B) : w'.there g o n := fun j hj => by
  have := hb.block g hg
  unfold World.cell? World.frozen?
  have h2 := h j hj
  unfold World.cell? World.frozen? at h2
  simp only [this] at *
  exact h2

theorem szDrumS_kp (a : Option Addr) (n c : Nat) (l : Int) (w : World) (hn : n ≤ 9223372036854775807) (hl : 0 ≤ l ∧ l ≤ 1048576) :
    Calls Try.prog 19 #[.slice a n c, .int .i64 l] w fun e w' => e = .returned (.int .i64 (szOf l n)) ∧ Below w.heap.size w w' := by
  by_cases h : l < n
  · go_enter Try.func19, Try.ntmps19
    go_wp2
    go_ret
    exact ⟨ret_int (by rw [szOf_lt h]), Below.refl _ _⟩
  · go_enter Try.func19, Try.ntmps19
    go_wp2
    go_ret
    exact ⟨ret_int (by rw [szOf_ge (by omega)]), Below.refl _ _⟩
set_option maxRecDepth 100000 in
theorem toDrumS_own (a : Option Addr) (n c : Nat) (L : Nat → Nat → Nat) (w : World) (hn : n ≤ 1048576) (hh : DrumsIn w a n L) :
    Calls Try.prog 22 #[.slice a n c] w fun e w' => ∃ b, e = .returned (.slice b n n) ∧ Below w.heap.size w w' ∧ Kp w' (fun V => DrumsAt V b n L) ∧ ∃ xs, Kp w' (fun V => V.ownsRow w.heap.size 71 96 (.slice b n n) n xs) := by
  obtain ⟨i0, hi, hz0, hz1, hz2⟩ := info_parts infoDrum
  obtain ⟨f0, hmk⟩ := run_make_n w 48 71 i0 _ Try.underlying48 hi hz0 96 384 n hz1 hz2 (by omega) (by omega)
  clear hi hz0 hz1 hz2
  have HH := kp_drumsIn hh; clear hh
  have KB := Kp.base w
  have hb0 : Below w.heap.size w (w.alloc (.cells (cf (n * 96) f0) 71)) := (Below.refl _ _).alloc (Nat.le_refl _) _
  have hk0 := BlkAt.new w 71 (n * 96) f0
  have HB0 := Lib.hid hb0; have HK0 := Lib.hid hk0; clear hb0 hk0
  go_enter Try.func22, Try.ntmps22
  go_wp2
  go_loopw [4] (fun i w' => Below w.heap.size w w' ∧ ∃ k : Nat, k ≤ n ∧ i = .int .i64 k ∧ w.heap.size < w'.heap.size ∧ (∃ f, BlkAt w' 71 w.heap.size (n * 96) f) ∧ ∀ j, j < k → DrumCells w' w.heap.size (j * 96) (L j)) (fun i _ => n - (intOf i).toNat)
  case atStart => exact ⟨HB0.out, 0, by omega, rfl, by simp, ⟨f0, HK0.out⟩, fun i hi => absurd hi (by omega)⟩
  case round =>
    clear HB0 HK0 hmk
    obtain ⟨hb, k, hk, rfl, hsz, hT, hC⟩ := hrel
    obtain ⟨f, hT⟩ := hT; have HT := Lib.hid hT; have HC := Lib.hid hC; clear hT hC
    replace HH := HH.on hb
    by_cases hlt : k < n
    · have hx := DrumsIn.get HH.here (show 0 < n by omega)
      obtain ⟨ad, rfl, hg, hc⟩ := hx
      have HCC := Lib.hid (hc k hlt); clear hc
      go_wp2_with (first | (with_reducible refine load_arr_in rfl _ rfl (ad.add (k * 96)) rfl (L k) HCC.out ?_) | (go_at_call 49; refine (toDrum_any (L k) _).mono ?_; rintro e w1 ⟨rfl, hb1⟩; have HB1 := Lib.hid (HT.out.below hb1 hsz); have HT1 := Lib.hid HB1.out.there) | (with_reducible refine store_drum_mid rfl _ _ rfl w.heap.size (k * 96) (L k) rfl rfl (there_part HT1.out _ _ (by omega)) ?_))
      go_roundw
      case rel =>
        have hb2 := hb.trans (hb1.mono hb.size)
        have hsz1 : wr.heap.size ≤ w1.heap.size := hb1.size
        have hsz2 := (below_setCells (B := 0) (g := w.heap.size) (Nat.zero_le _) (dc (L k)).toList (o := k * 96) (Below.refl 0 w1)).size
        refine ⟨below_setCells (Nat.le_refl _) _ hb2, k + 1, by omega, by go_num, by omega, blk_setCells _ HB1.out (by rw [Array.length_toList, dc_size]; omega), fun j hj => ?_⟩
        by_cases e : j = k
        · subst e
          exact drum_same _ (there_part HT1.out _ _ (by omega))
        · exact drum_apart ((HC.out j (by omega)).below hb1 hsz) _ _ _ (by omega)
      case measure => simp [intOf]; omega
    · have hkn : k = n := by omega
      subst hkn
      go_wp2
      go_ret
      exact ⟨_, rfl, hb, kp_drums fun _ => ⟨w.heap.size, 0, rfl, hsz, fun i hi => by rw [Nat.zero_add]; exact HC.out i hi⟩, _, kp_ownR (own_blk HT.out rfl (Nat.le_refl _) (by unfold maxLen; omega))⟩
theorem toDrumS_kp (a : Option Addr) (n c : Nat) (L : Nat → Nat → Nat) (w : World) (hn : n ≤ 1048576) (hh : DrumsIn w a n L) :
    Calls Try.prog 22 #[.slice a n c] w fun e w' => ∃ b, e = .returned (.slice b n n) ∧ Below w.heap.size w w' ∧ Kp w' (fun V => DrumsAt V b n L) :=
  (toDrumS_own a n c L w hn hh).mono fun _ _ ⟨b, he, hb, hk, _⟩ => ⟨b, he, hb, hk⟩
set_option maxRecDepth 100000 in
theorem eqDrum_any (D : Nat → Nat) (w : World) :
    Calls Try.prog 37 #[.agg (dc D), .agg (dc D)] w fun e w' => e = .returned (.bool true) ∧ Below w.heap.size w w' := by
  have KB := Kp.base w
  replace KB := KB.alloc (.cells (dc D) 71)
  have K0 := kp_newd w (D) 71 (g := w.heap.size) (by simp)
  replace KB := KB.alloc (.cells (dc D) 71)
  replace K0 := K0.alloc (.cells (dc D) 71)
  have K1 := kp_newd (w.alloc (.cells (dc D) 71)) (D) 71 (g := w.heap.size + 1) (by simp)
  have HZ := Lib.hid (show ((w.alloc (.cells (dc D) 71)).alloc (.cells (dc D) 71)).heap.size = w.heap.size + 1 + 1 by simp)
  go_enter Try.func37, Try.ntmps37
  go_wp2
  generalize ((w.alloc (.cells (dc D) 71)).alloc (.cells (dc D) 71)) = W at KB K0 K1 HZ ⊢
  go_loopw [5] (fun i w' => Below W.heap.size W w' ∧ ∃ k : Nat, k ≤ 96 ∧ i = .int .i64 k) (fun i _ => 96 - (intOf i).toNat)
  case atStart => exact ⟨Below.refl _ _, 0, by omega, rfl⟩
  case round =>
    obtain ⟨hb, k, hk, rfl⟩ := hrel
    replace KB := KB.on hb
    replace K0 := K0.on hb
    replace K1 := K1.on hb
    by_cases hlt : k < 96
    · have c0 := DrumAt.cell K0.here k hlt
      have c1 := DrumAt.cell K1.here k hlt
      go_wp2
      go_quiet (fail)
      go_wp2
      go_roundw
      case rel => exact ⟨below_drewN hb _, k + 1, by omega, by go_num⟩
      case measure => simp [intOf]; omega
    · go_wp2
      go_ret
      exact ⟨rfl, KB.here⟩
set_option maxRecDepth 100000 in
theorem eqDrumS_kp (a b : Option Addr) (n c d : Nat) (L : Nat → Nat → Nat) (w : World) (hn : n ≤ 1000000000) (ha : DrumsAt w a n L) (hb : DrumsAt w b n L) :
    Calls Try.prog 25 #[.slice a n c, .slice b n d] w fun e w' => e = .returned (.bool true) ∧ Below w.heap.size w w' := by
  have KA := kp_drums ha; have KC := kp_drums hb; clear ha hb
  go_enter Try.func25, Try.ntmps25
  go_wp2
  go_loopw [5] (fun i w' => Below w.heap.size w w' ∧ ∃ k : Nat, k ≤ n ∧ i = .int .i64 k) (fun i _ => n - (intOf i).toNat)
  case atStart => exact ⟨Below.refl _ _, 0, by omega, rfl⟩
  case round =>
    obtain ⟨hb, k, hk, rfl⟩ := hrel
    replace KA := KA.on hb
    replace KC := KC.on hb
    by_cases hlt : k < n
    · have hx := DrumsAt.get KA.here (show 0 < n by omega)
      have hy := DrumsAt.get KC.here (show 0 < n by omega)
      obtain ⟨g, off, rfl, hg, hc⟩ := hx
      obtain ⟨g', off', rfl, hg', hc'⟩ := hy
      have HX := Lib.hid (hc k hlt); have HY := Lib.hid (hc' k hlt); clear hc hc'
      have hk' : (k : Int) < n := by omega
      go_wp2
      refine wp_region_S (fun V => Below wr.heap.size wr V) (by kernel_rfl) (Below.refl _ _).drew ?_
      refine take_val 0 (.slice (some ⟨g, off, none⟩) n c) rfl (by kernel_rfl) (by kernel_rfl) (by kernel_rfl) (fun _ _ _ h => h) rfl (fun V _ => by simp [go_sem]) (Below.refl _ _).drew ?_
      simp only [List.getElem_toArray, List.getElem_cons_zero, List.getElem_cons_succ, Act.put, List.setIfInBounds_toArray, List.set_cons_zero, List.set_cons_succ]
      refine take_val 1 (.int .i64 (k : Int)) rfl (by kernel_rfl) (by kernel_rfl) (by kernel_rfl) (fun _ _ _ h => h) rfl (fun V _ => by simp [go_sem]) (Below.refl _ _).drew ?_
      simp only [List.getElem_toArray, List.getElem_cons_zero, List.getElem_cons_succ, Act.put, List.setIfInBounds_toArray, List.set_cons_zero, List.set_cons_succ]
      refine take_val 2 (.pointer (some ⟨g, off + k * 96, none⟩)) rfl (by kernel_rfl) (by kernel_rfl) (by kernel_rfl) (fun _ _ _ h => h) rfl (fun V _ => by simp [go_sem, hk', hlt]) (Below.refl _ _).drew ?_
      simp only [List.getElem_toArray, List.getElem_cons_zero, List.getElem_cons_succ, Act.put, List.setIfInBounds_toArray, List.set_cons_zero, List.set_cons_succ]
      refine take_val 3 (.agg (dc (L k))) rfl (by kernel_rfl) (by kernel_rfl) (by kernel_rfl) (fun _ _ _ h => h) rfl (fun V hV => ex_load_drum_mid _ rfl g (off + k * 96) rfl (L k) (HX.out.below hV hg)) (Below.refl _ _).drew ?_
      simp only [List.getElem_toArray, List.getElem_cons_zero, List.getElem_cons_succ, Act.put, List.setIfInBounds_toArray, List.set_cons_zero, List.set_cons_succ]
      refine take_val 4 (.slice (some ⟨g', off', none⟩) n d) rfl (by kernel_rfl) (by kernel_rfl) (by kernel_rfl) (fun _ _ _ h => h) rfl (fun V _ => by simp [go_sem]) (Below.refl _ _).drew ?_
      simp only [List.getElem_toArray, List.getElem_cons_zero, List.getElem_cons_succ, Act.put, List.setIfInBounds_toArray, List.set_cons_zero, List.set_cons_succ]
      refine take_val 5 (.int .i64 (k : Int)) rfl (by kernel_rfl) (by kernel_rfl) (by kernel_rfl) (fun _ _ _ h => h) rfl (fun V _ => by simp [go_sem]) (Below.refl _ _).drew ?_
      simp only [List.getElem_toArray, List.getElem_cons_zero, List.getElem_cons_succ, Act.put, List.setIfInBounds_toArray, List.set_cons_zero, List.set_cons_succ]
      refine take_val 6 (.pointer (some ⟨g', off' + k * 96, none⟩)) rfl (by kernel_rfl) (by kernel_rfl) (by kernel_rfl) (fun _ _ _ h => h) rfl (fun V _ => by simp [go_sem, hk', hlt]) (Below.refl _ _).drew ?_
      simp only [List.getElem_toArray, List.getElem_cons_zero, List.getElem_cons_succ, Act.put, List.setIfInBounds_toArray, List.set_cons_zero, List.set_cons_succ]
      refine take_val 7 (.agg (dc (L k))) rfl (by kernel_rfl) (by kernel_rfl) (by kernel_rfl) (fun _ _ _ h => h) rfl (fun V hV => ex_load_drum_mid _ rfl g' (off' + k * 96) rfl (L k) (HY.out.below hV hg')) (Below.refl _ _).drew ?_
      simp only [List.getElem_toArray, List.getElem_cons_zero, List.getElem_cons_succ, Act.put, List.setIfInBounds_toArray, List.set_cons_zero, List.set_cons_succ]
      refine step_call 8 37 #[.agg (dc (L k)), .agg (dc (L k))] (by kernel_rfl) rfl rfl (by simp [go_sem]) ?_
      refine (eqDrum_any _ _).mono ?_
      rintro e w1 ⟨rfl, hb1⟩
      have hq : Below wr.heap.size wr w1 := (Below.refl _ _).drew.trans hb1
      refine ⟨_, rfl, hq, ?_⟩
      simp only [List.getElem_toArray, List.getElem_cons_zero, List.getElem_cons_succ, Act.put, List.setIfInBounds_toArray, List.set_cons_zero, List.set_cons_succ]
      refine take_val 9 (.bool false) rfl (by kernel_rfl) (by kernel_rfl) (by kernel_rfl) (fun _ _ _ h => h) rfl (fun V _ => by simp [go_sem]) hq ?_
      simp only [List.getElem_toArray, List.getElem_cons_zero, List.getElem_cons_succ, Act.put, List.setIfInBounds_toArray, List.set_cons_zero, List.set_cons_succ]
      refine wpAnyH_done (by kernel_rfl) ?_ _
      go_wp2
      go_roundw
      case rel => exact ⟨hb.trans (hq.mono hb.size), k + 1, by omega, by go_num⟩
      case measure => simp [intOf]; omega
    · go_wp2
      go_ret
      exact ⟨rfl, hb⟩
end Go.Proofs.Ytpfjmoodfodfhaa
