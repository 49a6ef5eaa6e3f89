/- Lists of drums that come in: sizes, copies, equality; the codes of a frame and a list. No conditions. -/
import Derived.Test.YtlcfjeofphncgaaKp
import Derived.Test.YtlcfjeofphncgaaOwn
import Derived.Test.YtlcfjeofphncgaaDrum
import Derived.Outline
namespace Go.Proofs.Ytlcfjeofphncgaa
open Go.RowKit
set_option linter.unusedVariables false
set_option linter.unusedSimpArgs false

theorem l02DrumO_any (gf gd o : Nat) (s : Int) (a : Option Addr) (n c : Nat) (D : Nat → Nat) (w : World) (hn : n ≤ 24) (hs0 : 2 ≤ s) (hs1 : s ≤ 96)
    (h0 : w.cell? ⟨gf, 0, none⟩ = some (.int .i16 s)) (h1 : w.cell? ⟨gf, 1, none⟩ = some (.slice a n c)) (hd : DrumCells w gd o D) :
    Calls Try.prog 67 #[.pointer (some ⟨gf, 0, none⟩), .pointer (some ⟨gd, o, none⟩)] w fun e w' => e = .returned (.bool (vDrum s n D)) ∧ ∃ q, w' = w.drewN q := by
  have Hd := Lib.hid hd; clear hd
  go_enter Try.func67, Try.ntmps67
  go_wp2
  go_loopw [5] (fun i w' => (∃ q, w' = w.drewN q) ∧ ∃ k : Nat, k ≤ 96 ∧ i = .int .i64 k ∧ ∀ j, j < k → D j / 2 ^ n = 0 ∧ (s ≤ (j : Int) → D j = 0)) (fun i _ => 96 - (intOf i).toNat)
  case atStart => exact ⟨⟨0, rfl⟩, 0, by omega, rfl, fun j hj => by omega⟩
  case round =>
    obtain ⟨⟨q, rfl⟩, k, hk, rfl, hP⟩ := hrel
    have HP := Lib.hid hP; clear hP
    by_cases hlt : k < 96
    · have hdk := Hd.out k hlt
      have hw1 := u64_nat n (by omega)
      have hw2 : min n 32 = n := by omega
      by_cases h1 : D k / 2 ^ n = 0
      · have hb1 := ne0_false h1
        have H1 := Lib.hid h1; clear h1
        by_cases h2 : s ≤ k
        · have h2' : decide (s ≤ (k : Int)) = true := by simpa using h2
          by_cases h3 : D k = 0
          · have hb3 := z0_false h3
            have H3 := Lib.hid h3; clear h3
            go_wp2
            go_quiet (fail)
            go_wp2
            go_roundw
            case rel => exact ⟨⟨q + nq, by first | rfl | rw [World.drewN_drewN]⟩, k + 1, by omega, by go_num, fun j hj => if e : j = k then e ▸ ⟨H1.out, fun _ => H3.out⟩ else HP.out j (by omega)⟩
            case measure => simp [intOf]; omega
          · have hb3 := z0_true h3
            have H3 := Lib.hid h3; clear h3
            go_wp2
            go_quiet (fail)
            go_wp2
            go_ret
            exact ⟨ret_bool (vDrum_false k hlt fun H => H3.out (H.2 h2)).symm, q + nq, by first | rfl | rw [World.drewN_drewN]⟩
        · have h2' : decide (s ≤ (k : Int)) = false := by simpa using h2
          have H2 := Lib.hid h2; clear h2
          go_wp2
          go_quiet (fail)
          go_wp2
          go_roundw
          case rel => exact ⟨⟨q + nq, by first | rfl | rw [World.drewN_drewN]⟩, k + 1, by omega, by go_num, fun j hj => if e : j = k then e ▸ ⟨H1.out, fun h => absurd h (by have := H2.out; omega)⟩ else HP.out j (by omega)⟩
          case measure => simp [intOf]; omega
      · have hb1 := ne0_true h1
        have H1 := Lib.hid h1; clear h1
        go_wp2
        go_quiet (fail)
        go_wp2
        go_ret
        exact ⟨ret_bool (vDrum_false k hlt fun H => H1.out H.1).symm, q + nq, by first | rfl | rw [World.drewN_drewN]⟩
    · go_wp2
      go_ret
      exact ⟨ret_bool (vDrum_iff.2 fun j hj => HP.out j (by omega)).symm, _, rfl⟩
theorem below_setCells {B : Nat} {a : World} {g : Nat} (hg : B ≤ g) (vs : List Value) : ∀ {o : Nat} {w : World}, Below B a w → Below B a (w.setCells g o vs) := by
  induction vs with
  | nil => intro o w h; exact h
  | cons v r ih => intro o w h; rw [World.setCells]; exact ih (h.setCell hg _)
theorem blk_setCells {T g N : Nat} (vs : List Value) : ∀ {o : Nat} {w : World} {f : Nat → Value}, BlkAt w T g N f → o + vs.length ≤ N → ∃ f', BlkAt (w.setCells g o vs) T g N f' := by
  induction vs with
  | nil => intro o w f h _; exact ⟨f, h⟩
  | cons v r ih => intro o w f h hl; rw [World.setCells]; exact ih (h.setCell o v (by simp at hl; omega)) (by simp at hl ⊢; omega)
/-- numbers of 32 bits in all drums -/
def L32 (L : Nat → Nat → Nat) : Prop := ∀ i, D32 (L i)
/-- a slice that came in reads as n drums -/
def DrumsIn (w : World) (a : Option Addr) (n : Nat) (L : Nat → Nat → Nat) : Prop :=
  0 < n → ∃ ad, a = some ad ∧ ad.block < w.heap.size ∧ ∀ i, i < n → ∀ k, k < 96 → w.cell? ((ad.add (i * 96)).add k) = some (.int .u32 (L i k))
theorem DrumsIn.get {w : World} {a : Option Addr} {n : Nat} {L : Nat → Nat → Nat} (h : DrumsIn w a n L) (hn : 0 < n) : ∃ ad, a = some ad ∧ ad.block < w.heap.size ∧ ∀ i, i < n → ∀ k, k < 96 → w.cell? ((ad.add (i * 96)).add k) = some (.int .u32 (L i k)) := h hn
theorem DrumsIn.below {w w' : World} {a : Option Addr} {n : Nat} {L : Nat → Nat → Nat} (h : DrumsIn w a n L) (hb : Below w.heap.size w w') : DrumsIn w' a n L := by
  intro hn
  obtain ⟨ad, rfl, hg, hc⟩ := h hn
  refine ⟨ad, rfl, Nat.lt_of_lt_of_le hg hb.size, fun i hi k hk => ?_⟩
  rw [hb.cell (p := (ad.add (i * 96)).add k) (by rw [add_block, add_block]; exact hg)]
  exact hc i hi k hk
theorem kp_drumsIn {w : World} {a : Option Addr} {n : Nat} {L : Nat → Nat → Nat} (h : DrumsIn w a n L) : Kp w (fun V => DrumsIn V a n L) := Kp.mk fun _ hb => h.below hb
set_option maxRecDepth 100000 in
/-- a whole drum is read, wherever it lies -/
theorem run_load_at (w : World) (p : Addr) (D : Nat → Nat) (h : ∀ k, k < 96 → w.cell? (p.add k) = some (.int .u32 (D k))) : (loadVar 32 p).run Try.prog w = .ok (.agg (dc D)) w := by
  have hl : (loadCells p (dc D).toList.length).run Try.prog w = .ok (dc D).toList.toArray w := run_loadCells_list (P := Try.prog) w p (dc D).toList (fun j v hv => by
    have hj : j < 96 := by have := (List.getElem?_eq_some_iff.1 hv).1; simpa [dc_size] using this
    rw [h j hj, ← dc_get D j hj]; simpa using hv)
  rw [Array.length_toList, dc_size] at hl
  have hagg : (isAgg 32).run Try.prog w = .ok true w := by kernel_rfl
  have hs : (sizeOf 32).run Try.prog w = .ok 96 w := by kernel_rfl
  simp only [loadVar, Sem.run_bind, hagg, Result.andThen_ok, if_true, hs, hl, Array.toArray_toList]
  rfl
section
variable {ops : Array Oper} {rest : List Oper} {o : Oper} {a : Act} {w : World} {Q : Exit → Act → World → Prop}
theorem load_arr_in (hgd : o.guard = none) (x : Operand) (ho : o.op = .load 32 x) (p : Addr) (hx : a.eval x = .pointer (some p)) (D : Nat → Nat) (hc : ∀ k, k < 96 → w.cell? (p.add k) = some (.int .u32 (D k)))
    (h : wpList Try.prog ops Q rest (a.put o.dst (.agg (dc D))) w) : wpList Try.prog ops Q (o :: rest) a w := by
  refine wpList_plain hgd fun K hK => ?_
  unfold Oper.wp execOp
  simp only [ho, hx, Instr.loadAt, Instr.sureAddr, Sem.run_bind, Sem.run_pure, Result.andThen_ok, run_load_at w p D hc]
  exact hK _ _ h
theorem store_drum_mid (hgd : o.guard = none) (x y : Operand) (ho : o.op = .store 33 x y) (g p : Nat) (E : Nat → Nat) (hx : a.eval x = .pointer (some ⟨g, p, none⟩)) (hy : a.eval y = .agg (dc E)) (ht : w.there g p 96)
    (h : wpList Try.prog ops Q rest (a.put o.dst undef) (w.setCells g p (dc E).toList)) : wpList Try.prog ops Q (o :: rest) a w :=
  wpList_store_mid hgd _ x y ho g p (dc E) hx hy (by rw [dc_size]; exact ht) (by rw [dc_size]; exact size_drum) (dc_one E) h
end
theorem ex_load_drum_mid {o : Oper} {a : Act} {W : World} (x : Operand) (ho : o.op = .load 33 x) (g p : Nat) (hx : a.eval x = .pointer (some ⟨g, p, none⟩)) (D : Nat → Nat) (hg : DrumCells W g p D) :
    (execOp a.eval o).run Try.prog W = .ok (.value (.agg (dc D))) W := by
  have h := run_loadVar_mid (P := Try.prog) W g p 33 (dc D).toList _ hg.range und_drum rfl (by rw [Array.length_toList, dc_size]; exact size_drum)
  rw [Array.toArray_toList] at h
  unfold execOp
  simp only [ho, hx, Instr.loadAt, Instr.sureAddr, Sem.run_bind, Sem.run_pure, Result.andThen_ok, h]
theorem there_part {w : World} {g N : Nat} (h : w.there g 0 N) (o n : Nat) (hn : o + n ≤ N) : w.there g o n := fun j hj => by have := h (o + j) (by omega); rw [Nat.zero_add] at this; exact this
theorem drum_same {w : World} {g o : Nat} (E : Nat → Nat) (h : w.there g o 96) : DrumCells (w.setCells g o (dc E).toList) g o E := fun k hk => by
  have := World.rangeAt_setCells_same w g o (dc E).toList (by rw [Array.length_toList, dc_size]; exact h) k (.int .u32 (E k)) (by have := dc_get E k hk; simpa using this)
  exact this
theorem drum_apart {w : World} {g' o' : Nat} {D : Nat → Nat} (h : DrumCells w g' o' D) (g o : Nat) (E : Nat → Nat) (hap : g' ≠ g ∨ o' + 96 ≤ o ∨ o + 96 ≤ o') : DrumCells (w.setCells g o (dc E).toList) g' o' D := fun k hk => by
  have := World.rangeAt_setCells_apart h.range g o (dc E).toList (by simpa [dc_size] using hap) k (.int .u32 (D k)) (by have := dc_get D k hk; simpa using this)
  exact this
theorem infoDrum : (Try.prog.info? 33).map (fun i => (i.zero, i.size, i.bytes)) = some (some (.agg (Array.replicate 96 (.int .u32 0))), 96, 384) := by kernel_rfl
theorem BlkAt.there {w : World} {T g N : Nat} {f : Nat → Value} (h : BlkAt w T g N f) : w.there g 0 N := fun j hj => by
  rw [Nat.zero_add]
  exact ⟨by rw [h.cell j hj]; rfl, h.frozen j⟩
theorem there_below {B : Nat} {w w' : World} {g o n : Nat} (h : w.there g o n) (hb : Below B w w') (hg : g < B) : w'.there g o n := fun j hj => by
  have := hb.block g hg
  unfold World.cell? World.frozen?
  have h2 := h j hj
  unfold World.cell? World.frozen? at h2
  simp only [this] at *
  exact h2

end Go.Proofs.Ytlcfjeofphncgaa
