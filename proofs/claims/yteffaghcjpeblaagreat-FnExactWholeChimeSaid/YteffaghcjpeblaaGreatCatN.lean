/- Slices of notes are put behind each other. Printed by catgen.py. No conditions. -/
import Derived.Test.YteffaghcjpeblaaGreatOwnN
import Derived.Test.YteffaghcjpeblaaGreatOwnG
import Derived.Laws.AppendOwnNone
import Derived.Lib.AppendZeros
import Derived.Outline
namespace Go.Proofs.YteffaghcjpeblaaGreat
open Go.RowKit
set_option linter.unusedVariables false
set_option linter.unusedSimpArgs false

set_option maxRecDepth 100000 in
theorem growN_any (n : Nat) (w : World) (hn : n ≤ 10000000) :
    Calls Tryz.prog 110 #[.slice none 0 0, .int .i64 (n : Int)] w fun e w' => ∃ v, e = .returned v ∧ Below w.heap.size w w' ∧ OwnN w' w.heap.size v [] := by
  by_cases h0 : 0 < n
  · have h0' : (0 : Int) < n := by omega
    obtain ⟨i0, hi, hz0, hz1, hz2⟩ := info_parts infoN2
    have hrun := Lib.run_append_nil_zeros (P := Tryz.prog) w 39 3 39 75 i0 _ .i64 .i64 Tryz.underlying39 Tryz.underlying3 hi hz0 n h0 (by rw [hz1]; decide) (by omega) (by rw [hz2]; omega)
    obtain ⟨cap, hcap⟩ : ∃ c, grownCap w n 0 75 = c := ⟨_, rfl⟩
    have hge := grownCap_ge w n 0 75
    have hle := grownCap_le_maxLen w n 0 75 (by unfold maxLen; omega)
    rw [hcap] at hge hle hrun
    obtain ⟨cur, hcur⟩ : ∃ c, Builtin.zeroCells (Value.cells (.agg #[.int .i16 0, .int .i8 0])) n ++ Builtin.zeroCells (Value.cells (.agg #[.int .i16 0, .int .i8 0])) (cap - n) = c := ⟨_, rfl⟩
    have hcs : cur.size = cap * 2 := by
      rw [← hcur]
      simp [Builtin.zeroCells, Value.cells]
      omega
    rw [hcur] at hrun
    have HRUN := Lib.hid hrun; have HCS := Lib.hid hcs; have HLE := Lib.hid hle
    clear hrun hcur hcap hcs hle hi hz0 hz1 hz2
    go_enter Tryz.func110, Tryz.ntmps110
    go_wp2_with (at_builtin; refine Lib.wpList_append_run _ rfl _ _ _ _ rfl _ _ rfl rfl _ _ HRUN.out ?_)
    go_ret
    exact ⟨_, rfl, ((Below.refl _ _).drew.alloc (by simp) _), by simp, .inr ⟨w.heap.size, cap, cur, rfl, Nat.le_refl _, heap_alloc_new w.drew _, Nat.zero_le _, HLE.out, HCS.out, by simp⟩⟩
  · have hn0 : n = 0 := by omega
    subst hn0
    go_enter Tryz.func110, Tryz.ntmps110
    go_wp2
    go_ret
    exact ⟨_, rfl, Below.refl _ _, OwnL.none0 _ _⟩
section
variable {ops : Array Oper} {rest : List Oper} {o : Oper} {a : Act} {w : World} {Q : Exit → Act → World → Prop}
/-- another slice of one's own is appended -/
theorem append_ownN (hgd : o.guard = none) (s x : Operand) (ho : o.op = .call { callee := .builtin .append, args := #[s, x], argTypes := #[39, 39] }) (base base2 : Nat) (v u : Value) (l ys : List (Int × Int)) (hs : a.eval s = v) (hown : OwnN w base v l)
    (hx : a.eval x = u) (hu : OwnN w base2 u ys) (hl : l.length + ys.length ≤ 10000000) (hbase : base ≤ w.heap.size)
    (h : ∀ v' w', OwnN w' base v' (l ++ ys) → Below base w w' → wpList Tryz.prog ops Q rest (a.put o.dst v') w') : wpList Tryz.prog ops Q (o :: rest) a w := by
  rcases hu.2 with ⟨rfl, h0⟩ | ⟨g, cap, cur, rfl, hg, hb, hc, hm, hs2, ht⟩
  · have hy : ys = [] := List.eq_nil_of_length_eq_zero h0
    subst hy
    obtain ⟨i0, hi, hz0, hz1, hz2⟩ := info_parts infoN2
    refine wpList_append_own_none hgd s x 39 ho base 75 i0 2 Tryz.underlying39 hi v l.length _ hs hown hx ?_
    exact h v w (by rw [List.append_nil]; exact hown) (Below.refl _ _)
  · refine append_notesT hgd s x ho base v l hs hown ⟨g, 0, none⟩ ys.length cap ys rfl hx ?_ hl hbase h
    intro j u hj
    have hjl : j < ys.length * 2 := by have := (List.getElem?_eq_some_iff.1 hj).1; rwa [flat_len encN 2 encN_len] at this
    rw [show (⟨g, 0, none⟩ : Addr).add j = ⟨g, j, none⟩ by unfold Addr.add; split <;> simp_all]
    rcases own_at hu with ⟨e, _⟩ | ⟨g', c', e, _, _, hcc⟩
    · cases e
    · injection e with e1 e2 e3
      injection e1 with e1
      injection e1 with e1
      subst e1
      rw [hcc j hjl, hj]
end
set_option maxRecDepth 100000 in
set_option maxHeartbeats 1000000 in
theorem concatN_any (gs B1 B2 : Nat) (v u : Value) (l ys : List (Int × Int)) (w : World) (hl : l.length + ys.length ≤ 4000000) (hg : w.heap[gs]? = some (.cells #[v, u] 39 (0, 0))) (h1 : OwnN w B1 v l) (h2 : OwnN w B2 u ys) :
    Calls Tryz.prog 68 #[.slice (some ⟨gs, 0, none⟩) 2 2] w fun e w' => ∃ r, e = .returned r ∧ Below w.heap.size w w' ∧ OwnN w' w.heap.size r (l ++ ys) := by
  obtain ⟨b1, c1, rfl⟩ := OwnL.form h1
  obtain ⟨b2, c2, rfl⟩ := OwnL.form h2
  have KG := kp_row hg; have K1 := kp_OwnN h1; have K2 := kp_OwnN h2
  have d0 := row_cell 0 hg
  have d1 := row_cell 1 hg
  clear hg h1 h2
  obtain ⟨n1, hn1⟩ : ∃ m, l.length = m := ⟨_, rfl⟩
  obtain ⟨n2, hn2⟩ : ∃ m, ys.length = m := ⟨_, rfl⟩
  have HN1 := Lib.hid hn1; have HN2 := Lib.hid hn2
  rw [hn1] at K1 KG d0 d1 hl
  rw [hn2] at K2 KG d0 d1 hl
  clear hn1 hn2
  have D0 := Lib.hid d0; have D1 := Lib.hid d1; clear d0 d1
  go_enter Tryz.func68, Tryz.ntmps68
  go_wp2
  go_loop [3, 11] (fun t i => ∃ k : Nat, k ≤ 2 ∧ i = .int .i64 k ∧ t = .int .i64 ((if k = 0 then 0 else if k = 1 then n1 else n1 + n2 : Nat) : Int)) (fun _ i => 2 - (intOf i).toNat)
  case atStart => exact ⟨0, by omega, rfl, rfl⟩
  case round =>
    obtain ⟨k, hk, rfl, rfl⟩ := hrel
    have d0 := D0.out; have d1 := D1.out
    obtain rfl | rfl | rfl : k = 0 ∨ k = 1 ∨ k = 2 := by omega
    · go_wp2
      go_round
      case rel => exact ⟨1, by omega, by go_num, by simp⟩
      case measure => simp [intOf]
    · go_wp2
      go_round
      case rel => exact ⟨2, by omega, by go_num, by simp⟩
      case measure => simp [intOf]
    · clear d0 d1
      rw [show (if 2 = 0 then 0 else if 2 = 1 then n1 else n1 + n2 : Nat) = n1 + n2 from rfl]
      obtain ⟨N, hN⟩ : ∃ m, n1 + n2 = m := ⟨_, rfl⟩
      rw [hN]
      have HNN := Lib.hid hN; rw [hN] at hl; clear hN
      go_wp2_with fail
      refine (growN_any N w (by omega)).mono ?_
      rintro e w1 ⟨r0, rfl, hb1, hr0⟩
      have HR0 := Lib.hid hr0; clear hr0
      go_wp2
      go_loopw [6, 27] (fun r i w' => Below w.heap.size w w' ∧ ∃ k : Nat, k ≤ 2 ∧ i = .int .i64 k ∧ OwnN w' w.heap.size r (if k = 0 then [] else if k = 1 then l else l ++ ys)) (fun _ i _ => 2 - (intOf i).toNat)
      case atStart => exact ⟨hb1, 0, by omega, rfl, HR0.out⟩
      case round =>
        clear HR0 hb1
        obtain ⟨hb, k, hk, rfl, hr⟩ := hrel
        have d0 := row_cell 0 (KG.at hb)
        have d1 := row_cell 1 (KG.at hb)
        have HR := Lib.hid hr; clear hr
        have HS1 := Lib.hid (K1.at hb); have HS2 := Lib.hid (K2.at hb)
        have hsz := hb.size
        obtain rfl | rfl | rfl : k = 0 ∨ k = 1 ∨ k = 2 := by omega
        · go_wp2_with (at_builtin; refine append_ownN rfl _ _ rfl w.heap.size _ _ _ [] l rfl HR.out rfl HS1.out (by have := HN1.out; have := HNN.out; simp; omega) hsz ?_; intro v2 w2 hown2 hb2; have HO2 := Lib.hid hown2; have hb4 := hb.trans hb2; clear hown2 hb2)
          go_roundw
          case rel => exact ⟨hb4, 1, by omega, by go_num, by simpa using HO2.out⟩
          case measure => simp [intOf]
        · go_wp2_with (at_builtin; refine append_ownN rfl _ _ rfl w.heap.size _ _ _ l ys rfl HR.out rfl HS2.out (by have := HN1.out; have := HN2.out; have := HNN.out; omega) hsz ?_; intro v2 w2 hown2 hb2; have HO2 := Lib.hid hown2; have hb4 := hb.trans hb2; clear hown2 hb2)
          go_roundw
          case rel => exact ⟨hb4, 2, by omega, by go_num, by simpa using HO2.out⟩
          case measure => simp [intOf]
        · clear d0 d1
          go_wp2
          go_ret
          exact ⟨_, rfl, hb, HR.out⟩
end Go.Proofs.YteffaghcjpeblaaGreat
