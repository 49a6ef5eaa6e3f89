/- Tables of the costs of drums, and orders. No conditions. -/
import Derived.Test.YtkefjgbcpoggiaaAp
import Derived.Test.YtkefjgbcpoggiaaLc
import Derived.Test.YtkefjgbcpoggiaaNew
import Derived.Test.YtkefjgbcpoggiaaCC
import Derived.Outline
namespace Go.Proofs.Ytkefjgbcpoggiaa
open Go.RowKit
set_option linter.unusedVariables false
set_option linter.unusedSimpArgs false

/-- the cost of the drum j behind the drum i -/
def cN (L : Nat → Nat → Nat) (i j : Nat) : Int := ((cnt (lessD (L i) (L j)) + cnt (lessD (L j) (L i)) : Nat) : Int)
theorem cN_def (L : Nat → Nat → Nat) (i j : Nat) : cN L i j = ((cnt (lessD (L i) (L j)) + cnt (lessD (L j) (L i)) : Nat) : Int) := rfl
theorem cN_bound (L : Nat → Nat → Nat) (i j : Nat) : 0 ≤ cN L i j ∧ cN L i j ≤ 6144 := by
  have h1 := cnt_le (lessD (L i) (L j))
  have h2 := cnt_le (lessD (L j) (L i))
  rw [cN_def]
  omega
attribute [irreducible] cN
/-- the first k costs behind the drum i -/
def rowL (L : Nat → Nat → Nat) (i k : Nat) : List Int := (List.range k).map (cN L i)
theorem rowL_zero (L : Nat → Nat → Nat) (i : Nat) : rowL L i 0 = [] := rfl
theorem rowL_succ (L : Nat → Nat → Nat) (i k : Nat) : rowL L i (k + 1) = rowL L i k ++ [cN L i k] := by simp [rowL, List.range_succ]
theorem rowL_len (L : Nat → Nat → Nat) (i k : Nat) : (rowL L i k).length = k := by simp [rowL]
theorem rowL_get (L : Nat → Nat → Nat) (i k j : Nat) (h : j < k) : (rowL L i k).getD j 0 = cN L i j := by simp [rowL, List.getD, h]
/-- the first k rows -/
def tabL (L : Nat → Nat → Nat) (m k : Nat) : List (List Int) := (List.range k).map fun i => rowL L i m
theorem tabL_zero (L : Nat → Nat → Nat) (m : Nat) : tabL L m 0 = [] := rfl
theorem tabL_succ (L : Nat → Nat → Nat) (m k : Nat) : tabL L m (k + 1) = tabL L m k ++ [rowL L k m] := by simp [tabL, List.range_succ]
theorem tabL_len (L : Nat → Nat → Nat) (m k : Nat) : (tabL L m k).length = k := by simp [tabL]
theorem tabL_get (L : Nat → Nat → Nat) (m k i : Nat) (h : i < k) : (tabL L m k)[i]? = some (rowL L i m) := by simp [tabL, h]
attribute [irreducible] rowL tabL

/-! ### rows that one owns -/
theorem OwnI.below {w w' : World} {base : Nat} {v : Value} {l : List Int} (h : OwnI w base v l) (hb : Below w.heap.size w w') : OwnI w' base v l := by
  obtain ⟨hl, h⟩ := h
  refine ⟨hl, ?_⟩
  rcases h with h | ⟨g, cap, cur, hv, hg, hc, h⟩
  · exact .inl h
  · exact .inr ⟨g, cap, cur, hv, hg, (hb.block g (Array.getElem?_eq_some_iff.1 hc).1).trans hc, h⟩
theorem OwnI.mono {w : World} {base base' : Nat} {v : Value} {l : List Int} (h : OwnI w base v l) (hb : base' ≤ base) : OwnI w base' v l := by
  obtain ⟨hl, h⟩ := h
  refine ⟨hl, ?_⟩
  rcases h with h | ⟨g, cap, cur, hv, hg, h⟩
  · exact .inl h
  · exact .inr ⟨g, cap, cur, hv, Nat.le_trans hb hg, h⟩
theorem kp_own {w : World} {base : Nat} {v : Value} {l : List Int} (h : OwnI w base v l) : Kp w (fun V => OwnI V base v l) := Kp.mk fun _ hb => h.below hb
theorem OwnI.one {w : World} {base : Nat} {v : Value} {l : List Int} (h : OwnI w base v l) : v.oneCell' = true := by
  obtain ⟨hl, h⟩ := h
  rcases h with ⟨rfl, _⟩ | ⟨g, cap, cur, rfl, _⟩ <;> rfl
theorem OwnI.nil (w : World) (base : Nat) (hb : base ≤ w.heap.size) : OwnI (w.alloc (.cells #[] 2)) base (.slice (some ⟨w.heap.size, 0, none⟩) 0 0) [] :=
  ⟨rfl, .inr ⟨w.heap.size, 0, #[], rfl, hb, heap_alloc_new w _, Nat.le_refl _, by unfold maxLen; omega, rfl, rfl⟩⟩
/-- the slice value v owns rows of numbers, in blocks from base on -/
def OwnT (w : World) (base : Nat) (v : Value) (rows : List (List Int)) : Prop :=
  ∃ vs : List Value, vs.length = rows.length ∧ w.ownsRow base 38 1 v rows.length vs ∧ ∀ (i : Nat) u r, vs[i]? = some u → rows[i]? = some r → OwnI w base u r
theorem infoSl : (Try.prog.info? 38).map (fun i => (i.zero, i.size, i.bytes)) = some (some (.slice none 0 0), 1, 24) := by kernel_rfl
theorem OwnT.below {w w' : World} {base : Nat} {v : Value} {l : List (List Int)} (h : OwnT w base v l) (hb : Below w.heap.size w w') : OwnT w' base v l := by
  obtain ⟨vs, hl, ⟨hl2, h⟩, hr⟩ := h
  refine ⟨vs, hl, ⟨hl2, ?_⟩, fun i u r hi hj => (hr i u r hi hj).below hb⟩
  rcases h with h | ⟨g, cap, cur, hv, hg, hc, h⟩
  · exact .inl h
  · exact .inr ⟨g, cap, cur, hv, hg, (hb.block g (Array.getElem?_eq_some_iff.1 hc).1).trans hc, h⟩
theorem kp_ownT {w : World} {base : Nat} {v : Value} {l : List (List Int)} (h : OwnT w base v l) : Kp w (fun V => OwnT V base v l) := Kp.mk fun _ hb => h.below hb
theorem OwnT.nil (w : World) (base : Nat) (hb : base ≤ w.heap.size) : OwnT (w.alloc (.cells #[] 38)) base (.slice (some ⟨w.heap.size, 0, none⟩) 0 0) [] :=
  ⟨[], rfl, ⟨rfl, .inr ⟨w.heap.size, 0, #[], rfl, hb, heap_alloc_new w _, Nat.le_refl _, by unfold maxLen; omega, rfl, rfl⟩⟩, fun i u r h => by simp at h⟩
section
variable {ops : Array Oper} {rest : List Oper} {o : Oper} {a : Act} {w : World} {Q : Exit → Act → World → Prop}
/-- a row is appended -/
theorem append_row (hgd : o.guard = none) (s x : Operand) (ho : o.op = .call { callee := .builtin .append, args := #[s, x], argTypes := #[179, 179] }) (base : Nat) (v : Value) (l : List (List Int)) (hs : a.eval s = v) (hown : OwnT w base v l)
    (g : Nat) (u : Value) (r : List Int) (hx : a.eval x = .slice (some ⟨g, 0, none⟩) 1 1) (hc : w.cell? ⟨g, 0, none⟩ = some u) (hu : OwnI w base u r) (hl : l.length ≤ 1000000) (hbase : base ≤ w.heap.size)
    (h : ∀ v' w', OwnT w' base v' (l ++ [r]) → Below base w w' → wpList Try.prog ops Q rest (a.put o.dst v') w') : wpList Try.prog ops Q (o :: rest) a w := by
  obtain ⟨i0, hi, hz0, hz1, hz2⟩ := info_parts infoSl
  obtain ⟨vs, hl1, hvs, hrs⟩ := hown
  refine wpList_append_own w hgd s x 179 ho base 38 i0 (.slice none 0 0) 1 24 Try.underlying179 hi hz0 hz1 hz2 rfl (by decide) v l.length _ hs hvs ⟨g, 0, none⟩ 1 1 [u] hx rfl ?_ ?_ ?_ ?_ hbase ?_
  · intro j u' hj
    match j, hj with
    | 0, hj => simp at hj; subst hj; simpa [Addr.add] using hc
  · intro u' hu'; simp at hu'; subst hu'; exact hu.one
  · unfold maxLen; omega
  · omega
  · intro v' w' hown' hgrow _
    refine h v' w' ?_ (Below.grown (Below.refl _ _) hgrow hbase fun k hk => (World.ownsRow.lt hvs k hk).1)
    have keep : ∀ u r, OwnI w base u r → OwnI w' base u r := fun u r hur => by
      refine World.ownsRow.kept hur hgrow ?_
      obtain ⟨_, h1⟩ := hur
      rcases h1 with ⟨rfl, _⟩ | ⟨g1, c1, cur1, rfl, hg1, hb1, _⟩
      · exact .inl rfl
      · right
        obtain ⟨_, h2⟩ := hvs
        rcases h2 with ⟨rfl, _⟩ | ⟨g2, c2, cur2, rfl, hg2, hb2, _⟩
        · simp [Value.ownBlock]
        · simp only [Value.ownBlock, ne_eq, Option.some.injEq]
          intro e
          rw [e, hb2] at hb1
          simp at hb1
    refine ⟨vs ++ [u], by simp [hl1], by rw [List.length_append]; exact hown', fun i u' r' hi hj => ?_⟩
    by_cases hlt : i < vs.length
    · rw [List.getElem?_append_left hlt] at hi
      rw [List.getElem?_append_left (by omega)] at hj
      exact keep _ _ (hrs i u' r' hi hj)
    · rw [List.getElem?_append_right (by omega)] at hi
      rw [List.getElem?_append_right (by omega)] at hj
      have hi0 : i = vs.length := by
        have := (List.getElem?_eq_some_iff.1 hi).1
        simp at this; omega
      subst hi0
      rw [hl1] at hj
      simp at hi hj
      subst hi; subst hj
      exact keep _ _ hu
end
/-- a slice that reads as n rows of n numbers -/
def TabAt (w : World) (a : Option Addr) (n : Nat) (C : Nat → Nat → Int) : Prop :=
  0 < n → ∃ g off, a = some ⟨g, off, none⟩ ∧ g < w.heap.size ∧ ∀ i, i < n → ∃ b c, w.cell? ⟨g, off + i, none⟩ = some (.slice b n c) ∧ IntAt w b n (C i)
theorem TabAt.get {w : World} {a : Option Addr} {n : Nat} {C : Nat → Nat → Int} (h : TabAt w a n C) (hn : 0 < n) : ∃ g off, a = some ⟨g, off, none⟩ ∧ g < w.heap.size ∧ ∀ i, i < n → ∃ b c, w.cell? ⟨g, off + i, none⟩ = some (.slice b n c) ∧ IntAt w b n (C i) := h hn
theorem TabAt.below {w w' : World} {a : Option Addr} {n : Nat} {C : Nat → Nat → Int} (h : TabAt w a n C) (hb : Below w.heap.size w w') : TabAt w' a n C := fun hn => by
  obtain ⟨g, off, ha, hg, hc⟩ := h hn
  refine ⟨g, off, ha, Nat.lt_of_lt_of_le hg hb.size, fun i hi => ?_⟩
  obtain ⟨b, c, hc, hz⟩ := hc i hi
  exact ⟨b, c, (hb.cell (p := ⟨g, off + i, none⟩) hg).trans hc, hz.below hb⟩
theorem kp_tab {w : World} {a : Option Addr} {n : Nat} {C : Nat → Nat → Int} (h : TabAt w a n C) : Kp w (fun V => TabAt V a n C) := Kp.mk fun _ hb => h.below hb
theorem IntAt.congr {w : World} {a : Option Addr} {n : Nat} {Z Y : Nat → Int} (h : IntAt w a n Z) (e : ∀ i, i < n → Z i = Y i) : IntAt w a n Y := fun hn => by
  obtain ⟨g, off, ha, hg, hc⟩ := h hn
  exact ⟨g, off, ha, hg, fun i hi => by rw [hc i hi, e i hi]⟩
theorem OwnT.at {w : World} {base : Nat} {v : Value} {L : Nat → Nat → Nat} {m : Nat} (h : OwnT w base v (tabL L m m)) : ∃ b c, v = .slice b m c ∧ TabAt w b m (cN L) := by
  obtain ⟨vs, hl, ⟨hl2, h⟩, hr⟩ := h
  rw [tabL_len] at hl hl2 h
  rcases h with ⟨rfl, h0⟩ | ⟨g, cap, cur, rfl, hg, hb, hc, hm, hs, ht⟩
  · exact ⟨none, 0, by rw [h0], fun hn => absurd hn (by omega)⟩
  · refine ⟨some ⟨g, 0, none⟩, cap, rfl, fun _ => ⟨g, 0, rfl, (Array.getElem?_eq_some_iff.1 hb).1, fun i hi => ?_⟩⟩
    have hvi : vs[i]? = some (vs[i]'(by omega)) := List.getElem?_eq_getElem _
    have h1 := hr i _ _ hvi (tabL_get L m m i hi)
    obtain ⟨b, c, hv, hz⟩ := h1.at
    rw [rowL_len] at hv hz
    refine ⟨b, c, ?_, hz.congr fun j hj => rowL_get L i m j hj⟩
    rw [Nat.zero_add, row_cell i hb, ← Array.getElem?_toList]
    have h2 : (cur.toList.take (m * 1))[i]? = vs[i]? := by rw [ht]
    rw [List.getElem?_take, if_pos (by omega), hvi, hv] at h2
    exact h2
theorem l02MovesO_any (ga oa gb ob : Nat) (D E : Nat → Nat) (hD : D32 D) (hE : D32 E) (w : World) (h0 : DrumCells w ga oa D) (h1 : DrumCells w gb ob E) :
    Calls Try.prog 222 #[.pointer (some ⟨ga, oa, none⟩), .pointer (some ⟨gb, ob, none⟩)] w fun e w' => e = .returned (.int .i64 (cnt (lessD E D))) ∧ ∃ q, w' = w.drewN q := by
  have H0 := Lib.hid h0; have H1 := Lib.hid h1; clear h0 h1
  go_enter Try.func222, Try.ntmps222
  go_wp2
  go_loopw [5, 6] (fun t i w' => (∃ q, w' = w.drewN q) ∧ ∃ k : Nat, k ≤ 96 ∧ i = .int .i64 k ∧ t = .int .i64 (sumTo (fun k => popc (lessD E D k)) k)) (fun _ i _ => 96 - (intOf i).toNat)
  case atStart => exact ⟨⟨0, rfl⟩, 0, by omega, rfl, by rw [sumTo_zero]; rfl⟩
  case round =>
    obtain ⟨hq, k, hk, rfl, rfl⟩ := hrel
    have HQ := Lib.hid hq; clear hq
    have hs := sumTo_le (fun k => popc (lessD E D k)) 32 (fun k => popc_le _) k
    have hp := popc_le (lessD E D k)
    have hl32 : lessD E D k < 4294967296 := lessD_32 hE k
    by_cases hlt : k < 96
    · have c0 : wr.cell? ⟨ga, oa + k, none⟩ = some (.int .u32 (D k)) := by
        obtain ⟨q, rfl⟩ := HQ.out
        exact H0.out k hlt
      have c1 : wr.cell? ⟨gb, ob + k, none⟩ = some (.int .u32 (E k)) := by
        obtain ⟨q, rfl⟩ := HQ.out
        exact H1.out k hlt
      have hbit : bits .andNot .u32 (E k : Int) (D k : Int) = ((lessD E D k : Nat) : Int) := bits_andNot_u32 (hE k) (hD k)
      have hsum := i64_id (x := (sumTo (fun k => popc (lessD E D k)) k : Int) + (popc (lessD E D k) : Int)) (by omega)
      go_wp2
      go_quiet ((go_at_call 229; exact q_same (l02Count_any (lessD E D k) hl32 _)))
      clear hsum
      go_wp2
      go_roundw
      case rel =>
        obtain ⟨q, rfl⟩ := HQ.out
        exact ⟨⟨q + nq, by first | rfl | rw [World.drewN_drewN]⟩, k + 1, by omega, by go_num, by rw [sumTo_succ]; go_num⟩
      case measure => simp [intOf]; omega
    · go_wp2
      go_ret
      exact ⟨ret_int (by rw [show k = 96 by omega, cnt_def]), HQ.out⟩
theorem l05CostO_any (ga oa gb ob : Nat) (L : Nat → Nat → Nat) (i j : Nat) (hD : D32 (L i)) (hE : D32 (L j)) (w : World) (h0 : DrumCells w ga oa (L i)) (h1 : DrumCells w gb ob (L j)) :
    Calls Try.prog 196 #[.pointer (some ⟨ga, oa, none⟩), .pointer (some ⟨gb, ob, none⟩)] w fun e w' => e = .returned (.int .i64 (cN L i j)) ∧ ∃ q, w' = w.drewN q := by
  have c1 := cnt_le (lessD (L i) (L j))
  have c2 := cnt_le (lessD (L j) (L i))
  have hc := Lib.hid (cN_def L i j)
  have H0 := Lib.hid h0; have H1 := Lib.hid h1; clear h0 h1
  go_enter Try.func196, Try.ntmps196
  go_wp2_with fail
  refine (l02MovesO_any ga oa gb ob (L i) (L j) hD hE _ H0.out H1.out).mono ?_
  rintro e w' ⟨rfl, q, rfl⟩
  go_wp2_with fail
  refine (l02MovesO_any gb ob ga oa (L j) (L i) hE hD (w.drewN q) H1.out H0.out).mono ?_
  rintro e w' ⟨rfl, q', rfl⟩
  go_wp2
  go_ret
  exact ⟨ret_int (by rw [hc.out]; omega), q + q', by first | rfl | rw [World.drewN_drewN] | (rw [← World.drewN_drewN])⟩
set_option maxRecDepth 100000 in
theorem l05Table_any (b : Option Addr) (m d : Nat) (L : Nat → Nat → Nat) (w : World) (hm : m ≤ 8) (hL : L32 L) (hl : DrumsAt w b m L) :
    Calls Try.prog 139 #[.slice b m d] w fun e w' => ∃ v, e = .returned v ∧ Below w.heap.size w w' ∧ OwnT w' w.heap.size v (tabL L m m) := by
  have HL := Lib.hid hL; clear hL
  have KB := Kp.base w
  have KL := kp_drums hl; clear hl
  have hb0 : Below w.heap.size w (w.alloc (.cells #[] 38)) := (Below.refl _ _).alloc (Nat.le_refl _) _
  have hn0 := OwnT.nil w w.heap.size (Nat.le_refl _)
  rw [← tabL_zero L m] at hn0
  have HB0 := Lib.hid hb0; have HN0 := Lib.hid hn0; clear hb0 hn0
  go_enter Try.func139, Try.ntmps139
  go_wp2
  go_loopw [3, 4] (fun t i w' => Below w.heap.size w w' ∧ ∃ k : Nat, k ≤ m ∧ i = .int .i64 k ∧ OwnT w' w.heap.size t (tabL L m k)) (fun _ i _ => m - (intOf i).toNat)
  case atStart => exact ⟨HB0.out, 0, by omega, rfl, HN0.out⟩
  case round =>
    clear HB0 HN0
    obtain ⟨hb, k, hk, rfl, ht⟩ := hrel
    have HT := Lib.hid ht; clear ht
    replace KB := KB.on hb
    replace KL := KL.on hb
    by_cases hlt : k < m
    · have hk' : (k : Int) < m := by omega
      have hx := DrumsAt.get KL.here (show 0 < m by omega)
      obtain ⟨g, off, rfl, hg, hc⟩ := hx
      have HC := Lib.hid hc; clear hc
      have hsz := hb.size
      obtain ⟨U, rfl⟩ : ∃ U, U = wr := ⟨wr, rfl⟩
      have hb1 : Below U.heap.size U (U.alloc (.cells #[] 2)) := (Below.refl _ _).alloc (Nat.le_refl _) _
      have hn1 := OwnI.nil U U.heap.size (Nat.le_refl _)
      rw [← rowL_zero L k] at hn1
      have HB1 := Lib.hid hb1; have HN1 := Lib.hid hn1; clear hb1 hn1
      go_wp2
      go_loopw [5, 6] (fun r i w' => Below U.heap.size U w' ∧ ∃ j : Nat, j ≤ m ∧ i = .int .i64 j ∧ OwnI w' U.heap.size r (rowL L k j)) (fun _ i _ => m - (intOf i).toNat)
      case atStart => exact ⟨HB1.out, 0, by omega, rfl, HN1.out⟩
      case round =>
        clear HB1 HN1
        obtain ⟨hb1, j, hj, rfl, hr⟩ := hrel
        have HR := Lib.hid hr; clear hr
        have hsz1 := hb1.size
        by_cases hltj : j < m
        · have hj' : (j : Int) < m := by omega
          have hlen := rowL_len L k j
          have hrs := Lib.hid (rowL_succ L k j)
          have HC1 := Lib.hid (show DrumCells wr.drew g (off + k * 96) (L k) from (HC.out k hlt).below hb1.drew hg); have HC2 := Lib.hid (show DrumCells wr.drew g (off + j * 96) (L j) from (HC.out j hltj).below hb1.drew hg)
          go_wp2
          refine wp_region_S (fun V => Below U.heap.size U V) (by kernel_rfl) hb1.drew ?_
          refine take_val 0 (u5) rfl (by kernel_rfl) (by kernel_rfl) (by kernel_rfl) (fun _ _ _ h => h) rfl (fun V hV => by simp [go_sem]) hb1.drew ?_
          simp only [List.getElem_toArray, List.getElem_cons_zero, List.getElem_cons_succ, Act.put, List.setIfInBounds_toArray, List.set_cons_zero, List.set_cons_succ]
          refine take_val 1 (.slice (some ⟨g, off, none⟩) m d) rfl (by kernel_rfl) (by kernel_rfl) (by kernel_rfl) (fun _ _ _ h => h) rfl (fun V hV => by simp [go_sem]) hb1.drew ?_
          simp only [List.getElem_toArray, List.getElem_cons_zero, List.getElem_cons_succ, Act.put, List.setIfInBounds_toArray, List.set_cons_zero, List.set_cons_succ]
          refine take_val 2 (.int .i64 (k : Int)) rfl (by kernel_rfl) (by kernel_rfl) (by kernel_rfl) (fun _ _ _ h => h) rfl (fun V hV => by simp [go_sem]) hb1.drew ?_
          simp only [List.getElem_toArray, List.getElem_cons_zero, List.getElem_cons_succ, Act.put, List.setIfInBounds_toArray, List.set_cons_zero, List.set_cons_succ]
          refine take_val 3 (.pointer (some ⟨g, off + k * 96, none⟩)) rfl (by kernel_rfl) (by kernel_rfl) (by kernel_rfl) (fun _ _ _ h => h) rfl (fun V hV => by simp [go_sem, hk', hlt]) hb1.drew ?_
          simp only [List.getElem_toArray, List.getElem_cons_zero, List.getElem_cons_succ, Act.put, List.setIfInBounds_toArray, List.set_cons_zero, List.set_cons_succ]
          refine take_val 4 (.slice (some ⟨g, off, none⟩) m d) rfl (by kernel_rfl) (by kernel_rfl) (by kernel_rfl) (fun _ _ _ h => h) rfl (fun V hV => by simp [go_sem]) hb1.drew ?_
          simp only [List.getElem_toArray, List.getElem_cons_zero, List.getElem_cons_succ, Act.put, List.setIfInBounds_toArray, List.set_cons_zero, List.set_cons_succ]
          refine take_val 5 (.int .i64 (j : Int)) rfl (by kernel_rfl) (by kernel_rfl) (by kernel_rfl) (fun _ _ _ h => h) rfl (fun V hV => by simp [go_sem]) hb1.drew ?_
          simp only [List.getElem_toArray, List.getElem_cons_zero, List.getElem_cons_succ, Act.put, List.setIfInBounds_toArray, List.set_cons_zero, List.set_cons_succ]
          refine take_val 6 (.pointer (some ⟨g, off + j * 96, none⟩)) rfl (by kernel_rfl) (by kernel_rfl) (by kernel_rfl) (fun _ _ _ h => h) rfl (fun V hV => by simp [go_sem, hj', hltj]) hb1.drew ?_
          simp only [List.getElem_toArray, List.getElem_cons_zero, List.getElem_cons_succ, Act.put, List.setIfInBounds_toArray, List.set_cons_zero, List.set_cons_succ]
          refine step_call 7 196 #[.pointer (some ⟨g, off + k * 96, none⟩), .pointer (some ⟨g, off + j * 96, none⟩)] (by kernel_rfl) rfl rfl (by simp [go_sem]) ?_
          refine (l05CostO_any g (off + k * 96) g (off + j * 96) L k j (HL.out k) (HL.out j) _ HC1.out HC2.out).mono ?_
          rintro e w2 ⟨rfl, q, rfl⟩
          have hbV : Below wr.heap.size wr (wr.drew.drewN q) := below_drewN (below_drew wr) q
          have HR2 := Lib.hid (HR.out.below hbV)
          have hb2 := hb1.trans (hbV.mono hsz1)
          have hsz2 := hb2.size
          refine ⟨_, rfl, hb2, ?_⟩
          simp only [List.getElem_toArray, List.getElem_cons_zero, List.getElem_cons_succ, Act.put, List.setIfInBounds_toArray, List.set_cons_zero, List.set_cons_succ]
          clear HC1 HC2 HR
          generalize wr.drew.drewN q = V at HR2 hb2 hsz2 hbV ⊢
          have hbW := hb2.alloc hsz2 (.cells #[.int .i64 (cN L k j)] 2)
          refine step_val 8 (.slice (some ⟨V.heap.size, 0, none⟩) 1 1) (V.alloc (.cells #[.int .i64 (cN L k j)] 2)) (by kernel_rfl) rfl rfl (by simp [go_sem]) hbW ?_
          simp only [List.getElem_toArray, List.getElem_cons_zero, List.getElem_cons_succ, Act.put, List.setIfInBounds_toArray, List.set_cons_zero, List.set_cons_succ]
          refine step_append_int 9 (by kernel_rfl) rfl rfl _ _ rfl U.heap.size _ (rowL L k j) rfl (HR2.out.alloc _) V.heap.size (cN L k j) rfl (by simp) (by omega) (by simp; omega) ?_
          intro v2 w2 hown2 hb3
          have hb4 : Below U.heap.size U w2 := hbW.trans hb3
          refine ⟨hb4, ?_⟩
          simp only [List.getElem_toArray, List.getElem_cons_zero, List.getElem_cons_succ, Act.put, List.setIfInBounds_toArray, List.set_cons_zero, List.set_cons_succ]
          refine take_val 10 (v2) rfl (by kernel_rfl) (by kernel_rfl) (by kernel_rfl) (fun _ _ _ h => h) rfl (fun V hV => by simp [go_sem]) hb4 ?_
          simp only [List.getElem_toArray, List.getElem_cons_zero, List.getElem_cons_succ, Act.put, List.setIfInBounds_toArray, List.set_cons_zero, List.set_cons_succ]
          have HO2 := Lib.hid hown2; clear hown2 hb3
          refine wpAnyH_done (by kernel_rfl) ?_ _
          go_wp2
          go_roundw
          case rel => exact ⟨hb4, j + 1, by omega, by go_num, by rw [hrs.out]; exact HO2.out⟩
          case measure => simp [intOf]; omega
        · have hjm : j = m := by omega
          subst hjm
          have hlen := tabL_len L j k
          have hts := Lib.hid (tabL_succ L j k)
          have HT2 := Lib.hid (HT.out.below hb1)
          have HR2 := Lib.hid (HR.out.mono hsz)
          obtain ⟨rb, rc, rfl, _⟩ := OwnI.at HR.out
          clear HT HR
          have hb2 := hb.trans (hb1.mono hsz)
          have hsz2 := hb2.size
          go_wp2_with (at_builtin; refine append_row rfl _ _ rfl w.heap.size _ (tabL L j k) rfl (HT2.out.below ((Below.refl _ _).alloc (Nat.le_refl _) _)) wr.heap.size _ (rowL L k j) rfl (by simp) (HR2.out.alloc _) (by omega) (by simp; omega) ?_; intro v2 w2 hown2 hb3; have HO2 := Lib.hid hown2; have HB2 := Lib.hid hb3; clear hown2 hb3)
          go_roundw
          case rel => exact ⟨(hb2.alloc hsz2 _).trans HB2.out, k + 1, by omega, by go_num, by rw [hts.out]; exact HO2.out⟩
          case measure => simp [intOf]; omega
    · have hkm : k = m := by omega
      subst hkm
      go_wp2
      go_ret
      exact ⟨_, rfl, hb, HT.out⟩
set_option maxRecDepth 100000 in
theorem costs_any (b : Option Addr) (m d : Nat) (L : Nat → Nat → Nat) (w : World) (hm : m ≤ 8) (hL : L32 L) (hl : DrumsAt w b m L) :
    Calls Try.prog 141 #[.slice b m d] w fun e w' => ∃ v, e = .returned v ∧ Below w.heap.size w w' ∧ OwnT w' w.heap.size v (tabL L m m) := by
  have HL := Lib.hid hL; clear hL
  have KB := Kp.base w
  have KL := kp_drums hl; clear hl
  have hb0 : Below w.heap.size w (w.alloc (.cells #[] 38)) := (Below.refl _ _).alloc (Nat.le_refl _) _
  have hn0 := OwnT.nil w w.heap.size (Nat.le_refl _)
  rw [← tabL_zero L m] at hn0
  have HB0 := Lib.hid hb0; have HN0 := Lib.hid hn0; clear hb0 hn0
  go_enter Try.func141, Try.ntmps141
  go_wp2
  go_loopw [3, 12] (fun t i w' => Below w.heap.size w w' ∧ ∃ k : Nat, k ≤ m ∧ i = .int .i64 k ∧ OwnT w' w.heap.size t (tabL L m k)) (fun _ i _ => m - (intOf i).toNat)
  case atStart => exact ⟨HB0.out, 0, by omega, rfl, HN0.out⟩
  case round =>
    clear HB0 HN0
    obtain ⟨hb, k, hk, rfl, ht⟩ := hrel
    replace KB := KB.on hb
    replace KL := KL.on hb
    by_cases hlt : k < m
    · have hk' : (k : Int) < m := by omega
      have hx := DrumsAt.get KL.here (show 0 < m by omega)
      obtain ⟨g, off, rfl, hg, hc⟩ := hx
      have HC := Lib.hid (hc k hlt); clear hc
      have hsz := hb.size
      have KT := kp_ownT ht; clear ht
      obtain ⟨U, rfl⟩ : ∃ U, U = wr := ⟨wr, rfl⟩
      go_wp2_with (first | (with_reducible refine load_drum_mid rfl _ rfl g (off + k * 96) rfl (L k) HC.out ?_) | (with_reducible refine copy_drum rfl rfl rfl _ _ rfl (L k) rfl rfl ?_; intro V hb2 hz2 hg2; have KD := kp_drum hg2; have hbU := hb.trans (hb2.mono hsz); replace KL := KL.on hb2; replace KT := KT.on hb2; clear hg2 HC hz2))
      have hszU := hbU.size
      have hn1 := OwnI.nil V V.heap.size (Nat.le_refl _)
      rw [← rowL_zero L k] at hn1
      have hb1 : Below V.heap.size V (V.alloc (.cells #[] 2)) := (Below.refl _ _).alloc (Nat.le_refl _) _
      have HB1 := Lib.hid hb1; have HN1 := Lib.hid hn1; clear hb1 hn1 hb2
      go_loopw [6, 19] (fun r i w' => Below V.heap.size V w' ∧ ∃ j : Nat, j ≤ m ∧ i = .int .i64 j ∧ OwnI w' V.heap.size r (rowL L k j)) (fun _ i _ => m - (intOf i).toNat)
      case atStart => exact ⟨HB1.out, 0, by omega, rfl, HN1.out⟩
      case round =>
        clear HB1 HN1
        obtain ⟨hb1, j, hj, rfl, hr⟩ := hrel
        have hsz1 := hb1.size
        replace KL := KL.on hb1
        replace KT := KT.on hb1
        replace KD := KD.on hb1
        by_cases hltj : j < m
        · have hx := DrumsAt.get KL.here (show 0 < m by omega)
          obtain ⟨g1, off1, e1, hg1, hc1⟩ := hx
          simp only [Option.some.injEq, Addr.mk.injEq, and_true] at e1
          obtain ⟨rfl, rfl⟩ := e1
          have HC1 := Lib.hid (hc1 j hltj); clear hc1
          have hlen := rowL_len L k j
          have hrs := Lib.hid (rowL_succ L k j)
          have hcn := Lib.hid (cN_def L k j)
          have HR := Lib.hid hr; clear hr
          have hD := KD.here
          go_wp2_with (first | (with_reducible refine load_drum_mid rfl _ rfl g (off + j * 96) rfl (L j) HC1.out ?_) | (with_reducible refine copy_drum rfl rfl rfl _ _ rfl (L j) rfl rfl ?_; intro V2 hb2 hz2 hg2; have hD2 := KD.at hb2; have HR2 := Lib.hid (HR.out.below hb2); have hb4 := hb1.trans (hb2.mono hsz1); have HG2 := Lib.hid hg2; clear hg2 hz2) | (with_reducible refine load_drum rfl _ rfl U.heap.size rfl _ (L k) hD2 ?_) | (with_reducible refine load_drum rfl _ rfl wr.heap.size rfl _ (L j) HG2.out ?_) | (go_at_call 197; refine (cost_any (L k) (L j) (HL.out k) (HL.out j) _).mono ?_; rintro e w2 ⟨rfl, hb5⟩; rw [← hcn.out]; have hb6 := hb4.trans (hb5.mono hb4.size); have hsz6 := hb6.size; have HR3 := Lib.hid (HR2.out.below hb5)) | (at_builtin; refine append_int rfl _ _ rfl V.heap.size _ (rowL L k j) rfl (HR3.out.alloc _) w2.heap.size (cN L k j) rfl (by simp) (by omega) (by simp; omega) ?_; intro v3 w3 hown3 hb7; have HO3 := Lib.hid hown3; have HB3 := Lib.hid hb7; clear hown3 hb7))
          go_roundw
          case rel => exact ⟨(hb6.alloc hsz6 _).trans HB3.out, j + 1, by omega, by go_num, by rw [hrs.out]; exact HO3.out⟩
          case measure => simp [intOf]; omega
        · have hjm : j = m := by omega
          subst hjm
          have hlen := tabL_len L j k
          have hts := Lib.hid (tabL_succ L j k)
          have hbw := hbU.trans (hb1.mono hszU)
          have HR2 := Lib.hid ((hr.mono hszU).alloc (.cells #[u6] 38))
          have HT2 := Lib.hid ((KT.alloc (.cells #[u6] 38)).here)
          obtain ⟨rb, rc, rfl, _⟩ := OwnI.at hr
          clear hr
          have hsz2 := hbw.size
          go_wp2_with (at_builtin; refine append_row rfl _ _ rfl w.heap.size _ (tabL L j k) rfl HT2.out wr.heap.size _ (rowL L k j) rfl (by simp) HR2.out (by omega) (by simp; omega) ?_; intro v2 w2 hown2 hb3; have HO2 := Lib.hid hown2; have HB2 := Lib.hid hb3; clear hown2 hb3)
          go_roundw
          case rel => exact ⟨(hbw.alloc hsz2 _).trans HB2.out, k + 1, by omega, by go_num, by rw [hts.out]; exact HO2.out⟩
          case measure => simp [intOf]; omega
    · have hkm : k = m := by omega
      subst hkm
      go_wp2
      go_ret
      exact ⟨_, rfl, hb, ht⟩
end Go.Proofs.Ytkefjgbcpoggiaa
