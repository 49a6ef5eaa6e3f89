/- A programme that is drawn from bytes. No conditions. -/
import Derived.Test.YtlcfjeofphncgaaVf
import Derived.Test.YtlcfjeofphncgaaVp
import Derived.Test.YtlcfjeofphncgaaOwnS
import Derived.Test.YtlcfjeofphncgaaIx
import Derived.Outline
namespace Go.Proofs.Ytlcfjeofphncgaa
open Go.RowKit
set_option linter.unusedVariables false
set_option linter.unusedSimpArgs false

theorem i16_idS {x : Int} (h : -32768 ≤ x ∧ x ≤ 32767) : IntKind.i16.wrap x = x := by
  simp [IntKind.wrap, IntKind.bits, IntKind.signed]
  split <;> omega
theorem i8_idS {x : Int} (h : -128 ≤ x ∧ x ≤ 127) : IntKind.i8.wrap x = x := by
  simp [IntKind.wrap, IntKind.bits, IntKind.signed]
  split <;> omega
abbrev fsS (L : List (Int × Int)) : Nat → Int := fun i => (L.getD i (0, 0)).1
abbrev snS (L : List (Int × Int)) : Nat → Int := fun i => (L.getD i (0, 0)).2
/-- sections that are drawn: they lie one behind the other, up to a step -/
def SecD (s : Int) (L : List (Int × Int)) (e : Int) : Prop := (∀ k, k < L.length → endTo (fsS L) (snS L) k ≤ fsS L k ∧ fsS L k < s ∧ 1 ≤ snS L k ∧ fsS L k + snS L k ≤ s) ∧ endTo (fsS L) (snS L) L.length ≤ e ∧ 0 ≤ e
theorem SecD.nil {s e : Int} (h : 0 ≤ e) : SecD s [] e := ⟨fun k hk => absurd hk (by simp), by simp [endTo_zero, h], h⟩
theorem snoc_at {L : List (Int × Int)} {z : Int × Int} {i : Nat} (h : i < L.length) : (L ++ [z]).getD i (0, 0) = L.getD i (0, 0) := by simp [List.getD, List.getElem?_append_left h]
theorem snoc_end {L : List (Int × Int)} {z : Int × Int} : (L ++ [z]).getD L.length (0, 0) = z := by simp [List.getD]
theorem snoc_endTo {L : List (Int × Int)} {z : Int × Int} {k : Nat} (h : k ≤ L.length) : endTo (fsS (L ++ [z])) (snS (L ++ [z])) k = endTo (fsS L) (snS L) k := by
  cases k with
  | zero => rw [endTo_zero, endTo_zero]
  | succ k => rw [endTo_succ, endTo_succ]; unfold fsS snS; rw [snoc_at (by omega)]
theorem SecD.snoc {s e f t e2 : Int} {L : List (Int × Int)} (h : SecD s L e) (hf : f = e) (hs : f < s) (ht : 1 ≤ t) (h2 : f + t ≤ s) (he : f + t ≤ e2) : SecD s (L ++ [(f, t)]) e2 := by
  obtain ⟨h1, h3, h4⟩ := h
  refine ⟨fun k hk => ?_, ?_, by omega⟩
  · rw [List.length_append, List.length_singleton] at hk
    rw [snoc_endTo (by omega)]
    by_cases e : k = L.length
    · subst e
      unfold fsS snS
      rw [snoc_end]
      exact ⟨by show _ ≤ f; unfold fsS snS at h3; omega, hs, ht, h2⟩
    · unfold fsS snS
      rw [snoc_at (by omega)]
      exact h1 k (by omega)
  · rw [List.length_append, List.length_singleton, endTo_succ]
    unfold fsS snS
    rw [snoc_end]
    exact he
theorem SecD.i16 {s e : Int} {L : List (Int × Int)} (h : SecD s L e) (hs : s ≤ 96) : I16 (fsS L) ∧ I16 (snS L) := by
  have h0 : ∀ k, 0 ≤ endTo (fsS L) (snS L) k ∨ L.length < k := by
    intro k
    induction k with
    | zero => left; rw [endTo_zero]; omega
    | succ k ih =>
      by_cases hk : k < L.length
      · have h1 := h.1 k hk
        rcases ih with ih | ih
        · left; rw [endTo_succ]; omega
        · omega
      · right; omega
  constructor <;> intro i
  · by_cases hi : i < L.length
    · have h1 := h.1 i hi
      have := h0 i
      omega
    · show -32768 ≤ (L.getD i (0, 0)).1 ∧ (L.getD i (0, 0)).1 ≤ 32767
      simp [List.getD, List.getElem?_eq_none (Nat.le_of_not_lt hi)]
  · by_cases hi : i < L.length
    · have h1 := h.1 i hi
      have := h0 i
      omega
    · show -32768 ≤ (L.getD i (0, 0)).2 ∧ (L.getD i (0, 0)).2 ≤ 32767
      simp [List.getD, List.getElem?_eq_none (Nat.le_of_not_lt hi)]
theorem SecD.secs {s e : Int} {L : List (Int × Int)} (h : SecD s L e) (hl : L.length ≤ 5) : vSecs s L.length (fsS L) (snS L) = true := vSecs_iff.2 ⟨by omega, h.1⟩
theorem SecD.pos {s e : Int} {L : List (Int × Int)} (h : SecD s L e) : 0 ≤ e := h.2.2
attribute [irreducible] SecD
/-- an order of which the first k are drawn -/
def OrdD (m : Nat) (O : Nat → Int) (k : Nat) : Prop := (∀ j, -1 ≤ O j ∧ O j ≤ 5) ∧ ∀ j, j < k → -1 ≤ O j ∧ O j ≤ (m : Int) - 1
theorem OrdD.zero (m : Nat) : OrdD m (fun _ => 0) 0 := ⟨fun j => by simp, fun j hj => by omega⟩
theorem OrdD.set {m k : Nat} {O : Nat → Int} {v : Int} (h : OrdD m O k) (h1 : -1 ≤ v ∧ v ≤ (m : Int) - 1) (h2 : m ≤ 6) : OrdD m (updI O k v) (k + 1) := by
  constructor
  · intro j; unfold updI; split; omega; exact h.1 j
  · intro j hj; unfold updI; split; exact h1; exact h.2 j (by omega)
theorem OrdD.i8 {m k : Nat} {O : Nat → Int} (h : OrdD m O k) : I8 O := fun j => by have := h.1 j; omega
theorem OrdD.ord {m : Nat} {O : Nat → Int} (h : OrdD m O 48) : vOrd m O = true := vOrd_iff.2 h.2
attribute [irreducible] OrdD
theorem pc_setOS (b : Option Addr) (n c : Nat) (O : Nat → Int) (k : Nat) (v : Int) (h : k < 48) : (pc b n c O).setIfInBounds (1 + k) (.int .i8 v) = pc b n c (updI O k v) := by
  unfold pc
  rw [← oc_set O k v h]
  apply Array.ext_getElem?
  intro i
  rw [Array.getElem?_setIfInBounds]
  by_cases e : i = 1 + k
  · subst e
    rw [if_pos rfl, if_pos (by simp [oc_size]; omega), Array.getElem?_append_right (by simp)]
    simp [oc_size, h]
  · rw [if_neg (fun e2 => e e2.symm)]
    by_cases h0 : i = 0
    · subst h0; rw [Array.getElem?_append_left (by simp), Array.getElem?_append_left (by simp)]
    · rw [Array.getElem?_append_right (by simp; omega), Array.getElem?_append_right (by simp; omega), Array.getElem?_setIfInBounds_ne (by simp; omega)]
/-- while it is drawn: the two boxes and the sections -/
structure PDS (g g2 g3 : Nat) (w : World) (b : Option Addr) (c' : Nat) (L : List (Int × Int)) (O : Nat → Int) (W : World) : Prop where
  k : KeepS g w W
  r2 : W.heap[g2]? = some (.cells (pc none 0 0 fun _ => 0) 51 (0, 0))
  r3 : W.heap[g3]? = some (.cells (pc b L.length c' O) 51 (0, 0))
  o : OwnS W (g3 + 1) (.slice b L.length c') L
section
variable {g g2 g3 : Nat} {w W V : World} {b b' : Option Addr} {c' c2 : Nat} {L : List (Int × Int)} {O : Nat → Int} {z : Int × Int}
theorem PDS.kx (h : PDS g g2 g3 w b c' L O W) (h2 : g2 ≠ g) (h3 : g < g3) : Kx g W (PDS g g2 g3 w b c' L O) :=
  Kx.mk fun V hb => ⟨h.k.trans hb, hb.row h.r2 h2, hb.row h.r3 (by omega), hb.grown h.o (by omega)⟩
theorem PDS.push (h : PDS g g2 g3 w b c' L O W) (hg : g ≤ g3) (hw : w.heap.size ≤ g3) (h2 : g2 < g3) (hb : Below (g3 + 1) W V) (ho : OwnS V (g3 + 1) (.slice b' (L.length + 1) c2) (L ++ [z])) :
    PDS g g2 g3 w b' c2 (L ++ [z]) O (V.setCell ⟨g3, 0, none⟩ (.slice b' (L.length + 1) c2)) := by
  have r3 := (hb.block g3 (Nat.lt_succ_self _)).trans h.r3
  have hl : (L ++ [z]).length = L.length + 1 := by rw [List.length_append]; rfl
  have hgr := grown_set (grown_refl V (some g3)) rfl 0 (.slice b' (L.length + 1) c2)
  refine ⟨?_, ?_, ?_, ?_⟩
  · exact ⟨Nat.le_trans h.k.1 (by simpa using hb.size), fun j hj hlj => (heap_setCell_other _ _ j _ (show j ≠ g3 from Nat.ne_of_lt (Nat.lt_of_lt_of_le hlj hw))).trans ((hb.block j (Nat.lt_succ_of_lt (Nat.lt_of_lt_of_le hlj hw))).trans (h.k.2.1 j hj hlj)), hb.os.trans h.k.2.2.1, hb.tape.trans h.k.2.2.2.1, hb.output.trans h.k.2.2.2.2⟩
  · exact (heap_setCell_other _ _ g2 _ (show g2 ≠ g3 from Nat.ne_of_lt h2)).trans ((hb.block g2 (Nat.lt_succ_of_lt h2)).trans h.r2)
  · rw [hl]
    have e := heap_setCell_same V g3 0 _ _ (.slice b' (L.length + 1) c2) r3
    rw [pc_set0] at e
    exact e
  · rw [hl]; exact own_grown ho hgr fun k e => by cases e; omega
theorem PDS.set (h : PDS g g2 g3 w b c' L O W) (hw : w.heap.size ≤ g3) (h2 : g2 < g3) {q : Nat} (hq : q < 48) (v : Int) : PDS g g2 g3 w b c' L (updI O q v) (W.setCell ⟨g3, 1 + q, none⟩ (.int .i8 v)) := by
  have hgr := grown_set (grown_refl W (some g3)) rfl (1 + q) (.int .i8 v)
  refine ⟨⟨by simpa using h.k.1, fun j hj hlj => (heap_setCell_other _ _ j _ (show j ≠ g3 from Nat.ne_of_lt (Nat.lt_of_lt_of_le hlj hw))).trans (h.k.2.1 j hj hlj), h.k.2.2.1, h.k.2.2.2.1, h.k.2.2.2.2⟩, (heap_setCell_other _ _ g2 _ (show g2 ≠ g3 from Nat.ne_of_lt h2)).trans h.r2, ?_, own_grown h.o hgr fun k e => by cases e; omega⟩
  have e := heap_setCell_same W g3 (1 + q) _ _ (.int .i8 v) h.r3
  rw [pc_setOS _ _ _ _ _ _ hq] at e
  exact e
end
section
variable {ops : Array Oper} {rest : List Oper} {a : Act} {w : World} {Q : Exit → Act → World → Prop}
/-- an empty programme is laid -/
theorem new_progS {o2 o3 : Oper} (hg2 : o2.guard = none) (hg3 : o3.guard = none) (h2 : o2.op = .alloc 51) (x y : Operand) (h3 : o3.op = .store 51 x y)
    (hx : (a.put o2.dst (.pointer (some ⟨w.heap.size, 0, none⟩))).eval x = .pointer (some ⟨w.heap.size, 0, none⟩)) (hy : (a.put o2.dst (.pointer (some ⟨w.heap.size, 0, none⟩))).eval y = .agg (#[.slice none 0 0] ++ Array.replicate 48 (Value.int .i8 0)))
    (h : ∀ W, Below w.heap.size w W → W.heap.size = w.heap.size + 1 → W.heap[w.heap.size]? = some (.cells (pc none 0 0 fun _ => 0) 51 (0, 0)) → wpList Try.prog ops Q rest ((a.put o2.dst (.pointer (some ⟨w.heap.size, 0, none⟩))).put o3.dst undef) W) :
    wpList Try.prog ops Q (o2 :: o3 :: rest) a w := copy_prog hg2 hg3 h2 x y h3 none 0 0 (fun _ => 0) hx (by rw [pc_zero]; exact hy) h
end
theorem results_prog1 {fn : Func} {p : Tmp} (h : fn.results = #[.cell p 51]) (tmps : Array Value) (w : World) (g T : Nat) (b : Option Addr) (n c : Nat) (O : Nat → Int)
    (hp : tmps.getD p undef = .pointer (some ⟨g, 0, none⟩)) (hg : w.heap[g]? = some (.cells (pc b n c O) T (0, 0))) : (results fn tmps).run Try.prog w = .ok (.agg (pc b n c O)) w := by
  have hp' : tmps[p]?.getD undef = .pointer (some ⟨g, 0, none⟩) := by simpa using hp
  simp [results, h, hp', asAddr, run_loadVar_row w g T 51 (pc b n c O) (0, 0) _ hg Try.underlying51 rfl (by rw [pc_size]; exact size_iprog)]
set_option maxRecDepth 100000 in
set_option maxHeartbeats 2000000 in
theorem progDrawn_any (g gf : Nat) (s : Int) (fv : Value) (a : Option Addr) (n c : Nat) (B : Nat → Int) (K : Nat) (w : World) (hK : K ≤ 900000) (hn : n ≤ 1000000000000) (hs : SrcAt w g a n c B K) (hss : 4 ≤ s ∧ s ≤ 17) (hgf : gf ≠ g) (hf : w.heap[gf]? = some (.cells #[.int .i16 s, fv] 27 (0, 0))) :
    Calls Try.prog 51 #[.pointer (some ⟨g, 0, none⟩), .pointer (some ⟨gf, 0, none⟩)] w fun e w' => (∃ b c' L O e2, e = .returned (.agg (pc b L.length c' O)) ∧ L.length ≤ 5 ∧ SecD s L e2 ∧ OrdD L.length O 48 ∧ OwnS w' w.heap.size (.slice b L.length c') L) ∧ SrcAt w' g a n c B (K + 200) ∧ KeepS g w w' := by
  have hgl := hs.lt
  have hgfw := row_lt hf
  have KB := kx_keep g w
  have KF := kx_row (g := g) hf hgf
  have HS := Lib.hid (hs.below ((Below.refl _ _).alloc (Nat.le_refl _) (.cells (pc none 0 0 fun _ => 0) 51)))
  have K2 := kx_row (g := g) (heap_alloc_new w (.cells (pc none 0 0 fun _ => 0) 51)) (by omega)
  have hsz1 : (w.alloc (.cells (pc none 0 0 fun _ => 0) 51)).heap.size = w.heap.size + 1 := by simp
  replace KB := KB.alloc (.cells (pc none 0 0 fun _ => 0) 51)
  replace KF := KF.alloc (.cells (pc none 0 0 fun _ => 0) 51)
  clear hs hf
  go_enter Try.func51, Try.ntmps51
  go_wp2_with (first | (refine new_progS rfl rfl rfl _ _ rfl rfl (by rfl) ?_; intro W2 hbn hsn hrn; have HBN := Lib.hid hbn; have HSN := Lib.hid hsn; have HRN := Lib.hid hrn; clear hbn hsn hrn) | (with_reducible refine alloc_iprog ?_ ?_ ?_; with_reducible rfl; with_reducible rfl) | fail)
  have hbn := HBN.out
  have hrn := HRN.out
  rw [hsz1] at hrn
  replace KB := KB.under hbn; replace KF := KF.under hbn; replace K2 := K2.under hbn
  have K3 := kx_row (g := g) hrn (by omega)
  have HS2 := Lib.hid (HS.out.below hbn)
  obtain ⟨g3, hg3⟩ : ∃ g3, w.heap.size + 1 = g3 := ⟨_, rfl⟩
  rw [hg3] at K3 ⊢
  have hlt3 : w.heap.size < g3 := by omega
  clear hbn hrn HBN HRN HSN HS hsz1 hg3
  refine (pick_any g a n c B K 3 W2 (by omega) hn (by omega) HS2.out).mono ?_
  rintro e w4 ⟨⟨v1, rfl, hv1⟩, hs4, hk4⟩
  have hv1 := hv1.lt (by omega)
  have HS4 := Lib.hid hs4
  replace KB := KB.on hk4
  replace KF := KF.on hk4
  replace K2 := K2.on hk4
  replace K3 := K3.on hk4
  clear hs4 hk4 HS2
  go_wp2_with fail
  refine (pick_any g a n c B (K + 2) 6 w4 (by omega) hn (by omega) HS4.out).mono ?_
  rintro e w5 ⟨⟨v2, rfl, hv2⟩, hs5, hk5⟩
  have hv2 := hv2.lt (by omega)
  obtain ⟨m0, rfl⟩ : ∃ m0 : Nat, v2 = m0 := ⟨v2.toNat, by omega⟩
  replace KB := KB.on hk5
  replace KF := KF.on hk5
  replace K2 := K2.on hk5
  replace K3 := K3.on hk5
  have hpd0 : PDS g w.heap.size g3 w none 0 [] (fun _ => 0) w5 := ⟨KB.here, K2.here, K3.here, OwnL.none0 _ _⟩
  have HPD := Lib.hid hpd0; have HS5 := Lib.hid hs5
  have HGF := Lib.hid hgfw
  clear hpd0 hs5 hk5 HS4 K2 K3 KB
  go_wp2
  go_loopw [6, 7] (fun at_ i W => ∃ (j : Nat) (L : List (Int × Int)) (b : Option Addr) (c' : Nat) (e : Int), i = .int .i64 j ∧ at_ = .int .i64 e ∧ e ≤ 19 ∧ L.length + j ≤ 5 ∧ SecD s L e ∧ PDS g w.heap.size g3 w b c' L (fun _ => 0) W ∧ SrcAt W g a n c B (K + 4 + 4 * L.length) ∧ W.cell? ⟨gf, 0, none⟩ = some (.int .i16 s)) (fun _ i _ => (intOf i).toNat)
  case atStart => exact ⟨m0, [], none, 0, v1, rfl, rfl, by omega, by simp; omega, SecD.nil hv1.1, HPD.out, HS5.out, row_cell 0 KF.here⟩
  case round =>
    clear HPD HS5
    obtain ⟨j, L, b, c', e, rfl, rfl, he, hj, hsd, hpd, hsr, hcf⟩ := hrel
    have HPDK := Lib.hid hpd.k.1
    have HSD := Lib.hid hsd; have KP := hpd.kx (by omega) (by omega); have HS := Lib.hid hsr
    clear hsd hpd hsr
    by_cases h0 : 0 < j
    · have h0' : (0 : Int) < j := by omega
      have q3 := i64_id (x := (j : Int) - 1) (by omega)
      go_wp2_with fail
      refine (pick_any g a n c B _ 5 wr (by omega) hn (by omega) HS.out).mono ?_
      rintro e' w6 ⟨⟨v3, rfl, hv3⟩, hs6, hk6⟩
      have hv3 := hv3.lt (by omega)
      have q4 := i64_id (x := 1 + v3) (by omega)
      have he0 := HSD.out.pos
      have q5 := i64_id (x := e + (1 + v3)) (by omega)
      have q6 := i64_id (x := s) (by omega)
      have hcf6 := hk6.cell hcf (show gf < _ from Nat.lt_of_lt_of_le HGF.out HPDK.out) hgf
      replace KP := KP.on hk6
      have HS6 := Lib.hid hs6
      clear hs6 hk6 HS hcf
      by_cases hbr : s < e + (1 + v3)
      · have HS := Lib.hid (HS6.out.more (show K + 4 + 4 * L.length + 2 ≤ K + 30 by omega))
        clear HS6
        have c0 := row_cell 0 KP.here.r3
        rw [pc_get0] at c0
        have hlen : L.length ≤ 5 := by omega
        have hgf0 := HGF.out
        obtain ⟨U, rfl⟩ : ∃ U, U = w6 := ⟨_, rfl⟩
        clear c0
        go_wp2
        go_loopw [9] (fun i W => ∃ (k : Nat) (O : Nat → Int), k ≤ 48 ∧ i = .int .i64 k ∧ OrdD L.length O k ∧ PDS g w.heap.size g3 w b c' L O W ∧ SrcAt W g a n c B (K + 30 + 2 * k)) (fun i _ => 48 - (intOf i).toNat)
        case atStart => exact ⟨0, fun _ => 0, by omega, rfl, OrdD.zero _, KP.here, HS.out.more (by omega)⟩
        case round =>
          clear KP HS
          obtain ⟨k, O, hk, rfl, hod, hpd, hsr⟩ := hrel
          have HOD := Lib.hid hod; have KP := hpd.kx (by omega) (by omega); have HS := Lib.hid hsr
          clear hod hpd hsr
          by_cases hlt : k < 48
          · have hk' : (k : Int) < 48 := by omega
            have c0 := row_cell 0 KP.here.r3
            rw [pc_get0] at c0
            have q8 := i64_id (x := (L.length : Int) + 1) (by omega)
            have q9 := i64_id (x := (k : Int) + 1) (by omega)
            go_wp2_with fail
            refine (pick_any g a n c B _ ((L.length : Int) + 1) wr (by omega) hn (by omega) HS.out).mono ?_
            rintro e' w8 ⟨⟨v5, rfl, hv5⟩, hs8, hk8⟩
            have hv5 := hv5.lt (by omega)
            replace KP := KP.on hk8
            have q10 := i64_id (x := v5 - 1) (by omega)
            have q11 := i8_idS (x := v5 - 1) (by omega)
            have e8 : w8.cell? ⟨g3, 1 + k, none⟩ = some (.int .i8 (O k)) := by rw [row_cell (1 + k) KP.here.r3, pc_get _ _ _ _ k hlt]
            have f8 := frozen_of_row w8 g3 (1 + k) _ _ KP.here.r3
            have HPD := Lib.hid (KP.here.set (by omega) (by omega) hlt (v5 - 1))
            have HS8 := Lib.hid (hs8.stay ((Below.refl (g + 1) w8).setCell (p := ⟨g3, 1 + k, none⟩) (show g + 1 ≤ g3 by omega) (.int .i8 (v5 - 1))))
            clear hs8 hk8 HS KP c0
            go_wp2
            go_roundw
            case rel => exact ⟨k + 1, updI O k (v5 - 1), by omega, by go_num, HOD.out.set (by omega) (by omega), HPD.out, HS8.out.more (by omega)⟩
            case measure => simp [intOf]; omega
          · have hk48 : k = 48 := by omega
            subst hk48
            have r3 := KP.here.r3
            have r2 := KP.here.r2
            have HPD := Lib.hid KP.here
            clear KP hlt
            go_wp2_with (first | (with_reducible refine load_iprog rfl _ rfl g3 rfl _ b L.length c' O r3 ?_) | (with_reducible refine store_iprog rfl _ _ rfl w.heap.size b L.length c' O rfl rfl _ none 0 0 (fun _ => 0) r2 ?_) | fail)
            have hbs : Below w.heap.size wr (wr.setRow w.heap.size (pc b L.length c' O)) := below_setRow (Below.refl _ _) (Nat.le_refl _) _
            refine bodyPost_ret (results_prog1 rfl _ _ w.heap.size _ b L.length c' O rfl (setRow_heap _ _ _ _ _ _ r2)) rfl ⟨⟨b, c', L, O, _, rfl, hlen, HSD.out, HOD.out, ?_⟩, (HS.out.stay (hbs.mono hgl)).more (by omega), HPD.out.k.trans' hbs⟩
            exact OwnS.mono (own_grown HPD.out.o (grown_setRowS wr w.heap.size _) fun k e => by cases e; omega) (by omega)
      · have c0 := row_cell 0 KP.here.r3
        rw [pc_get0] at c0
        have hsq : e + (1 + v3) ≤ s := by omega
        have he16 : -32768 ≤ e ∧ e ≤ 32767 := by omega
        have q7 := i16_idS he16
        have q8 := i16_idS (x := 1 + v3) (by omega)
        have HOA := Lib.hid (OwnL.alloc KP.here.o (.cells #[.int .i16 e, .int .i16 (1 + v3)] 56))
        have hg36 : g3 < w6.heap.size := row_lt KP.here.r3
        have HFA := Lib.hid (show Below (g3 + 1) w6 (w6.alloc (.cells #[.int .i16 e, .int .i16 (1 + v3)] 56)) from (Below.refl _ _).alloc hg36 _)
        have HSZ := Lib.hid (show g3 + 1 ≤ (w6.alloc (.cells #[.int .i16 e, .int .i16 (1 + v3)] 56)).heap.size from Nat.le_trans hg36 (by simp))
        have HLL := Lib.hid (show L.length + 1 ≤ 10000000 by omega)
        have HPD := Lib.hid KP.here
        have KF6 := Lib.hid hcf6
        have hs1 : e < s := by omega
        have HSD1 := HSD.out
        clear KP
        go_wp2_with (at_builtin; refine append_sections rfl _ _ rfl (g3 + 1) _ L rfl HOA.out ⟨w6.heap.size, 0, none⟩ 1 1 [(e, 1 + v3)] rfl rfl (one_cells (enc := encS) (heap_alloc_new w6 _)) HLL.out HSZ.out ?_; intro v9 w9 hown9 hb9; obtain ⟨b9, c9, hv9⟩ := OwnL.form hown9; subst hv9; have hb9' := HFA.out.trans hb9; rw [show (L ++ [(e, 1 + v3)]).length = L.length + 1 by rw [List.length_append]; rfl] at hown9 ⊢; have r39 := (hb9'.block g3 (Nat.lt_succ_self _)).trans HPD.out.r3; have f39 := frozen_of_row w9 g3 0 _ _ r39; have e39 := row_cell 0 r39; rw [pc_get0] at e39; have HP9 := Lib.hid (HPD.out.push (by omega) (by omega) (by omega) hb9' hown9); have HS9 := Lib.hid ((HS6.out.stay (hb9'.mono (show g + 1 ≤ g3 + 1 by omega))).stay ((Below.refl (g + 1) w9).setCell (p := ⟨g3, 0, none⟩) (show g + 1 ≤ g3 by omega) (.slice b9 (L.length + 1) c9))); have HC9 := Lib.hid ((((hb9'.mono (show w.heap.size ≤ g3 + 1 by omega)).setCell (p := ⟨g3, 0, none⟩) (show w.heap.size ≤ g3 by omega) (.slice b9 (L.length + 1) c9)).cell (p := ⟨gf, 0, none⟩) HGF.out).trans KF6.out); clear r39 hown9 hb9 hb9')
        refine (pick_any g a n c B _ 3 _ (by omega) hn (by omega) HS9.out).mono ?_
        rintro e' w10 ⟨⟨v6, rfl, hv6⟩, hs10, hk10⟩
        have hv6 := hv6.lt (by omega)
        have q9 := i64_id (x := 1 + v3 + v6) (by omega)
        have q10 := i64_id (x := e + (1 + v3 + v6)) (by omega)
        have KP9 := HP9.out.kx (by omega) (by omega)
        have hc10 := hk10.cell HC9.out (show gf < _ from Nat.lt_of_lt_of_le HGF.out HP9.out.k.1) hgf
        replace KP9 := KP9.on hk10
        have HS10 := Lib.hid hs10
        have HP10 := Lib.hid KP9.here
        have HC10 := Lib.hid hc10
        clear hs10 hk10 HS9 HP9 KP9 HC9 hc10
        go_wp2
        go_roundw
        case rel => exact ⟨j - 1, L ++ [(e, 1 + v3)], b9, c9, e + (1 + v3 + v6), by rw [show ((j - 1 : Nat) : Int) = (j : Int) - 1 by omega], rfl, by omega, by rw [List.length_append]; simp; omega, HSD1.snoc rfl hs1 (by omega) hsq (by omega), HP10.out, HS10.out.more (by rw [List.length_append]; simp; omega), HC10.out⟩
        case measure => simp [intOf]; omega
    · have h0' : ¬ (0 : Int) < j := by omega
      have HS := Lib.hid (HS.out.more (show K + 4 + 4 * L.length ≤ K + 30 by omega))
      have c0 := row_cell 0 KP.here.r3
      rw [pc_get0] at c0
      have hlen : L.length ≤ 5 := by omega
      have hgf0 := HGF.out
      obtain ⟨U, rfl⟩ : ∃ U, U = wr := ⟨_, rfl⟩
      clear c0
      go_wp2
      go_loopw [9] (fun i W => ∃ (k : Nat) (O : Nat → Int), k ≤ 48 ∧ i = .int .i64 k ∧ OrdD L.length O k ∧ PDS g w.heap.size g3 w b c' L O W ∧ SrcAt W g a n c B (K + 30 + 2 * k)) (fun i _ => 48 - (intOf i).toNat)
      case atStart => exact ⟨0, fun _ => 0, by omega, rfl, OrdD.zero _, KP.here, HS.out.more (by omega)⟩
      case round =>
        clear KP HS
        obtain ⟨k, O, hk, rfl, hod, hpd, hsr⟩ := hrel
        have HOD := Lib.hid hod; have KP := hpd.kx (by omega) (by omega); have HS := Lib.hid hsr
        clear hod hpd hsr
        by_cases hlt : k < 48
        · have hk' : (k : Int) < 48 := by omega
          have c0 := row_cell 0 KP.here.r3
          rw [pc_get0] at c0
          have q8 := i64_id (x := (L.length : Int) + 1) (by omega)
          have q9 := i64_id (x := (k : Int) + 1) (by omega)
          go_wp2_with fail
          refine (pick_any g a n c B _ ((L.length : Int) + 1) wr (by omega) hn (by omega) HS.out).mono ?_
          rintro e' w8 ⟨⟨v5, rfl, hv5⟩, hs8, hk8⟩
          have hv5 := hv5.lt (by omega)
          replace KP := KP.on hk8
          have q10 := i64_id (x := v5 - 1) (by omega)
          have q11 := i8_idS (x := v5 - 1) (by omega)
          have e8 : w8.cell? ⟨g3, 1 + k, none⟩ = some (.int .i8 (O k)) := by rw [row_cell (1 + k) KP.here.r3, pc_get _ _ _ _ k hlt]
          have f8 := frozen_of_row w8 g3 (1 + k) _ _ KP.here.r3
          have HPD := Lib.hid (KP.here.set (by omega) (by omega) hlt (v5 - 1))
          have HS8 := Lib.hid (hs8.stay ((Below.refl (g + 1) w8).setCell (p := ⟨g3, 1 + k, none⟩) (show g + 1 ≤ g3 by omega) (.int .i8 (v5 - 1))))
          clear hs8 hk8 HS KP c0
          go_wp2
          go_roundw
          case rel => exact ⟨k + 1, updI O k (v5 - 1), by omega, by go_num, HOD.out.set (by omega) (by omega), HPD.out, HS8.out.more (by omega)⟩
          case measure => simp [intOf]; omega
        · have hk48 : k = 48 := by omega
          subst hk48
          have r3 := KP.here.r3
          have r2 := KP.here.r2
          have HPD := Lib.hid KP.here
          clear KP hlt
          go_wp2_with (first | (with_reducible refine load_iprog rfl _ rfl g3 rfl _ b L.length c' O r3 ?_) | (with_reducible refine store_iprog rfl _ _ rfl w.heap.size b L.length c' O rfl rfl _ none 0 0 (fun _ => 0) r2 ?_) | fail)
          have hbs : Below w.heap.size wr (wr.setRow w.heap.size (pc b L.length c' O)) := below_setRow (Below.refl _ _) (Nat.le_refl _) _
          refine bodyPost_ret (results_prog1 rfl _ _ w.heap.size _ b L.length c' O rfl (setRow_heap _ _ _ _ _ _ r2)) rfl ⟨⟨b, c', L, O, _, rfl, hlen, HSD.out, HOD.out, ?_⟩, (HS.out.stay (hbs.mono hgl)).more (by omega), HPD.out.k.trans' hbs⟩
          exact OwnS.mono (own_grown HPD.out.o (grown_setRowS wr w.heap.size _) fun k e => by cases e; omega) (by omega)
set_option maxRecDepth 100000 in
theorem p6Programme_any (a : Option Addr) (n c : Nat) (B : Nat → Int) (s : Int) (fa : Option Addr) (fn fc : Nat) (w : World) (hn : n ≤ 1000000000000) (hu : U8 B) (hb : BytIn w w.heap.size a n B) (hss : 4 ≤ s ∧ s ≤ 17) :
    Calls Try.prog 23 #[.slice a n c, .agg #[.int .i16 s, .slice fa fn fc]] w fun e w' => (∃ b c' L O e2, e = .returned (.agg (pc b L.length c' O)) ∧ L.length ≤ 5 ∧ SecD s L e2 ∧ OrdD L.length O 48 ∧ OwnS w' w.heap.size (.slice b L.length c') L) ∧ Below w.heap.size w w' := by
  have KB := Kp.base w
  replace KB := KB.alloc (.cells #[.int .i16 s, .slice fa fn fc] 27)
  have KF := kp_new1 w #[.int .i16 s, .slice fa fn fc] 27 (g := w.heap.size) (by simp)
  replace KB := KB.alloc (.cells (pc none 0 0 fun _ => 0) 51)
  replace KF := KF.alloc (.cells (pc none 0 0 fun _ => 0) 51)
  have K2 := kp_new1 (w.alloc (.cells #[.int .i16 s, .slice fa fn fc] 27)) (pc none 0 0 fun _ => 0) 51 (g := w.heap.size + 1) (by simp)
  have HZ := Lib.hid (show ((w.alloc (.cells #[.int .i16 s, .slice fa fn fc] 27)).alloc (.cells (pc none 0 0 fun _ => 0) 51)).heap.size = w.heap.size + 1 + 1 by simp)
  go_enter Try.func23, Try.ntmps23
  go_wp2_with (first | (with_reducible refine alloc_iprog ?_ ?_ ?_; with_reducible rfl; with_reducible rfl) | fail)
  generalize ((w.alloc (.cells #[.int .i16 s, .slice fa fn fc] 27)).alloc (.cells (pc none 0 0 fun _ => 0) 51)) = W at KB KF K2 HZ ⊢
  have hsz : w.heap.size + 1 < W.heap.size := by have := HZ.out; omega
  have hbw := KB.here
  have hb2 := Lib.hid (show BytIn W W.heap.size a n B from fun h => by
    obtain ⟨ad, e, h1, h2⟩ := (hb.below hbw) h
    exact ⟨ad, e, Nat.lt_of_lt_of_le h1 hbw.size, h2⟩)
  clear hb HZ
  refine (l00From_any a n c B W hu hb2.out).mono ?_
  rintro e w2 ⟨rfl, hs2, hbw2⟩
  have HS2 := Lib.hid hs2
  replace KB := KB.on hbw2
  replace KF := KF.on hbw2
  replace K2 := K2.on hbw2
  clear hs2 hbw2 hb2
  go_wp2_with fail
  refine (progDrawn_any W.heap.size w.heap.size s (.slice fa fn fc) a n c B 0 w2 (by omega) hn HS2.out hss (by omega) KF.here).mono ?_
  rintro e w3 ⟨⟨b, c', L, O, e2, rfl, hl, hsd, hod, ho⟩, hs3, hk3⟩
  have r2 := hk3.row K2.here (by omega)
  have HO := Lib.hid ho; have HD := Lib.hid hsd; have HE := Lib.hid hod
  have hb4 := Lib.hid (KB.here.trans (hk3.below (B := w.heap.size) (by omega) (by have := KB.here.size; omega)))
  have HG2 := Lib.hid (row_lt K2.here)
  have hsz2 := KB.here.size
  clear ho hsd hod hs3 hk3 HS2 K2 KB KF hbw
  go_wp2_with (with_reducible refine store_iprog rfl _ _ rfl (w.heap.size + 1) b L.length c' O rfl rfl _ none 0 0 (fun _ => 0) r2 ?_)
  refine bodyPost_ret (results_prog1 rfl _ _ (w.heap.size + 1) _ b L.length c' O rfl (setRow_heap _ _ _ _ _ _ r2)) rfl ⟨⟨b, c', L, O, e2, rfl, hl, HD.out, HE.out, ?_⟩, below_setRow hb4.out (by omega) _⟩
  have hgw2 : w.heap.size + 1 < w2.heap.size := HG2.out
  exact OwnS.mono (own_grown HO.out (grown_setRowS w3 (w.heap.size + 1) _) fun k e => by cases e; exact hgw2) (Nat.le_trans (Nat.le_succ _) (Nat.le_of_lt hgw2))
end Go.Proofs.Ytlcfjeofphncgaa
