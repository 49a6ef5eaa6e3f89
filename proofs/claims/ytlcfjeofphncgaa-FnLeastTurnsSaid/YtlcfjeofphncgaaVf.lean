/- A frame that is drawn from bytes. No conditions. -/
import Derived.Test.YtlcfjeofphncgaaVs
import Derived.Test.YtlcfjeofphncgaaOwnH
import Derived.Test.YtlcfjeofphncgaaFrame2
import Derived.Test.YtlcfjeofphncgaaCost
import Derived.Outline
namespace Go.Proofs.Ytlcfjeofphncgaa
open Go.RowKit
set_option linter.unusedVariables false
set_option linter.unusedSimpArgs false

theorem kx_OwnL {α : Type} {T sz : Nat} {enc : α → List Value} {g : Nat} {w : World} {base : Nat} {v : Value} {l : List α} (h : OwnL T sz enc w base v l) (hg : g < base) : Kx g w (fun V => OwnL T sz enc V base v l) := Kx.mk fun _ hb => hb.grown h hg
/-- hammers that are drawn -/
def HamD (L : List (Int × Int)) : Prop := ∀ i, i < L.length → (22 ≤ (L.getD i (0, 0)).1 ∧ (L.getD i (0, 0)).1 ≤ 25) ∧ 1 ≤ (L.getD i (0, 0)).2 ∧ (L.getD i (0, 0)).2 ≤ 4
theorem HamD.nil : HamD [] := fun i h => absurd h (by simp)
theorem HamD.snoc {L : List (Int × Int)} {p r : Int} (h : HamD L) (hp : 22 ≤ p ∧ p ≤ 25) (hr : 1 ≤ r ∧ r ≤ 4) : HamD (L ++ [(p, r)]) := by
  intro i hi
  rw [List.length_append] at hi
  by_cases h1 : i < L.length
  · have := h i h1
    simpa [List.getD, List.getElem?_append_left h1] using this
  · have hi0 : i = L.length := by simp at hi; omega
    subst hi0
    simp [List.getD]; omega
theorem HamD.i8 {L : List (Int × Int)} (h : HamD L) : I8 (fun i => (L.getD i (0, 0)).1) ∧ I8 (fun i => (L.getD i (0, 0)).2) := by
  constructor <;> intro i
  · by_cases hi : i < L.length
    · have := (h i hi).1; show -128 ≤ (L.getD i (0, 0)).1 ∧ (L.getD i (0, 0)).1 ≤ 127; omega
    · simp [List.getD, List.getElem?_eq_none (Nat.le_of_not_lt hi)]
  · by_cases hi : i < L.length
    · have := (h i hi).2; show -128 ≤ (L.getD i (0, 0)).2 ∧ (L.getD i (0, 0)).2 ≤ 127; omega
    · simp [List.getD, List.getElem?_eq_none (Nat.le_of_not_lt hi)]
theorem HamD.frame {L : List (Int × Int)} {s : Int} (h : HamD L) (hs : 4 ≤ s ∧ s ≤ 17) (hl : 1 ≤ L.length ∧ L.length ≤ 5) : vFrame s L.length (fun i => (L.getD i (0, 0)).1) (fun i => (L.getD i (0, 0)).2) = true := by
  refine vFrame_iff.2 ⟨by omega, by omega, fun k hk => ?_⟩
  have h1 := h k hk
  refine hamOK_iff.2 ⟨by omega, h1.2.1, ?_⟩
  rw [mn_def]; split <;> omega
section
variable {ops : Array Oper} {rest : List Oper} {o : Oper} {a : Act} {w : World} {Q : Exit → Act → World → Prop}
theorem store_frameS (hgd : o.guard = none) (x y : Operand) (ho : o.op = .store 27 x y) (g : Nat) (s : Int) (v : Value) (hx : a.eval x = .pointer (some ⟨g, 0, none⟩)) (hy : a.eval y = .agg #[.int .i16 s, v]) (h1 : v.oneCell' = true) (T : Nat) (s0 : Int) (v0 : Value) (hg : w.heap[g]? = some (.cells #[.int .i16 s0, v0] T (0, 0)))
    (h : wpList Try.prog ops Q rest (a.put o.dst undef) (w.setRow g #[.int .i16 s, v])) : wpList Try.prog ops Q (o :: rest) a w :=
  wpList_store_row hgd _ x y ho g #[.int .i16 s, v] hx hy _ _ hg (by kernel_rfl) rfl (by rw [Array.all_eq_true]; intro i hi; match i, hi with | 0, _ => rfl | 1, _ => exact h1) h
end
theorem results_frame1 {fn : Func} {p : Tmp} (h : fn.results = #[.cell p 27]) (tmps : Array Value) (w : World) (g T : Nat) (s : Int) (u : Value)
    (hp : tmps.getD p undef = .pointer (some ⟨g, 0, none⟩)) (hg : w.heap[g]? = some (.cells #[.int .i16 s, u] T (0, 0))) : (results fn tmps).run Try.prog w = .ok (.agg #[.int .i16 s, u]) w := by
  have hp' : tmps[p]?.getD undef = .pointer (some ⟨g, 0, none⟩) := by simpa using hp
  simp [results, h, hp', asAddr, run_loadVar_row w g _ 27 #[.int .i16 s, u] (0, 0) _ hg Try.underlying27 rfl (by kernel_rfl)]
theorem grown_setRowS (w : World) (g : Nat) (cs : Array Value) : w.grownBy (w.setRow g cs) (some g) :=
  ⟨rfl, rfl, rfl, by simp, fun k _ hk => setRow_other w g k cs fun e => hk (by rw [e])⟩
/-- while it is drawn: the two boxes and the hammers -/
theorem KeepS.trans' {g : Nat} {w V U : World} (h : KeepS g w V) (hb : Below w.heap.size V U) : KeepS g w U :=
  ⟨Nat.le_trans h.1 hb.size, fun j a hj => (hb.block j hj).trans (h.2.1 j a hj), hb.os.trans h.2.2.1, hb.tape.trans h.2.2.2.1, hb.output.trans h.2.2.2.2⟩
structure FDS (g g2 g3 : Nat) (w : World) (s : Int) (b : Option Addr) (c' : Nat) (L : List (Int × Int)) (W : World) : Prop where
  k : KeepS g w W
  r2 : W.heap[g2]? = some (.cells #[.int .i16 0, .slice none 0 0] 27 (0, 0))
  r3 : W.heap[g3]? = some (.cells #[.int .i16 s, .slice b L.length c'] 27 (0, 0))
  o : OwnH W (g3 + 1) (.slice b L.length c') L
theorem FDS.kx {g g2 g3 : Nat} {w W : World} {s : Int} {b : Option Addr} {c' : Nat} {L : List (Int × Int)} (h : FDS g g2 g3 w s b c' L W) (h2 : g2 ≠ g) (h3 : g < g3) : Kx g W (FDS g g2 g3 w s b c' L) :=
  Kx.mk fun V hb => ⟨h.k.trans hb, hb.row h.r2 h2, hb.row h.r3 (by omega), hb.grown h.o (by omega)⟩
theorem own_other {w : World} {base size n x : Nat} {e : TypeId} {v : Value} {xs : List Value} (h : w.ownsRow base e size v n xs) (ho : ∀ k, v.ownBlock = some k → k ≠ x) (i : Nat) (u : Value) : (w.setCell ⟨x, i, none⟩ u).ownsRow base e size v n xs := by
  refine h.kept (grown_set (grown_refl w (some x)) rfl i u) ?_
  cases hv : v.ownBlock with
  | none => exact .inl rfl
  | some k => exact .inr fun e2 => ho k hv (by injection e2)
theorem FDS.other {g g2 g3 x : Nat} {w W : World} {s : Int} {b : Option Addr} {c' : Nat} {L : List (Int × Int)} (h : FDS g g2 g3 w s b c' L W) (hx : w.heap.size ≤ x) (h2 : g2 ≠ x) (h3 : g3 ≠ x) (ho : ∀ k, (Value.slice b L.length c').ownBlock = some k → k ≠ x) (i : Nat) (v : Value) : FDS g g2 g3 w s b c' L (W.setCell ⟨x, i, none⟩ v) :=
  ⟨⟨by have := h.k.1; simpa using this, fun j hj hlj => (heap_setCell_other _ _ j _ (show j ≠ x from Nat.ne_of_lt (Nat.lt_of_lt_of_le hlj hx))).trans (h.k.2.1 j hj hlj), h.k.2.2.1, h.k.2.2.2.1, h.k.2.2.2.2⟩, (heap_setCell_other _ _ g2 _ h2).trans h.r2, (heap_setCell_other _ _ g3 _ h3).trans h.r3, own_other h.o ho i v⟩
theorem FDS.own_lt {g g2 g3 : Nat} {w W : World} {s : Int} {b : Option Addr} {c' : Nat} {L : List (Int × Int)} (h : FDS g g2 g3 w s b c' L W) : ∀ k, (Value.slice b L.length c').ownBlock = some k → g3 + 1 ≤ k ∧ k < W.heap.size := OwnH.lt h.o
/-- a hammer more -/
theorem FDS.push {g g2 g3 : Nat} {w W V : World} {s : Int} {b b' : Option Addr} {c' c2 : Nat} {L : List (Int × Int)} {z : Int × Int} (h : FDS g g2 g3 w s b c' L W) (hg : g ≤ g3) (hw : w.heap.size ≤ g3) (h2 : g2 < g3) (hb : Below (g3 + 1) W V) (ho : OwnH V (g3 + 1) (.slice b' (L.length + 1) c2) (L ++ [z])) :
    FDS g g2 g3 w s b' c2 (L ++ [z]) (V.setCell ⟨g3, 1, none⟩ (.slice b' (L.length + 1) c2)) := by
  have r3 := (hb.block g3 (Nat.lt_succ_self _)).trans h.r3
  have hl : (L ++ [z]).length = L.length + 1 := by rw [List.length_append]; rfl
  have hgr := grown_set (grown_refl V (some g3)) rfl 1 (.slice b' (L.length + 1) c2)
  refine ⟨?_, ?_, ?_, ?_⟩
  · exact ⟨Nat.le_trans h.k.1 (by simpa using hb.size), fun j hj hlj => (heap_setCell_other _ _ j _ (show j ≠ g3 from Nat.ne_of_lt (Nat.lt_of_lt_of_le hlj hw))).trans ((hb.block j (Nat.lt_succ_of_lt (Nat.lt_of_lt_of_le hlj hw))).trans (h.k.2.1 j hj hlj)), hb.os.trans h.k.2.2.1, hb.tape.trans h.k.2.2.2.1, hb.output.trans h.k.2.2.2.2⟩
  · exact (heap_setCell_other _ _ g2 _ (show g2 ≠ g3 from Nat.ne_of_lt h2)).trans ((hb.block g2 (Nat.lt_succ_of_lt h2)).trans h.r2)
  · rw [hl]; exact heap_setCell_same V g3 1 _ _ _ r3
  · rw [hl]; exact own_grown ho hgr fun k e => by cases e; omega
set_option maxRecDepth 100000 in
set_option maxHeartbeats 1000000 in
theorem frameDrawn_any (g : Nat) (a : Option Addr) (n c : Nat) (B : Nat → Int) (K : Nat) (w : World) (hK : K ≤ 900000) (hn : n ≤ 1000000000000) (hs : SrcAt w g a n c B K) :
    Calls Try.prog 29 #[.pointer (some ⟨g, 0, none⟩)] w fun e w' => (∃ s b c' L, e = .returned (.agg #[.int .i16 s, .slice b L.length c']) ∧ (4 ≤ s ∧ s ≤ 17) ∧ (1 ≤ L.length ∧ L.length ≤ 5) ∧ HamD L ∧ OwnH w' w.heap.size (.slice b L.length c') L) ∧ SrcAt w' g a n c B (K + 100) ∧ KeepS g w w' := by
  have hgl := hs.lt
  have KB := kx_keep g w
  have HS := Lib.hid (hs.below ((Below.refl _ _).alloc (Nat.le_refl _) (.cells #[.int .i16 0, .slice none 0 0] 27)))
  clear hs
  replace KB := KB.alloc (.cells #[.int .i16 0, .slice none 0 0] 27)
  have K2 := kx_row (g := g) (heap_alloc_new w (.cells #[.int .i16 0, .slice none 0 0] 27)) (by omega)
  go_enter Try.func29, Try.ntmps29
  go_wp2_with fail
  generalize w.alloc (.cells #[.int .i16 0, .slice none 0 0] 27) = w1 at HS KB K2 ⊢
  refine (pick_any g a n c B K 14 w1 (by omega) hn (by omega) HS.out).mono ?_
  rintro e w2 ⟨⟨v1, rfl, hv1⟩, hs2, hk2⟩
  have hv1 := hv1.lt (by omega)
  have q1 := i64_id (x := 4 + v1) (by omega)
  have HS2 := Lib.hid hs2; clear hs2 HS
  replace KB := KB.on hk2
  replace K2 := K2.on hk2
  clear hk2
  go_wp2_with fail
  have K3 := kx_row (g := g) (heap_alloc_new w2 (.cells #[.int .i16 (4 + v1), .slice none 0 0] 27)) (by have := HS2.out.lt; omega)
  have HS3 := Lib.hid (HS2.out.below ((Below.refl _ _).alloc (Nat.le_refl _) (.cells #[.int .i16 (4 + v1), .slice none 0 0] 27)))
  have K2x := K2
  replace KB := KB.alloc (.cells #[.int .i16 (4 + v1), .slice none 0 0] 27)
  replace K2 := K2.alloc (.cells #[.int .i16 (4 + v1), .slice none 0 0] 27)
  have hg3 := HS2.out.lt
  have hg23 : w.heap.size < w2.heap.size := row_lt K2x.here
  clear HS2
  obtain ⟨g3, hg3e⟩ : ∃ g3, w2.heap.size = g3 := ⟨_, rfl⟩
  rw [hg3e] at K3 hg3 hg23 ⊢
  clear hg3e K2x
  generalize w2.alloc (.cells #[.int .i16 (4 + v1), .slice none 0 0] 27) = w3 at HS3 KB K2 K3 ⊢
  refine (pick_any g a n c B (K + 2) 5 w3 (by omega) hn (by omega) HS3.out).mono ?_
  rintro e w4 ⟨⟨v2, rfl, hv2⟩, hs4, hk4⟩
  have hv2 := hv2.lt (by omega)
  obtain ⟨m0, hm0⟩ : ∃ m0 : Nat, 1 + v2 = m0 := ⟨(1 + v2).toNat, by omega⟩
  have hm1 : 1 ≤ m0 ∧ m0 ≤ 5 := by omega
  have q2 := i64_id (x := 1 + v2) (by omega)
  rw [hm0] at q2
  replace KB := KB.on hk4
  replace K2 := K2.on hk4
  replace K3 := K3.on hk4
  have hfd0 : FDS g w.heap.size g3 w (4 + v1) none 0 [] w4 := ⟨KB.here, K2.here, K3.here, OwnL.none0 _ _⟩
  have HFD := Lib.hid hfd0; have HS4 := Lib.hid hs4
  clear hfd0 hs4 hk4 HS3 K2 K3 KB
  go_wp2
  go_loopw [4] (fun i W => ∃ (j : Nat) (L : List (Int × Int)) (b : Option Addr) (c' : Nat), i = .int .i64 j ∧ L.length + j = m0 ∧ HamD L ∧ FDS g w.heap.size g3 w (4 + v1) b c' L W ∧ SrcAt W g a n c B (K + 4 + 4 * L.length)) (fun i _ => (intOf i).toNat)
  case atStart => exact ⟨m0, [], none, 0, rfl, by simp, HamD.nil, HFD.out, HS4.out⟩
  case round =>
    clear HFD HS4
    obtain ⟨j, L, b, c', rfl, hj, hham, hfd, hsr⟩ := hrel
    have HH := Lib.hid hham; have KF := hfd.kx (by omega) hg3; have HS := Lib.hid hsr
    clear hham hfd hsr
    by_cases h0 : 0 < j
    · have h0' : (0 : Int) < j := by omega
      have q3 := i64_id (x := (j : Int) - 1) (by omega)
      go_wp2_with fail
      refine (pick_any g a n c B _ 4 wr (by omega) hn (by omega) HS.out).mono ?_
      rintro e w5 ⟨⟨v3, rfl, hv3⟩, hs5, hk5⟩
      have hv3 := hv3.lt (by omega)
      have q4 := i64_id (x := 22 + v3) (by omega)
      have HS5 := Lib.hid hs5
      replace KF := KF.on hk5
      clear hs5 hk5 HS
      have hoB := Lib.hid (fun k hk => Nat.ne_of_lt (KF.here.own_lt k hk).2)
      have K5 := kx_row (g := g) (heap_alloc_new w5 (.cells #[.int .i8 (22 + v3), .int .i8 0] 99)) (by have := HS5.out.lt; omega)
      have HS6 := Lib.hid (HS5.out.below ((Below.refl _ _).alloc (Nat.le_refl _) (.cells #[.int .i8 (22 + v3), .int .i8 0] 99)))
      have hg35 : g3 < w5.heap.size := row_lt KF.here.r3
      have hg5 := HS5.out.lt
      replace KF := KF.alloc (.cells #[.int .i8 (22 + v3), .int .i8 0] 99)
      go_wp2_with fail
      obtain ⟨g5, hg5e⟩ : ∃ g5, w5.heap.size = g5 := ⟨_, rfl⟩
      rw [hg5e] at K5 hg5 hg35 hoB ⊢
      clear hg5e HS5
      generalize w5.alloc (.cells #[.int .i8 (22 + v3), .int .i8 0] 99) = w6 at HS6 KF K5 ⊢
      refine (pick_any g a n c B _ 4 w6 (by omega) hn (by omega) HS6.out).mono ?_
      rintro e w7 ⟨⟨v4, rfl, hv4⟩, hs7, hk7⟩
      have hv4 := hv4.lt (by omega)
      have q5 := i64_id (x := 1 + v4) (by omega)
      replace KF := KF.on hk7
      replace K5 := K5.on hk7
      have HS7 := Lib.hid (hs7.stay ((Below.refl (g + 1) w7).setCell (p := ⟨g5, 1, none⟩) hg5 (.int .i8 (1 + v4))))
      have f5 := frozen_of_row w7 g5 1 _ _ K5.here
      have e5 := row_cell 1 K5.here
      have r5 := heap_setCell_same w7 g5 1 _ _ (.int .i8 (1 + v4)) K5.here
      have HF7 := Lib.hid (KF.here.other (x := g5) (by omega) (by omega) (by omega) hoB.out 1 (.int .i8 (1 + v4)))
      have c3 := row_cell 1 HF7.out.r3
      have d0 := row_cell 0 r5
      have d1 := row_cell 1 r5
      have hsz7 : g3 + 1 ≤ (w7.setCell ⟨g5, 1, none⟩ (.int .i8 (1 + v4))).heap.size := row_lt HF7.out.r3
      have HOA := Lib.hid (OwnH.alloc HF7.out.o (.cells #[.int .i8 (22 + v3), .int .i8 (1 + v4)] 99))
      have HFA := Lib.hid (show Below (g3 + 1) (w7.setCell ⟨g5, 1, none⟩ (.int .i8 (1 + v4))) ((w7.setCell ⟨g5, 1, none⟩ (.int .i8 (1 + v4))).alloc (.cells #[.int .i8 (22 + v3), .int .i8 (1 + v4)] 99)) from (Below.refl _ _).alloc hsz7 _)
      clear hs7 hk7 HS6 KF K5 r5
      have q3' := i64_id (x := (j : Int) - 1) (by omega)
      have HRA := Lib.hid (show ((w7.setCell ⟨g5, 1, none⟩ (.int .i8 (1 + v4))).alloc (.cells #[.int .i8 (22 + v3), .int .i8 (1 + v4)] 99)).heap[w7.heap.size]? = some (.cells (encH (22 + v3, 1 + v4)).toArray 99 (0, 0)) by
        have h := heap_alloc_new (w7.setCell ⟨g5, 1, none⟩ (.int .i8 (1 + v4))) (.cells #[.int .i8 (22 + v3), .int .i8 (1 + v4)] 99)
        rw [show (w7.setCell ⟨g5, 1, none⟩ (.int .i8 (1 + v4))).heap.size = w7.heap.size by simp] at h
        exact h)
      have HSZ := Lib.hid (show g3 + 1 ≤ ((w7.setCell ⟨g5, 1, none⟩ (.int .i8 (1 + v4))).alloc (.cells #[.int .i8 (22 + v3), .int .i8 (1 + v4)] 99)).heap.size from Nat.le_trans hsz7 (by simp))
      have HLL := Lib.hid (show L.length + 1 ≤ 10000000 by omega)
      go_wp2_with (at_builtin; refine append_hammers rfl _ _ rfl (g3 + 1) _ L rfl HOA.out ⟨w7.heap.size, 0, none⟩ 1 1 [(22 + v3, 1 + v4)] rfl rfl (one_cells (enc := encH) HRA.out) HLL.out HSZ.out ?_; intro v9 w9 hown9 hb9; obtain ⟨b9, c9, hv9⟩ := OwnL.form hown9; subst hv9; have hb9' := HFA.out.trans hb9; rw [show (L ++ [(22 + v3, 1 + v4)]).length = L.length + 1 by rw [List.length_append]; rfl] at hown9 ⊢; have r39 := (hb9'.block g3 (Nat.lt_succ_self _)).trans HF7.out.r3; have f39 := frozen_of_row w9 g3 1 _ _ r39; have e39 := row_cell 1 r39; have HF9 := Lib.hid (HF7.out.push (Nat.le_of_lt hg3) (Nat.le_of_lt hg23) hg23 hb9' hown9); have HS9 := Lib.hid ((HS7.out.stay (hb9'.mono (Nat.succ_le_succ (Nat.le_of_lt hg3)))).stay ((Below.refl (g + 1) w9).setCell (p := ⟨g3, 1, none⟩) hg3 (.slice b9 (L.length + 1) c9))); clear r39 hown9 hb9 hb9')
      go_roundw
      case rel => exact ⟨j - 1, L ++ [(22 + v3, 1 + v4)], b9, c9, by rw [show ((j - 1 : Nat) : Int) = (j : Int) - 1 by omega], by rw [List.length_append]; simp; omega, HH.out.snoc (by omega) (by omega), HF9.out, HS9.out.more (by rw [List.length_append]; simp; omega)⟩
      case measure => simp [intOf]; omega
    · have hj0 : j = 0 := by omega
      subst hj0
      have r3 := KF.here.r3
      have r2 := KF.here.r2
      have c3 := row_cell 0 r3
      have c4 := row_cell 1 r3
      have HKF := Lib.hid KF.here
      clear h0 KF
      go_wp2_with (first | (with_reducible refine load_iframe rfl _ rfl g3 rfl _ (4 + v1) b L.length c' r3 ?_) | (with_reducible refine store_frameS rfl _ _ rfl w.heap.size (4 + v1) (.slice b L.length c') rfl rfl rfl _ 0 (.slice none 0 0) r2 ?_) | fail)
      have hbs : Below w.heap.size wr (wr.setRow w.heap.size #[.int .i16 (4 + v1), .slice b L.length c']) := below_setRow (Below.refl _ _) (Nat.le_refl _) _
      refine bodyPost_ret (results_frame1 rfl _ _ w.heap.size _ (4 + v1) (.slice b L.length c') rfl (setRow_heap _ _ _ _ _ _ r2)) rfl ⟨⟨4 + v1, b, c', L, rfl, by omega, by omega, HH.out, ?_⟩, (HS.out.stay (hbs.mono hgl)).more (by omega), HKF.out.k.trans' hbs⟩
      exact OwnH.mono (own_grown HKF.out.o (grown_setRowS wr w.heap.size _) fun k e => by cases e; omega) (by omega)
set_option maxRecDepth 100000 in
theorem drawFrame_22_any (a : Option Addr) (n c : Nat) (B : Nat → Int) (w : World) (hn : n ≤ 1000000000000) (hu : U8 B) (hb : BytIn w w.heap.size a n B) :
    Calls Try.prog 22 #[.slice a n c] w fun e w' => (∃ s b c' L, e = .returned (.agg #[.int .i16 s, .slice b L.length c']) ∧ (4 ≤ s ∧ s ≤ 17) ∧ (1 ≤ L.length ∧ L.length ≤ 5) ∧ HamD L ∧ OwnH w' w.heap.size (.slice b L.length c') L) ∧ Below w.heap.size w w' := by
  have hb1 := Lib.hid ((Below.refl w.heap.size w).alloc (Nat.le_refl _) (.cells #[.int .i16 0, .slice none 0 0] 27))
  have K2 := kp_new w #[.int .i16 0, .slice none 0 0] 27
  have hb2 := Lib.hid (show BytIn (w.alloc (.cells #[.int .i16 0, .slice none 0 0] 27)) (w.alloc (.cells #[.int .i16 0, .slice none 0 0] 27)).heap.size a n B from fun h => by
    obtain ⟨ad, e, h1, h2⟩ := (hb.below hb1.out) h
    exact ⟨ad, e, Nat.lt_of_lt_of_le h1 hb1.out.size, h2⟩)
  have hsz : w.heap.size < (w.alloc (.cells #[.int .i16 0, .slice none 0 0] 27)).heap.size := by simp
  clear hb
  go_enter Try.func22, Try.ntmps22
  go_wp2_with fail
  generalize w.alloc (.cells #[.int .i16 0, .slice none 0 0] 27) = w1 at hb1 hb2 K2 hsz ⊢
  refine (l00From_any a n c B w1 hu hb2.out).mono ?_
  rintro e w2 ⟨rfl, hs2, hbw2⟩
  have HS2 := Lib.hid hs2
  replace K2 := K2.on hbw2
  have hb3 := Lib.hid (hb1.out.trans (hbw2.mono hb1.out.size))
  clear hs2 hbw2 hb2 hb1
  go_wp2_with fail
  refine (frameDrawn_any w1.heap.size a n c B 0 w2 (by omega) hn HS2.out).mono ?_
  rintro e w3 ⟨⟨s, b, c', L, rfl, hs1, hl1, hd, ho⟩, hs3, hk3⟩
  have r2 := hk3.row K2.here (by omega)
  have HO := Lib.hid ho; have HD := Lib.hid hd
  have hb4 := Lib.hid (hb3.out.trans (hk3.below (Nat.le_of_lt hsz) hb3.out.size))
  have hsz2 := hb3.out.size
  have HG2 := Lib.hid (row_lt K2.here)
  clear ho hd hs3 hk3 hb3 HS2 K2
  go_wp2_with (with_reducible refine store_frameS rfl _ _ rfl w.heap.size s (.slice b L.length c') rfl rfl rfl _ 0 (.slice none 0 0) r2 ?_)
  refine bodyPost_ret (results_frame1 rfl _ _ w.heap.size _ s (.slice b L.length c') rfl (setRow_heap _ _ _ _ _ _ r2)) rfl ⟨⟨s, b, c', L, rfl, hs1, hl1, HD.out, ?_⟩, below_setRow hb4.out (Nat.le_refl _) _⟩
  have hgw2 : w.heap.size < w2.heap.size := HG2.out
  exact OwnH.mono (own_grown HO.out (grown_setRowS w3 w.heap.size _) fun k e => by cases e; exact hgw2) (by omega)
set_option maxRecDepth 100000 in
theorem drawFrame_6_any (a : Option Addr) (n c : Nat) (B : Nat → Int) (w : World) (hn : n ≤ 1000000000000) (hu : U8 B) (hb : BytIn w w.heap.size a n B) :
    Calls Try.prog 6 #[.slice a n c] w fun e w' => (∃ s b c' L, e = .returned (.agg #[.int .i16 s, .slice b L.length c']) ∧ (4 ≤ s ∧ s ≤ 17) ∧ (1 ≤ L.length ∧ L.length ≤ 5) ∧ HamD L ∧ OwnH w' w.heap.size (.slice b L.length c') L) ∧ Below w.heap.size w w' := by
  have hb1 := Lib.hid ((Below.refl w.heap.size w).alloc (Nat.le_refl _) (.cells #[.int .i16 0, .slice none 0 0] 27))
  have K2 := kp_new w #[.int .i16 0, .slice none 0 0] 27
  have hb2 := Lib.hid (show BytIn (w.alloc (.cells #[.int .i16 0, .slice none 0 0] 27)) (w.alloc (.cells #[.int .i16 0, .slice none 0 0] 27)).heap.size a n B from fun h => by
    obtain ⟨ad, e, h1, h2⟩ := (hb.below hb1.out) h
    exact ⟨ad, e, Nat.lt_of_lt_of_le h1 hb1.out.size, h2⟩)
  have hsz : w.heap.size < (w.alloc (.cells #[.int .i16 0, .slice none 0 0] 27)).heap.size := by simp
  clear hb
  go_enter Try.func6, Try.ntmps6
  go_wp2_with fail
  generalize w.alloc (.cells #[.int .i16 0, .slice none 0 0] 27) = w1 at hb1 hb2 K2 hsz ⊢
  refine (l00From_any a n c B w1 hu hb2.out).mono ?_
  rintro e w2 ⟨rfl, hs2, hbw2⟩
  have HS2 := Lib.hid hs2
  replace K2 := K2.on hbw2
  have hb3 := Lib.hid (hb1.out.trans (hbw2.mono hb1.out.size))
  clear hs2 hbw2 hb2 hb1
  go_wp2_with fail
  refine (frameDrawn_any w1.heap.size a n c B 0 w2 (by omega) hn HS2.out).mono ?_
  rintro e w3 ⟨⟨s, b, c', L, rfl, hs1, hl1, hd, ho⟩, hs3, hk3⟩
  have r2 := hk3.row K2.here (by omega)
  have HO := Lib.hid ho; have HD := Lib.hid hd
  have hb4 := Lib.hid (hb3.out.trans (hk3.below (Nat.le_of_lt hsz) hb3.out.size))
  have hsz2 := hb3.out.size
  have HG2 := Lib.hid (row_lt K2.here)
  clear ho hd hs3 hk3 hb3 HS2 K2
  go_wp2_with (with_reducible refine store_frameS rfl _ _ rfl w.heap.size s (.slice b L.length c') rfl rfl rfl _ 0 (.slice none 0 0) r2 ?_)
  refine bodyPost_ret (results_frame1 rfl _ _ w.heap.size _ s (.slice b L.length c') rfl (setRow_heap _ _ _ _ _ _ r2)) rfl ⟨⟨s, b, c', L, rfl, hs1, hl1, HD.out, ?_⟩, below_setRow hb4.out (Nat.le_refl _) _⟩
  have hgw2 : w.heap.size < w2.heap.size := HG2.out
  exact OwnH.mono (own_grown HO.out (grown_setRowS w3 w.heap.size _) fun k e => by cases e; exact hgw2) (by omega)
end Go.Proofs.Ytlcfjeofphncgaa
