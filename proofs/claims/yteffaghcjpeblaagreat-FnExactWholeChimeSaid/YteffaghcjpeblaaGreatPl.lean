/- The notes that the pins of some steps play are listed. No conditions. -/
import Derived.Test.YteffaghcjpeblaaGreatCl
import Derived.Test.YteffaghcjpeblaaGreatSo
import Derived.Test.YteffaghcjpeblaaGreatAg
import Derived.Test.YteffaghcjpeblaaGreatMd
import Derived.Test.YteffaghcjpeblaaGreatOwnN
import Derived.Outline
namespace Go.Proofs.YteffaghcjpeblaaGreat
open Go.RowKit
set_option linter.unusedVariables false
set_option linter.unusedSimpArgs false

theorem i16_idP {x : Int} (h : -32768 ≤ x ∧ x ≤ 32767) : IntKind.i16.wrap x = x := by simp [IntKind.wrap, IntKind.bits, IntKind.signed]; omega
/-- the pin lies in the steps that are played -/
def plP (D : Nat → Nat) (fr st : Int) (k t : Nat) : Bool := hasPin D k t && inB k fr (fr + st - 1)
theorem plP_def (D : Nat → Nat) (fr st : Int) (k t : Nat) : plP D fr st k t = (hasPin D k t && inB k fr (fr + st - 1)) := rfl
theorem plP_no {D : Nat → Nat} {fr st : Int} {k t : Nat} (h : hasPin D k t = false) : plP D fr st k t = false := by unfold plP; rw [h]; rfl
theorem plP_yes {D : Nat → Nat} {fr st : Int} {k t : Nat} (h : hasPin D k t = true) : plP D fr st k t = inB k fr (fr + st - 1) := by unfold plP; rw [h]; rfl
attribute [irreducible] plP
/-- the note that a pin plays -/
def ntP (P : Nat → Int) (fr : Int) (z : Int × Int) : Int × Int := (z.1 - fr, P z.2.toNat)
def ntL (P : Nat → Int) (fr : Int) (l : List (Int × Int)) : List (Int × Int) := l.map (ntP P fr)
theorem ntL_nil (P : Nat → Int) (fr : Int) : ntL P fr [] = [] := rfl
theorem ntL_len (P : Nat → Int) (fr : Int) (l : List (Int × Int)) : (ntL P fr l).length = l.length := by simp [ntL]
theorem ntL_adB (P : Nat → Int) (fr : Int) (b : Bool) (k t : Nat) (l : List (Int × Int)) : ntL P fr (adB b ((k : Int), (t : Int)) l) = adB b ((k : Int) - fr, P t) (ntL P fr l) := by
  cases b
  · rw [adB_no, adB_no]
  · rw [adB_yes, adB_yes]; simp [ntL, ntP]
theorem ntL_mem (P : Nat → Int) (fr : Int) (l : List (Int × Int)) (z : Int × Int) : z ∈ ntL P fr l ↔ ∃ y ∈ l, z = (y.1 - fr, P y.2.toNat) := by
  unfold ntL
  rw [List.mem_map]
  constructor
  · rintro ⟨y, hy, rfl⟩; exact ⟨y, hy, rfl⟩
  · rintro ⟨y, hy, rfl⟩; exact ⟨y, hy, rfl⟩
attribute [irreducible] ntL ntP
set_option maxRecDepth 100000 in
set_option maxHeartbeats 1000000 in
theorem played1_any (gr gs go gf base : Nat) (fr st : Int) (m : Nat) (a : Option Addr) (n c : Nat) (P R : Nat → Int) (v : Value) (l : List (Int × Int)) (k t : Nat) (W : World) (hm : 2 ≤ m ∧ m ≤ 96) (hn : n ≤ 24) (hk : k < m) (ht : t < n) (hfr : 0 ≤ fr ∧ fr ≤ 1000) (hst : 0 ≤ st ∧ st ≤ 1000) (hP : I8 P)
    (hgr : W.heap[gr]? = some (.cells #[.int .i64 fr] 2 (0, 0))) (hgs : W.heap[gs]? = some (.cells #[.int .i64 st] 2 (0, 0)))
    (hgo : W.heap[go]? = some (.cells #[v] 38 (0, 0))) (hown : OwnN W base v l) (hl : l.length ≤ 10000) (hbase : base ≤ W.heap.size) (hf : W.heap[gf]? = some (.cells #[.int .i16 (m : Int), .slice a n c] 36 (0, 0))) (hh : HamAt W a n P R) (hab : ∀ ad, a = some ad → ad.block < base) (hgob : base ≤ go) :
    Calls Tryz.prog 117 #[.int .i64 (k : Int), .int .i64 (t : Int), .pointer (some ⟨gr, 0, none⟩), .pointer (some ⟨gs, 0, none⟩), .pointer (some ⟨go, 0, none⟩), .pointer (some ⟨gf, 0, none⟩)] W fun e W' => e = .returned (.tuple #[]) ∧ KeepT 75 38 W W' ∧ (∀ B, B ≤ base → B ≤ go → Below B W W') ∧ ∃ v', W'.heap[go]? = some (.cells #[v'] 38 (0, 0)) ∧ OwnN W' base v' (adB (inB k fr (fr + st - 1)) ((k : Int) - fr, P t) l) := by
  obtain ⟨b, c1, rfl⟩ := OwnL.form hown
  have r0 := row_cell 0 hgr; have s0 := row_cell 0 hgs
  have HGO := Lib.hid hgo; have HOWN := Lib.hid hown; have HL := Lib.hid hl; have HB := Lib.hid hbase; have HF := Lib.hid hf; have HGR := Lib.hid (row_lt hgr); have HGRR := Lib.hid hgr; have HGOB := Lib.hid hgob
  clear hgo hown hf hgr hgs
  obtain ⟨gh, off, rfl, hgh, hcell⟩ := hh.get (show 0 < n by omega)
  have c2 := (hcell t ht).1
  have HAB := Lib.hid (hab _ rfl)
  clear hcell hh hab
  obtain ⟨nl, hnl⟩ : ∃ n, l.length = n := ⟨_, rfl⟩
  rw [hnl] at HGO HOWN hl
  have HN := Lib.hid hnl; clear hnl
  have q1 := i64_id (x := fr + st) (by omega)
  have q2 := i64_id (x := fr + st - 1) (by omega)
  have hPt := hP t
  go_enter Tryz.func117, Tryz.ntmps117
  cases hc : inB k fr (fr + st - 1)
  · have HC := Lib.hid hc
    go_wp2_with (go_at_call 79; refine (within_any _ _ _ _).mono ?_; rw [hc]; rintro e w' ⟨rfl, rfl⟩)
    go_end0
    exact ⟨rfl, KeepT.refl _ _ _, fun B _ _ => Below.refl _ _, _, HGO.out, by rw [adB_no]; exact HOWN.out⟩
  · have HC := Lib.hid hc
    have hin := inB_iff.1 hc
    have q3 := i64_id (x := (k : Int) - fr) (by omega)
    have q4 := i16_idP (x := (k : Int) - fr) (by omega)
    have ht' : (t : Int) < n := by omega
    have f1 := row_cell 1 HF.out
    have g0 := row_cell 0 HGO.out
    go_wp2_with (go_at_call 79; refine (within_any _ _ _ _).mono ?_; rw [hc]; rintro e w' ⟨rfl, rfl⟩)
    have hS0 : (fun V : World => V.cell? ⟨gr, 0, none⟩ = some (.int .i64 fr) ∧ V.heap[gf]? = some (.cells #[.int .i16 (m : Int), .slice (some ⟨gh, off, none⟩) n c] 36 (0, 0)) ∧ V.cell? ⟨gh, off + t * 2, none⟩ = some (.int .i8 (P t))) W.drew := ⟨r0, HF.out, c2⟩
    refine wp_region_S (fun V : World => V.cell? ⟨gr, 0, none⟩ = some (.int .i64 fr) ∧ V.heap[gf]? = some (.cells #[.int .i16 (m : Int), .slice (some ⟨gh, off, none⟩) n c] 36 (0, 0)) ∧ V.cell? ⟨gh, off + t * 2, none⟩ = some (.int .i8 (P t))) (by kernel_rfl) hS0 ?_
    refine take_val 1 (.int .i64 (k : Int)) rfl (by kernel_rfl) (by kernel_rfl) (by kernel_rfl) (fun _ _ _ h => h) rfl (fun V hV => by simp [go_sem]) hS0 ?_
    simp only [List.getElem_toArray, List.getElem_cons_zero, List.getElem_cons_succ, Act.put, List.setIfInBounds_toArray, List.set_cons_zero, List.set_cons_succ]
    refine take_val 2 (.int .i64 fr) rfl (by kernel_rfl) (by kernel_rfl) (by kernel_rfl) (fun _ _ _ h => h) rfl (fun V hV => by have h := hV.1; simp [go_sem, h]) hS0 ?_
    simp only [List.getElem_toArray, List.getElem_cons_zero, List.getElem_cons_succ, Act.put, List.setIfInBounds_toArray, List.set_cons_zero, List.set_cons_succ]
    refine take_val 3 (.int .i64 ((k : Int) - fr)) rfl (by kernel_rfl) (by kernel_rfl) (by kernel_rfl) (fun _ _ _ h => h) rfl (fun V hV => by simp [go_sem, q3]) hS0 ?_
    simp only [List.getElem_toArray, List.getElem_cons_zero, List.getElem_cons_succ, Act.put, List.setIfInBounds_toArray, List.set_cons_zero, List.set_cons_succ]
    refine take_val 4 (.int .i16 ((k : Int) - fr)) rfl (by kernel_rfl) (by kernel_rfl) (by kernel_rfl) (fun _ _ _ h => h) rfl (fun V hV => by simp [go_sem, q4]) hS0 ?_
    simp only [List.getElem_toArray, List.getElem_cons_zero, List.getElem_cons_succ, Act.put, List.setIfInBounds_toArray, List.set_cons_zero, List.set_cons_succ]
    refine take_val 5 (.pointer (some ⟨gf, 1, none⟩)) rfl (by kernel_rfl) (by kernel_rfl) (by kernel_rfl) (fun _ _ _ h => h) rfl (fun V hV => by simp [go_sem]) hS0 ?_
    simp only [List.getElem_toArray, List.getElem_cons_zero, List.getElem_cons_succ, Act.put, List.setIfInBounds_toArray, List.set_cons_zero, List.set_cons_succ]
    refine take_val 6 (.slice (some ⟨gh, off, none⟩) n c) rfl (by kernel_rfl) (by kernel_rfl) (by kernel_rfl) (fun _ _ _ h => h) rfl (fun V hV => by have h := row_cell 1 hV.2.1; simp [go_sem, h]) hS0 ?_
    simp only [List.getElem_toArray, List.getElem_cons_zero, List.getElem_cons_succ, Act.put, List.setIfInBounds_toArray, List.set_cons_zero, List.set_cons_succ]
    refine take_val 7 (.int .i64 (t : Int)) rfl (by kernel_rfl) (by kernel_rfl) (by kernel_rfl) (fun _ _ _ h => h) rfl (fun V hV => by simp [go_sem]) hS0 ?_
    simp only [List.getElem_toArray, List.getElem_cons_zero, List.getElem_cons_succ, Act.put, List.setIfInBounds_toArray, List.set_cons_zero, List.set_cons_succ]
    refine take_val 8 (.pointer (some ⟨gh, off + t * 2, none⟩)) rfl (by kernel_rfl) (by kernel_rfl) (by kernel_rfl) (fun _ _ _ h => h) rfl (fun V hV => by simp [go_sem, ht, ht']) hS0 ?_
    simp only [List.getElem_toArray, List.getElem_cons_zero, List.getElem_cons_succ, Act.put, List.setIfInBounds_toArray, List.set_cons_zero, List.set_cons_succ]
    refine take_val 9 (.pointer (some ⟨gh, off + t * 2, none⟩)) rfl (by kernel_rfl) (by kernel_rfl) (by kernel_rfl) (fun _ _ _ h => h) rfl (fun V hV => by simp [go_sem]) hS0 ?_
    simp only [List.getElem_toArray, List.getElem_cons_zero, List.getElem_cons_succ, Act.put, List.setIfInBounds_toArray, List.set_cons_zero, List.set_cons_succ]
    refine take_val 10 (.int .i8 (P t)) rfl (by kernel_rfl) (by kernel_rfl) (by kernel_rfl) (fun _ _ _ h => h) rfl (fun V hV => by have h := hV.2.2; simp [go_sem, h]) hS0 ?_
    simp only [List.getElem_toArray, List.getElem_cons_zero, List.getElem_cons_succ, Act.put, List.setIfInBounds_toArray, List.set_cons_zero, List.set_cons_succ]
    refine take_val 11 (.agg #[.int .i16 ((k : Int) - fr), .int .i8 (P t)]) rfl (by kernel_rfl) (by kernel_rfl) (by kernel_rfl) (fun _ _ _ h => h) rfl (fun V hV => by simp [go_sem]) hS0 ?_
    simp only [List.getElem_toArray, List.getElem_cons_zero, List.getElem_cons_succ, Act.put, List.setIfInBounds_toArray, List.set_cons_zero, List.set_cons_succ]
    have hne : ∀ {x : Nat} {cs : Array Value} {T : Nat} {f : Nat × Nat}, W.heap[x]? = some (.cells cs T f) → W.drew.heap[x]? = some (.cells cs T f) := fun h => h
    have hS1 : (fun V : World => V.cell? ⟨gr, 0, none⟩ = some (.int .i64 fr) ∧ V.heap[gf]? = some (.cells #[.int .i16 (m : Int), .slice (some ⟨gh, off, none⟩) n c] 36 (0, 0)) ∧ V.cell? ⟨gh, off + t * 2, none⟩ = some (.int .i8 (P t))) (W.drew.alloc (.cells #[.int .i16 ((k : Int) - fr), .int .i8 (P t)] 75)) := by
      have hb := (Below.refl W.heap.size W.drew).alloc (Nat.le_refl _) (.cells #[.int .i16 ((k : Int) - fr), .int .i8 (P t)] 75)
      exact ⟨(hb.cell (p := ⟨gr, 0, none⟩) HGR.out).trans hS0.1, (hb.block _ (row_lt HF.out)).trans hS0.2.1, (hb.cell (p := ⟨gh, off + t * 2, none⟩) hgh).trans hS0.2.2⟩
    have g1 := row_cell 0 ((heap_alloc_old W (.cells #[.int .i16 ((k : Int) - fr), .int .i8 (P t)] 75) (row_lt HGO.out)).trans HGO.out)
    refine step_pair 0 12 (.slice b nl c1) (.slice (some ⟨W.drew.heap.size, 0, none⟩) 1 1) (W.drew.alloc (.cells #[.int .i16 ((k : Int) - fr), .int .i8 (P t)] 75)) (by kernel_rfl) (by kernel_rfl) (by kernel_rfl) rfl rfl rfl rfl rfl rfl (by simp [go_sem, g0]) (ex_build_noteL _ rfl _ _ rfl) (by simp [go_sem, g1]) (ex_build_noteL _ rfl _ _ rfl) hS0 hS1 (by kernel_rfl) rfl ?_
    simp only [List.getElem_toArray, List.getElem_cons_zero, List.getElem_cons_succ, Act.put, List.setIfInBounds_toArray, List.set_cons_zero, List.set_cons_succ]
    obtain ⟨o1, ho1⟩ : ∃ o : Obj, o = .cells #[.int .i16 ((k : Int) - fr), .int .i8 (P t)] 75 := ⟨_, rfl⟩
    have HA0 := Lib.hid (show OwnN (W.drew.alloc o1) base (.slice b nl c1) l from OwnL.alloc (OwnL.below HOWN.out (below_drew W)) _)
    have HGO1 := Lib.hid (show (W.drew.alloc o1).heap[go]? = some (.cells #[.slice b nl c1] 38 (0, 0)) from (heap_alloc_old W.drew o1 (row_lt HGO.out)).trans HGO.out)
    have HK0 := Lib.hid ((KeepT.below (below_drew W)).trans (keep_alloc 75 38 W.drew o1))
    have HX0 := Lib.hid (fun B (h : B ≤ base) => ((below_drew W).mono (Nat.le_trans h HB.out)).alloc (Nat.le_trans h HB.out) o1)
    rw [ho1] at HA0 HGO1 HK0 HX0
    clear ho1 o1 g0 g1 hne
    refine step_append_Lg Tryz.underlying38 infoN2 rfl (by decide) (by decide) encN_len encN_one 13 (by kernel_rfl) rfl rfl _ _ rfl base _ l rfl HA0.out ⟨W.drew.heap.size, 0, none⟩ 1 1 [((k : Int) - fr, P t)] rfl rfl (one_cells (enc := encN) (heap_alloc_new W.drew _)) (by rw [HN.out]; omega) (Nat.le_trans HB.out (by simp)) ?_
    intro v2 w2 hown2 hg2 hb2
    have hk2 := keep_grown (T2 := 75) HA0.out hg2
    have hgo2 := hk2.2 go _ _ _ HGO1.out (by decide) (by decide)
    have hgr1 := HK0.out.2 gr _ _ _ HGRR.out (by decide) (by decide)
    have hf1 := HK0.out.2 gf _ _ _ HF.out (by decide) (by decide)
    have hgr2 := hk2.2 gr _ _ _ hgr1 (by decide) (by decide)
    have hf2 := hk2.2 gf _ _ _ hf1 (by decide) (by decide)
    have hS2 : (fun V : World => V.cell? ⟨gr, 0, none⟩ = some (.int .i64 fr) ∧ V.heap[gf]? = some (.cells #[.int .i16 (m : Int), .slice (some ⟨gh, off, none⟩) n c] 36 (0, 0)) ∧ V.cell? ⟨gh, off + t * 2, none⟩ = some (.int .i8 (P t))) w2 := ⟨row_cell 0 hgr2, hf2, (hb2.cell (p := ⟨gh, off + t * 2, none⟩) HAB.out).trans hS1.2.2⟩
    refine ⟨hS2, ?_⟩
    simp only [List.getElem_toArray, List.getElem_cons_zero, List.getElem_cons_succ, Act.put, List.setIfInBounds_toArray, List.set_cons_zero, List.set_cons_succ]
    have e2 := row_cell 0 hgo2
    have f2 := frozen_of_row w2 go 0 _ _ hgo2
    have hgrne : gr ≠ go := fun e => by rw [e, hgo2] at hgr2; simp at hgr2
    have hgfne : gf ≠ go := fun e => by rw [e, hgo2] at hf2; simp at hf2
    obtain ⟨b2, c3, hv2⟩ := OwnL.form hown2
    subst hv2
    obtain ⟨nl2, hnl2⟩ : ∃ x, (l ++ [((k : Int) - fr, P t)]).length = x := ⟨_, rfl⟩
    rw [hnl2] at hown2 ⊢
    have hgw := hgo2
    have hS3 : (fun V : World => V.cell? ⟨gr, 0, none⟩ = some (.int .i64 fr) ∧ V.heap[gf]? = some (.cells #[.int .i16 (m : Int), .slice (some ⟨gh, off, none⟩) n c] 36 (0, 0)) ∧ V.cell? ⟨gh, off + t * 2, none⟩ = some (.int .i8 (P t))) (w2.setCell ⟨go, 0, none⟩ (.slice b2 nl2 c3)) := by
      have hb3 := (Below.refl base w2).setCell (p := ⟨go, 0, none⟩) HGOB.out (.slice b2 nl2 c3)
      exact ⟨row_cell 0 ((heap_setCell_other w2 _ gr _ hgrne).trans hgr2), (heap_setCell_other w2 _ gf _ hgfne).trans hf2, (hb3.cell (p := ⟨gh, off + t * 2, none⟩) HAB.out).trans hS2.2.2⟩
    refine step_skip 14 (w2.setCell ⟨go, 0, none⟩ (.slice b2 nl2 c3)) (by kernel_rfl) rfl rfl (by simp [go_sem, e2, f2]) hS3 ?_
    simp only [List.getElem_toArray, List.getElem_cons_zero, List.getElem_cons_succ, Act.put, List.setIfInBounds_toArray, List.set_cons_zero, List.set_cons_succ]
    refine wpAnyH_done (by kernel_rfl) ?_ _
    have HO2 := Lib.hid hown2; have HGO2 := Lib.hid hgo2; have HK2 := Lib.hid (keep_grown (T2 := 38) HA0.out hg2); have HB2 := Lib.hid hb2
    clear hS0 hS1 hS2 hS3 hown2 hgo2 hg2 hb2 hgr1 hf1 hgr2 hf2 hk2 e2 f2 hgw
    go_wp2
    go_end0
    refine ⟨rfl, (HK0.out.trans HK2.out).trans (keep_set HGO2.out _), fun B h1 h2 => ((HX0.out B h1).trans (HB2.out.mono h1)).setCell h2 _, _, heap_setCell_same w2 go 0 _ _ _ HGO2.out, by rw [adB_yes]; exact own_set HO2.out HGO2.out (by decide) _⟩
/-- what holds while the notes are listed -/
def PlInv (w : World) (P : Nat → Int) (D : Nat → Nat) (fr st : Int) (m : Nat) (a : Option Addr) (n c : Nat) (j : Nat) (W : World) : Prop :=
  Below w.heap.size w W ∧ (∃ v, W.heap[w.heap.size + 1 + 1 + 1 + 1 + 1]? = some (.cells #[v] 38 (0, 0)) ∧ OwnN W w.heap.size v (ntL P fr (plL (plP D fr st) n j))) ∧ W.heap[w.heap.size]? = some (.cells #[.int .i16 (m : Int), .slice a n c] 36 (0, 0)) ∧
    W.heap[w.heap.size + 1 + 1]? = some (.cells #[.int .i64 fr] 2 (0, 0)) ∧ W.heap[w.heap.size + 1 + 1 + 1]? = some (.cells #[.int .i64 st] 2 (0, 0))
set_option maxRecDepth 100000 in
set_option maxHeartbeats 1000000 in
theorem played_any (m : Nat) (a : Option Addr) (n c : Nat) (P R : Nat → Int) (D : Nat → Nat) (fr st : Int) (w : World) (hm : 2 ≤ m ∧ m ≤ 96) (hn : 1 ≤ n ∧ n ≤ 24) (hD : D32 D) (hP : I8 P) (hfr : 0 ≤ fr ∧ fr ≤ 1000) (hst : 0 ≤ st ∧ st ≤ 1000) (hh : HamAt w a n P R) :
    Calls Tryz.prog 85 #[.agg #[.int .i16 (m : Int), .slice a n c], .agg (dc D), .int .i64 fr, .int .i64 st] w fun e w' => ∃ v, e = .returned v ∧ Below w.heap.size w w' ∧ OwnN w' w.heap.size v (srtN (ntL P fr (plL (plP D fr st) n (m * n)))) := by
  have HD := Lib.hid hD; have HP := Lib.hid hP; clear hD hP
  have hab : ∀ ad, a = some ad → ad.block < w.heap.size := by
    intro ad e
    obtain ⟨g, off, e2, hg, _⟩ := hh.get (by omega)
    rw [e2] at e; injection e with e; subst e; exact hg
  have HAB := Lib.hid hab; clear hab
  have KB := Kp.base w; have KH0 := kp_ham hh; clear hh
  replace KB := KB.alloc (.cells #[.int .i16 (m : Int), .slice a n c] 36)
  have KF := kp_new1 w #[.int .i16 (m : Int), .slice a n c] 36 (g := w.heap.size) (by simp)
  replace KB := KB.alloc (.cells (dc D) 41)
  replace KF := KF.alloc (.cells (dc D) 41)
  have KD := kp_newd (w.alloc (.cells #[.int .i16 (m : Int), .slice a n c] 36)) (D) 41 (g := w.heap.size + 1) (by simp)
  replace KB := KB.alloc (.cells #[.int .i64 fr] 2)
  replace KF := KF.alloc (.cells #[.int .i64 fr] 2)
  replace KD := KD.alloc (.cells #[.int .i64 fr] 2)
  have KR := kp_new1 ((w.alloc (.cells #[.int .i16 (m : Int), .slice a n c] 36)).alloc (.cells (dc D) 41)) #[.int .i64 fr] 2 (g := w.heap.size + 1 + 1) (by simp)
  replace KB := KB.alloc (.cells #[.int .i64 st] 2)
  replace KF := KF.alloc (.cells #[.int .i64 st] 2)
  replace KD := KD.alloc (.cells #[.int .i64 st] 2)
  replace KR := KR.alloc (.cells #[.int .i64 st] 2)
  have KS := kp_new1 (((w.alloc (.cells #[.int .i16 (m : Int), .slice a n c] 36)).alloc (.cells (dc D) 41)).alloc (.cells #[.int .i64 fr] 2)) #[.int .i64 st] 2 (g := w.heap.size + 1 + 1 + 1) (by simp)
  have HZ := Lib.hid (show ((((w.alloc (.cells #[.int .i16 (m : Int), .slice a n c] 36)).alloc (.cells (dc D) 41)).alloc (.cells #[.int .i64 fr] 2)).alloc (.cells #[.int .i64 st] 2)).heap.size = w.heap.size + 1 + 1 + 1 + 1 by simp)
  go_enter Tryz.func85, Tryz.ntmps85
  go_wp2_with (first | (with_reducible refine load_iframe rfl _ rfl w.heap.size rfl _ (m : Int) a n c ((KF.alloc _).alloc _).here ?_) | (with_reducible refine load_drum rfl _ rfl (w.heap.size + 1) rfl _ D ((KD.alloc _).alloc _).here ?_))
  have hb0 : Below w.heap.size w ((((((w.alloc (.cells #[.int .i16 (m : Int), .slice a n c] 36)).alloc (.cells (dc D) 41)).alloc (.cells #[.int .i64 fr] 2)).alloc (.cells #[.int .i64 st] 2)).alloc (.cells #[] 75)).alloc (.cells #[.slice (some ⟨w.heap.size + 1 + 1 + 1 + 1, 0, none⟩) 0 0] 38)) := ((KB.alloc _).alloc _).here
  have h0 : PlInv w P D fr st m a n c 0 ((((((w.alloc (.cells #[.int .i16 (m : Int), .slice a n c] 36)).alloc (.cells (dc D) 41)).alloc (.cells #[.int .i64 fr] 2)).alloc (.cells #[.int .i64 st] 2)).alloc (.cells #[] 75)).alloc (.cells #[.slice (some ⟨w.heap.size + 1 + 1 + 1 + 1, 0, none⟩) 0 0] 38)) := by
    refine ⟨hb0, ⟨.slice (some ⟨w.heap.size + 1 + 1 + 1 + 1, 0, none⟩) 0 0, ?_, ?_⟩, ((KF.alloc _).alloc _).here, ((KR.alloc _).alloc _).here, ((KS.alloc _).alloc _).here⟩
    · have h := heap_alloc_new (((((w.alloc (.cells #[.int .i16 (m : Int), .slice a n c] 36)).alloc (.cells (dc D) 41)).alloc (.cells #[.int .i64 fr] 2)).alloc (.cells #[.int .i64 st] 2)).alloc (.cells #[] 75)) (.cells #[.slice (some ⟨w.heap.size + 1 + 1 + 1 + 1, 0, none⟩) 0 0] 38)
      simpa using h
    · rw [plL_zero, ntL_nil]
      have h := OwnL.nil (T := 75) (sz := 2) (enc := encN) ((((w.alloc (.cells #[.int .i16 (m : Int), .slice a n c] 36)).alloc (.cells (dc D) 41)).alloc (.cells #[.int .i64 fr] 2)).alloc (.cells #[.int .i64 st] 2)) w.heap.size (by simp; omega)
      rw [show ((((w.alloc (.cells #[.int .i16 (m : Int), .slice a n c] 36)).alloc (.cells (dc D) 41)).alloc (.cells #[.int .i64 fr] 2)).alloc (.cells #[.int .i64 st] 2)).heap.size = w.heap.size + 1 + 1 + 1 + 1 by simp] at h
      exact OwnN.alloc h _
  refine (pins_any 75 38 (m : Int) a n c D 117 #[.pointer (some ⟨w.heap.size + 1 + 1, 0, none⟩), .pointer (some ⟨w.heap.size + 1 + 1 + 1, 0, none⟩), .pointer (some ⟨w.heap.size + 1 + 1 + 1 + 1 + 1, 0, none⟩), .pointer (some ⟨w.heap.size, 0, none⟩)] (PlInv w P D fr st m a n c) _ (by omega) hn HD.out ⟨by decide, by decide⟩ ⟨by decide, by decide⟩ (call_enter _ _ Tryz.func117 (by kernel_rfl) (by kernel_rfl)) ?_ ?_ ?_ h0).mono ?_
  · rintro j k t W hk ht rfl hp ⟨hb, ⟨v, hc, hown⟩, hf, hr, hs⟩
    have hlen := plL_len (plP D fr st) n (k * n + t)
    have hj := place_lt (s := m) (by omega : k < m) ht
    have hj2 := place_bound (s := m) (n := n) (by omega) (by omega)
    refine (played1_any _ _ _ w.heap.size w.heap.size fr st m a n c P R v _ k t W hm hn.2 (by omega) ht hfr hst HP.out hr hs hc hown (by rw [ntL_len]; omega) hb.size hf (KH0.at hb) HAB.out (by omega)).mono ?_
    rintro e W' ⟨rfl, hkp, hbl, v', hc', hown'⟩
    rw [← ntL_adB, ← plP_yes (fr := fr) (st := st) hp, adB_plL ht] at hown'
    exact ⟨rfl, ⟨hb.trans (hbl _ (Nat.le_refl _) (by omega)), ⟨v', hc', hown'⟩, hkp.row hf (by decide) (by decide), hkp.row hr (by decide) (by decide), hkp.row hs (by decide) (by decide)⟩, hkp⟩
  · rintro j k t W hk ht rfl hp ⟨hb, ⟨v, hc, hown⟩, hf, hr, hs⟩
    exact ⟨hb, ⟨v, hc, by rw [plL_no ht (plP_no hp)]; exact hown⟩, hf, hr, hs⟩
  · rintro j W W' ⟨hb, ⟨v, hc, hown⟩, hf, hr, hs⟩ hb2
    exact ⟨hb.trans (hb2.mono hb.size), ⟨v, (hb2.block _ (row_lt hc)).trans hc, OwnN.below hown hb2⟩, (hb2.block _ (row_lt hf)).trans hf, (hb2.block _ (row_lt hr)).trans hr, (hb2.block _ (row_lt hs)).trans hs⟩
  · rintro e w2 ⟨rfl, ⟨hb, ⟨v, hc, hown⟩, _⟩, _⟩
    have c0 := row_cell 0 hc
    obtain ⟨b, c2, rfl⟩ := OwnL.form hown
    rw [Int.toNat_natCast] at hown c0
    have hlen : (ntL P fr (plL (plP D fr st) n (m * n))).length ≤ 2304 := by rw [ntL_len]; exact Nat.le_trans (plL_len _ _ _) (place_bound (by omega) (by omega))
    obtain ⟨nl, hnl⟩ : ∃ x, (ntL P fr (plL (plP D fr st) n (m * n))).length = x := ⟨_, rfl⟩
    rw [hnl] at hown c0 hlen
    have hmd := made_own w.heap.size nl c2 b _ w2 (by omega) hown
    have HB := Lib.hid hb; clear hown hc hb hnl
    clear h0 hb0
    go_wp2_with (go_at_call 67; refine hmd.mono ?_; rintro e w3 ⟨v3, rfl, hb3, ho3⟩; have HB3 := Lib.hid hb3; have HO3 := Lib.hid ho3; clear hb3 ho3 hmd)
    go_ret
    exact ⟨_, rfl, HB.out.trans (HB3.out.mono HB.out.size), OwnN.mono HO3.out HB.out.size⟩
end Go.Proofs.YteffaghcjpeblaaGreat
