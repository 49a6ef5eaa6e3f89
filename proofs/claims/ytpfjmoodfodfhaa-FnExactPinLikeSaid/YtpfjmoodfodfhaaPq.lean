/- The program's search. No conditions. -/
import Derived.Test.YtpfjmoodfodfhaaPp
import Derived.Outline
namespace Go.Proofs.Ytpfjmoodfodfhaa
open Go.RowKit
set_option linter.unusedVariables false
set_option linter.unusedSimpArgs false

theorem bit_not (b : Bool) (v : Int) (hv : v = if b = true then 0 else 1) (w : World) : Calls Try.prog 134 #[.bool (!b)] w fun e w' => e = .returned (.int .i64 v) ∧ w = w' := by
  subst hv
  cases b
  all_goals
    go_enter Try.func134, Try.ntmps134
    go_wp2
    go_ret
    exact ⟨rfl, rfl⟩
set_option maxRecDepth 100000 in
set_option maxHeartbeats 4000000 in
theorem pin_0 (w0 : World) (gp : Nat) (m : Nat) (a : Option Addr) (n c : Nat) (P R : Nat → Int) (q : Option Addr) (l e0 : Nat) (A B : Nat → Int) (E : Nat → Nat) (budget : Int) (like : Bool) (hgp : w0.heap.size ≤ gp) (hm : 2 ≤ m ∧ m ≤ 96) (hn : n ≤ 24) (hr : ∀ t, t < n → 1 ≤ R t ∧ R t ≤ m) (hP : I8 P) (KH0 : Kp w0 fun V => HamAt V a n P R) (hl : l ≤ 120) (hA : ∀ i, i < l → 0 ≤ A i ∧ A i < m) (hB : I8 B) (KT0 : Kp w0 fun V => NoteAt V q l A B) (hE : D32 E) (hbud : budget ≤ 20000) (D : Nat → Nat) (k : Nat) (own : Int) (st : PnSt) (w : World) (hD : D32 D) (ho : 0 ≤ own) (ho2 : own ≤ 200) (hst : PnOK budget st) (hlk : k = l) (hPn : PnAt w gp m a n c q l e0 E budget like st) :
    Calls Try.prog 89 #[.pointer (some ⟨gp, 0, none⟩), .agg (dc D), .int .i64 (k : Int), .int .i64 own] w fun e w' => e = .returned (.tuple #[]) ∧ PnAt w' gp m a n c q l e0 E budget like (pnFound D own st) ∧ KeepO gp w w' := by
  subst hlk
  have KP := kp_pn hPn; clear hPn hr hP hA hB hE hD KH0 KT0
  have KB := Kp.base w
  replace KB := KB.alloc (.cells (dc D) 71)
  replace KP := KP.alloc (.cells (dc D) 71)
  have KD := kp_newd w (D) 71 (g := w.heap.size) (by simp)
  have HZ := Lib.hid (show (w.alloc (.cells (dc D) 71)).heap.size = w.heap.size + 1 by simp)
  go_enter Try.func89, Try.ntmps89
  have c2 := KP.here.c2
  have hgW := KP.here.lt
  have hF := KP.here.found D own
  have hK : KeepO gp w (((w.alloc (.cells (dc D) 71)).setCells gp 104 (dc D).toList |>.setCell ⟨gp, 102, none⟩ (.bool true)).setCell ⟨gp, 103, none⟩ (.int .i64 own)) := ((KeepO.of KB.here).setCells _).setCell _ _ |>.setCell _ _
  have HF := Lib.hid hF; have HK := Lib.hid hK; clear hF hK HZ hst
  have hroom := KP.here.room
  obtain ⟨d2, d3, f2, f3⟩ := KP.here.behind D
  go_wp2_with (first | (with_reducible refine load_drum rfl _ rfl w.heap.size rfl _ D KD.here ?_) | (with_reducible refine store_drum_mid rfl _ _ rfl gp 104 D rfl rfl hroom ?_))
  refine bodyPost_ret (v := .tuple #[]) (by simp [results, Try.results89, go_sem]) rfl ⟨rfl, HF.out, HK.out⟩
set_option maxRecDepth 100000 in
set_option maxHeartbeats 4000000 in
theorem pin_s (w0 : World) (gp : Nat) (m : Nat) (a : Option Addr) (n c : Nat) (P R : Nat → Int) (q : Option Addr) (l e0 : Nat) (A B : Nat → Int) (E : Nat → Nat) (budget : Int) (like : Bool) (hgp : w0.heap.size ≤ gp) (hm : 2 ≤ m ∧ m ≤ 96) (hn : n ≤ 24) (hr : ∀ t, t < n → 1 ≤ R t ∧ R t ≤ m) (hP : I8 P) (KH0 : Kp w0 fun V => HamAt V a n P R) (hl : l ≤ 120) (hA : ∀ i, i < l → 0 ≤ A i ∧ A i < m) (hB : I8 B) (KT0 : Kp w0 fun V => NoteAt V q l A B) (hE : D32 E) (hbud : budget ≤ 20000) (r : Nat) (ih : ∀ (D : Nat → Nat) (k : Nat) (own : Int) (st : PnSt) (w : World), k + r = l → D32 D → 0 ≤ own → own + r ≤ 200 → PnOK budget st → pnStop like st = false → Below w0.heap.size w0 w → PnAt w gp m a n c q l e0 E budget like st →
    Calls Try.prog 89 #[.pointer (some ⟨gp, 0, none⟩), .agg (dc D), .int .i64 (k : Int), .int .i64 own] w fun e w' => e = .returned (.tuple #[]) ∧ PnAt w' gp m a n c q l e0 E budget like (pnB like budget E m n P R A B l r D own st) ∧ KeepO gp w w')
    (D : Nat → Nat) (k : Nat) (own : Int) (st : PnSt) (w : World) (hk : k + (r + 1) = l) (hD : D32 D) (ho : 0 ≤ own) (ho2 : own + (r + 1) ≤ 200) (hst : PnOK budget st) (hs0 : pnStop like st = false) (hbw : Below w0.heap.size w0 w) (hPn : PnAt w gp m a n c q l e0 E budget like st) :
    Calls Try.prog 89 #[.pointer (some ⟨gp, 0, none⟩), .agg (dc D), .int .i64 (k : Int), .int .i64 own] w fun e w' => e = .returned (.tuple #[]) ∧ PnAt w' gp m a n c q l e0 E budget like (pnB like budget E m n P R A B l (r + 1) D own st) ∧ KeepO gp w w' := by
  have HIH := Lib.hid ih; have HP := Lib.hid hP; have HRR := Lib.hid hr; have HD := Lib.hid hD; have HE := Lib.hid hE
  have hBk := hB k
  obtain ⟨x, hxA⟩ : ∃ x : Nat, A k = x := ⟨(A k).toNat, by have := hA k (by omega); omega⟩
  have hxm : x < m := by have := hA k (by omega); omega
  have KH := KH0.on hbw; have KT := KT0.on hbw
  clear ih hP hr hD hE hA hB KH0 KT0
  have hgw : gp < w.heap.size := hPn.lt
  have KP := kp_pn hPn; clear hPn
  have KB := Kp.base w
  replace KB := KB.alloc (.cells (dc D) 71)
  replace KP := KP.alloc (.cells (dc D) 71)
  replace KH := KH.alloc (.cells (dc D) 71)
  replace KT := KT.alloc (.cells (dc D) 71)
  have KD := kp_newd w (D) 71 (g := w.heap.size) (by simp)
  have HZ := Lib.hid (show (w.alloc (.cells (dc D) 71)).heap.size = w.heap.size + 1 by simp)
  have hx := NoteAt.get KT.here (show 0 < l by omega)
  obtain ⟨g, off, rfl, hg, hc⟩ := hx
  have n0 := (hc k (by omega)).1
  have n1 := (hc k (by omega)).2
  rw [hxA] at n0
  obtain ⟨ls, hls⟩ : ∃ ls, frL m P R D x (B k) n = ls := ⟨_, rfl⟩
  have hmem := frL_mem (m := m) (P := P) (R := R) (D := D) (k := x) (p := B k) n
  rw [hls] at hmem
  have hlen := frL_len (m := m) (P := P) (R := R) (D := D) (k := x) (p := B k) n
  rw [hls] at hlen
  obtain ⟨F, hF0, hFS, hFE, hFO, hFR⟩ := pn_facts (like := like) (budget := budget) (E := E) (m := m) (P := P) (R := R) (A := A) (B := B) (l := l) (r := r) (k := x) (ls := ls) hn HD.out ho (by omega) hst (by rw [show l - (r + 1) = k by omega, hxA, Int.toNat_natCast]) (by rw [show l - (r + 1) = k by omega]; exact hls)
  rw [hFR]
  have HMEM := Lib.hid hmem; have HF0 := Lib.hid hF0; have HFS := Lib.hid hFS; have HFE := Lib.hid hFE; have HFO := Lib.hid hFO; have HLS := Lib.hid hls
  clear hmem hF0 hFS hFE hFO hls hFR
  have c2 := KP.here.c2
  have hkl : ((k : Int) == (l : Int)) = false := by simp; omega
  have hkl' : (k : Int) < l := by omega
  clear hc KT hxA
  go_enter Try.func89, Try.ntmps89
  go_wp2_with (with_reducible refine load_drum rfl _ rfl w.heap.size rfl _ D KD.here ?_)
  replace KB := KB.alloc (.cells #[.int .i16 (x : Int), .int .i8 (B k)] 95)
  replace KP := KP.alloc (.cells #[.int .i16 (x : Int), .int .i8 (B k)] 95)
  replace KH := KH.alloc (.cells #[.int .i16 (x : Int), .int .i8 (B k)] 95)
  replace KD := KD.alloc (.cells #[.int .i16 (x : Int), .int .i8 (B k)] 95)
  have KN := kp_new1 (w.alloc (.cells (dc D) 71)) #[.int .i16 (x : Int), .int .i8 (B k)] 95 (g := w.heap.size + 1) (by simp)
  generalize ((w.alloc (.cells (dc D) 71)).alloc (.cells #[.int .i16 (x : Int), .int .i8 (B k)] 95)) = W1 at KB KP KH KD KN ⊢
  clear c2 n0 n1 hg HZ
  have q0 := i64_id (x := (x : Int)) (by omega)
  have q1 := i64_id (x := B k) (by omega)
  have hS0 := below_drew W1
  refine wp_region_S (fun V => Below W1.heap.size W1 V) (by kernel_rfl) hS0 ?_
  refine take_val 0 (.pointer (some ⟨gp, 0, none⟩)) rfl (by kernel_rfl) (by kernel_rfl) (by kernel_rfl) (fun _ _ _ h => h) rfl (fun V hV => by simp [go_sem]) hS0 ?_
  simp only [List.getElem_toArray, List.getElem_cons_zero, List.getElem_cons_succ, Act.put, List.setIfInBounds_toArray, List.set_cons_zero, List.set_cons_succ]
  refine take_val 1 (.pointer (some ⟨gp, 0, none⟩)) rfl (by kernel_rfl) (by kernel_rfl) (by kernel_rfl) (fun _ _ _ h => h) rfl (fun V hV => by simp [go_sem]) hS0 ?_
  simp only [List.getElem_toArray, List.getElem_cons_zero, List.getElem_cons_succ, Act.put, List.setIfInBounds_toArray, List.set_cons_zero, List.set_cons_succ]
  refine take_val 2 (.pointer (some ⟨gp, 0, none⟩)) rfl (by kernel_rfl) (by kernel_rfl) (by kernel_rfl) (fun _ _ _ h => h) rfl (fun V hV => by simp [go_sem]) hS0 ?_
  simp only [List.getElem_toArray, List.getElem_cons_zero, List.getElem_cons_succ, Act.put, List.setIfInBounds_toArray, List.set_cons_zero, List.set_cons_succ]
  refine take_val 3 (.agg #[.int .i16 (m : Int), .slice a n c]) rfl (by kernel_rfl) (by kernel_rfl) (by kernel_rfl) (fun _ _ _ h => h) rfl (fun V hV => ex_load_iframe_mid _ rfl gp 0 rfl _ a n c (KP.at hV).frame) hS0 ?_
  simp only [List.getElem_toArray, List.getElem_cons_zero, List.getElem_cons_succ, Act.put, List.setIfInBounds_toArray, List.set_cons_zero, List.set_cons_succ]
  refine take_val 4 (.pointer (some ⟨w.heap.size + 1, 0, none⟩)) rfl (by kernel_rfl) (by kernel_rfl) (by kernel_rfl) (fun _ _ _ h => h) rfl (fun V hV => by simp [go_sem]) hS0 ?_
  simp only [List.getElem_toArray, List.getElem_cons_zero, List.getElem_cons_succ, Act.put, List.setIfInBounds_toArray, List.set_cons_zero, List.set_cons_succ]
  refine take_val 5 (.int .i16 (x : Int)) rfl (by kernel_rfl) (by kernel_rfl) (by kernel_rfl) (fun _ _ _ h => h) rfl (fun V hV => by have c := row_cell 0 (KN.at hV); simp [go_sem, c]) hS0 ?_
  simp only [List.getElem_toArray, List.getElem_cons_zero, List.getElem_cons_succ, Act.put, List.setIfInBounds_toArray, List.set_cons_zero, List.set_cons_succ]
  refine take_val 6 (.int .i64 (x : Int)) rfl (by kernel_rfl) (by kernel_rfl) (by kernel_rfl) (fun _ _ _ h => h) rfl (fun V hV => by simp [go_sem, q0]) hS0 ?_
  simp only [List.getElem_toArray, List.getElem_cons_zero, List.getElem_cons_succ, Act.put, List.setIfInBounds_toArray, List.set_cons_zero, List.set_cons_succ]
  refine take_val 7 (.pointer (some ⟨w.heap.size + 1, 1, none⟩)) rfl (by kernel_rfl) (by kernel_rfl) (by kernel_rfl) (fun _ _ _ h => h) rfl (fun V hV => by simp [go_sem]) hS0 ?_
  simp only [List.getElem_toArray, List.getElem_cons_zero, List.getElem_cons_succ, Act.put, List.setIfInBounds_toArray, List.set_cons_zero, List.set_cons_succ]
  refine take_val 8 (.int .i8 (B k)) rfl (by kernel_rfl) (by kernel_rfl) (by kernel_rfl) (fun _ _ _ h => h) rfl (fun V hV => by have c := row_cell 1 (KN.at hV); simp [go_sem, c]) hS0 ?_
  simp only [List.getElem_toArray, List.getElem_cons_zero, List.getElem_cons_succ, Act.put, List.setIfInBounds_toArray, List.set_cons_zero, List.set_cons_succ]
  refine take_val 9 (.int .i64 (B k)) rfl (by kernel_rfl) (by kernel_rfl) (by kernel_rfl) (fun _ _ _ h => h) rfl (fun V hV => by simp [go_sem, q1]) hS0 ?_
  simp only [List.getElem_toArray, List.getElem_cons_zero, List.getElem_cons_succ, Act.put, List.setIfInBounds_toArray, List.set_cons_zero, List.set_cons_succ]
  refine take_val 12 (.int .i64 0) rfl (by kernel_rfl) (by kernel_rfl) (by kernel_rfl) (fun _ _ _ h => h) rfl (fun V hV => by simp [go_sem]) hS0 ?_
  simp only [List.getElem_toArray, List.getElem_cons_zero, List.getElem_cons_succ, Act.put, List.setIfInBounds_toArray, List.set_cons_zero, List.set_cons_succ]
  have hg1 : gp < W1.heap.size := Nat.lt_of_lt_of_le hgw KB.here.size
  have hfree := freeTracks_any w.heap.size 71 m a n c P R D x (B k) W1.drew hm hxm hn HRR.out HP.out HD.out (KD.at hS0) (KH.at hS0)
  rw [HLS.out] at hfree
  refine step_call 10 133 #[.agg #[.int .i16 (m : Int), .slice a n c], .pointer (some ⟨w.heap.size, 0, none⟩), .int .i64 (x : Int), .int .i64 (B k)] (by kernel_rfl) rfl rfl (by simp [go_sem]) ?_
  refine (hfree).mono ?_
  rintro e W2 ⟨v, rfl, hb2, hown⟩
  refine ⟨_, rfl, (below_drew W1).trans hb2, ?_⟩
  simp only [List.getElem_toArray, List.getElem_cons_zero, List.getElem_cons_succ, Act.put, List.setIfInBounds_toArray, List.set_cons_zero, List.set_cons_succ]
  have hb12 : Below W1.heap.size W1 W2 := (below_drew W1).trans hb2
  replace hown : OwnI W2 W1.heap.size v ls := hown
  clear hfree hb2 hS0
  have hS2 := hb12
  have HOWN := Lib.hid hown
  obtain ⟨vb, vc, rfl, _⟩ := OwnI.at hown
  clear hown
  refine take_val 11 (.int .i64 (ls.length : Int)) rfl (by kernel_rfl) (by kernel_rfl) (by kernel_rfl) (fun _ _ _ h => h) rfl (fun V hV => by simp [go_sem]) hS2 ?_
  simp only [List.getElem_toArray, List.getElem_cons_zero, List.getElem_cons_succ, Act.put, List.setIfInBounds_toArray, List.set_cons_zero, List.set_cons_succ]
  refine wpAnyH_done (by kernel_rfl) ?_ _
  replace KB := KB.on hb12
  replace KP := KP.on hb12
  replace KD := KD.on hb12
  replace KN := KN.on hb12
  clear KH q0 q1
  have hgd : w.heap.size ≠ gp := by omega
  have hgn : w.heap.size + 1 ≠ gp := by omega
  go_wp2
  go_loopw [50] (fun i w' => KeepO gp W2 w' ∧ ∃ j : Nat, j ≤ ls.length ∧ i = .int .i64 j ∧ pnStop like (F j) = false ∧ PnAt w' gp m a n c (some ⟨g, off, none⟩) l e0 E budget like (F j)) (fun i _ => ls.length - (intOf i).toNat)
  case atStart => exact ⟨KeepO.refl _, 0, by omega, rfl, by rw [HF0.out]; exact hs0, by rw [HF0.out]; exact KP.here⟩
  case round =>
    obtain ⟨hko, j, hj, rfl, hns, hPn⟩ := hrel
    have hKP2 : KeepO gp w W2 := KeepO.of KB.here
    have hok := HFO.out j hj
    have hD1 := hko.row KD.here hgd
    have hN1 := hko.row KN.here hgn
    have hO1 := hko.own HOWN.out hg1
    have KPr := kp_pn hPn
    have KDr := kp_drum (T := 71) (g := w.heap.size) (D := D) hD1
    have KNr := kp_row hN1
    have HKO := Lib.hid hko; have HO1 := Lib.hid hO1; have HNS := Lib.hid hns
    clear hPn hD1 hN1 hko hO1 KP KD KN HF0 hns
    by_cases hlt : j < ls.length
    · have hlt' : (j : Int) < ls.length := by omega
      have hsucc := HFS.out j hlt
      have hend := HFE.out (j + 1) (by omega)
      have hokS := HFO.out (j + 1) (by omega)
      have hx := IntAt.get (OwnI.readAt HO1.out) (show 0 < ls.length by omega)
      obtain ⟨gz, oz, rfl, hgz, hcz⟩ := hx
      have hz0 := hcz j hlt
      obtain ⟨t, ht, htn, _, hfr⟩ := HMEM.out (ls.getD j 0) (by rw [List.getD, List.getElem?_eq_getElem hlt]; exact List.getElem_mem _)
      rw [ht] at hz0 hsucc
      have hsucc2 := hsucc
      obtain ⟨sj, hsj⟩ : ∃ s, F j = s := ⟨_, rfl⟩
      obtain ⟨sn, hsn⟩ : ∃ s, F (j + 1) = s := ⟨_, rfl⟩
      rw [hsj] at hok KPr HNS
      rw [hsn, hsj] at hsucc
      rw [hsn] at hend hokS
      have hvn : pnNew E x t = if hasPin E x t = true then 0 else 1 := by
        cases hh : hasPin E x t
        · rw [pnNew_not hh]; rfl
        · rw [pnNew_has hh]; rfl
      have hvb := pnNew_b E x t
      have hover := fun h => hsucc.trans (pnOne_over HNS.out h)
      have hvain := fun h h2 => hsucc.trans (pnOne_vain HNS.out h h2)
      have hgo := fun h h2 => hsucc.trans (pnOne_go HNS.out h h2)
      rw [Int.toNat_natCast] at hvain hgo
      obtain ⟨v, hv⟩ : ∃ v, pnNew E x t = v := ⟨_, rfl⟩
      rw [hv] at hvn hvb hvain hgo
      have HVN := Lib.hid hvn; have HOVER := Lib.hid hover; have HVAIN := Lib.hid hvain; have HGO := Lib.hid hgo
      clear hvn hover hvain hgo hv
      have HEND := Lib.hid hend; have HOKS := Lib.hid hokS; have HSN := Lib.hid hsn
      clear hsn hsucc hend hokS hcz ht hsucc2 hsj
      have c99 := KPr.here.c99
      have c100 := KPr.here.c100
      by_cases htr : sj.tries = budget
      · have hbt : (sj.tries == budget) = true := by simp [htr]
        have HTR := Lib.hid htr; clear htr
        go_wp2
        go_quiet (fail)
        have hbq := below_drewN (Below.refl wr.heap.size wr) nq
        replace KPr := KPr.on hbq
        replace KDr := KDr.on hbq
        replace KNr := KNr.on hbq
        have HKV := Lib.hid (HKO.out.trans (KeepO.of (g := gp) hbq))
        generalize wr.drewN nq = V at hbq KPr KDr KNr HKV ⊢
        have c101 := KPr.here.c101
        have f101 := KPr.here.frozen 101
        have hT := KPr.here.over
        have hK := HKV.out.setCell 101 (.bool true)
        have HT := Lib.hid hT; have HK := Lib.hid hK; clear hT hK
        go_wp2
        have hE := HOVER.out HTR.out
        have hE2 := HEND.out (by rw [hE]; exact pnStop_over)
        refine bodyPost_ret (v := .tuple #[]) (by simp [results, Try.results89, go_sem]) rfl ⟨rfl, ?_, hKP2.trans HK.out⟩
        rw [hE2, hE]; exact HT.out
      · have hbt : (sj.tries == budget) = false := by simp [htr]
        have HTR := Lib.hid htr; clear htr
        go_wp2
        go_quiet (fail)
        have hbq := below_drewN (Below.refl wr.heap.size wr) nq
        replace KPr := KPr.on hbq
        replace KDr := KDr.on hbq
        replace KNr := KNr.on hbq
        have HKV := Lib.hid (HKO.out.trans (KeepO.of (g := gp) hbq))
        clear c99 c100
        generalize wr.drewN nq = V at hbq KPr KDr KNr HKV ⊢
        have c100 := KPr.here.c100
        have f100 := KPr.here.frozen 100
        have hokT := pnOK_tick hok HTR.out
        have qt := i64_id (x := sj.tries + 1) (by have := hok.1; have := hok.2.1; omega)
        have hT := KPr.here.tick
        have hK := HKV.out.setCell 100 (.int .i64 (sj.tries + 1))
        have hD2 : DrumAt (V.setCell ⟨gp, 100, none⟩ (.int .i64 (sj.tries + 1))) 71 w.heap.size D := (heap_setCell_other _ _ _ _ hgd).trans KDr.here
        have hN2 := (heap_setCell_other V ⟨gp, 100, none⟩ _ (.int .i64 (sj.tries + 1)) hgn).trans KNr.here
        have HOKT := Lib.hid hokT; clear hokT
        have HT := Lib.hid hT; have HK := Lib.hid hK; have HD2 := Lib.hid hD2; have HN2 := Lib.hid hN2; clear hT hK hD2 hN2 hok
        go_wp2
        clear c100 f100 KPr KDr KNr hbq HKV HKO HO1 qt
        generalize V.setCell ⟨gp, 100, none⟩ (.int .i64 (sj.tries + 1)) = V2 at HT HK HD2 HN2 ⊢
        have KP2 := kp_pn HT.out
        have KD2 := kp_drum HD2.out
        have KN2 := kp_row HN2.out
        clear HT HD2 HN2
        have hS0' := below_drew V2
        refine wp_region_S (fun Y => Below V2.heap.size V2 Y) (by kernel_rfl) hS0' ?_
        have KP3 := KP2.on hS0'; have KD3 := KD2.on hS0'; have KN3 := KN2.on hS0'
        have KQ3 := kp_start V2
        generalize V2.drew = Y0 at hS0' KP3 KD3 KN3 KQ3 ⊢
        have q0 := i64_id (x := (x : Int)) (by omega)
        have hHas := fun (Y : World) (h : DrumCells Y gp 3 E) => has_off gp 3 E x t Y HE.out (by omega) (by omega) h
        obtain ⟨bh, hbh⟩ : ∃ b, hasPin E x t = b := ⟨_, rfl⟩
        rw [hbh] at hHas HVN
        clear hbh
        have hBit := fun Y : World => bit_not bh v HVN.out Y
        have HHAS := Lib.hid hHas; have HBIT := Lib.hid hBit; clear hHas hBit HVN
        have qv := i64_id (x := own + v) (by omega)
        have hSa := hS0'.alloc hS0'.size (.cells (dc fun _ => 0) 71)
        have hDa := DrumAt.new Y0 71 (fun _ => 0)
        have hPa := (KP3.alloc (.cells (dc fun _ => 0) 71)).here.old
        have hSs := below_setRow hSa hS0'.size (dc D)
        have hDs := DrumAt.setRow hDa D
        have HSS := Lib.hid hSs; have HDS := Lib.hid hDs; clear hSs hDs
        refine take_val 0 (.agg (dc D)) rfl (by kernel_rfl) (by kernel_rfl) (by kernel_rfl) (fun _ _ _ h => h) rfl (fun V hV => ex_load_drum _ rfl w.heap.size rfl _ D (KD2.at hV)) hS0' ?_
        simp only [List.getElem_toArray, List.getElem_cons_zero, List.getElem_cons_succ, Act.put, List.setIfInBounds_toArray, List.set_cons_zero, List.set_cons_succ]
        refine take_val 1 (.int .i64 own) rfl (by kernel_rfl) (by kernel_rfl) (by kernel_rfl) (fun _ _ _ h => h) rfl (fun V hV => by simp [go_sem]) hS0' ?_
        simp only [List.getElem_toArray, List.getElem_cons_zero, List.getElem_cons_succ, Act.put, List.setIfInBounds_toArray, List.set_cons_zero, List.set_cons_succ]
        refine take_val 2 (.pointer (some ⟨gp, 0, none⟩)) rfl (by kernel_rfl) (by kernel_rfl) (by kernel_rfl) (fun _ _ _ h => h) rfl (fun V hV => by simp [go_sem]) hS0' ?_
        simp only [List.getElem_toArray, List.getElem_cons_zero, List.getElem_cons_succ, Act.put, List.setIfInBounds_toArray, List.set_cons_zero, List.set_cons_succ]
        refine take_val 3 (.pointer (some ⟨gp, 0, none⟩)) rfl (by kernel_rfl) (by kernel_rfl) (by kernel_rfl) (fun _ _ _ h => h) rfl (fun V hV => by simp [go_sem]) hS0' ?_
        simp only [List.getElem_toArray, List.getElem_cons_zero, List.getElem_cons_succ, Act.put, List.setIfInBounds_toArray, List.set_cons_zero, List.set_cons_succ]
        refine take_val 4 (.pointer (some ⟨gp, 3, none⟩)) rfl (by kernel_rfl) (by kernel_rfl) (by kernel_rfl) (fun _ _ _ h => h) rfl (fun V hV => by simp [go_sem]) hS0' ?_
        simp only [List.getElem_toArray, List.getElem_cons_zero, List.getElem_cons_succ, Act.put, List.setIfInBounds_toArray, List.set_cons_zero, List.set_cons_succ]
        refine take_val 5 (.pointer (some ⟨w.heap.size + 1, 0, none⟩)) rfl (by kernel_rfl) (by kernel_rfl) (by kernel_rfl) (fun _ _ _ h => h) rfl (fun V hV => by simp [go_sem]) hS0' ?_
        simp only [List.getElem_toArray, List.getElem_cons_zero, List.getElem_cons_succ, Act.put, List.setIfInBounds_toArray, List.set_cons_zero, List.set_cons_succ]
        refine take_val 6 (.int .i16 (x : Int)) rfl (by kernel_rfl) (by kernel_rfl) (by kernel_rfl) (fun _ _ _ h => h) rfl (fun V hV => by have c := row_cell 0 (KN2.at hV); simp [go_sem, c]) hS0' ?_
        simp only [List.getElem_toArray, List.getElem_cons_zero, List.getElem_cons_succ, Act.put, List.setIfInBounds_toArray, List.set_cons_zero, List.set_cons_succ]
        refine take_val 7 (.int .i64 (x : Int)) rfl (by kernel_rfl) (by kernel_rfl) (by kernel_rfl) (fun _ _ _ h => h) rfl (fun V hV => by simp [go_sem, q0]) hS0' ?_
        simp only [List.getElem_toArray, List.getElem_cons_zero, List.getElem_cons_succ, Act.put, List.setIfInBounds_toArray, List.set_cons_zero, List.set_cons_succ]
        refine take_val 8 (.int .i64 (t : Int)) rfl (by kernel_rfl) (by kernel_rfl) (by kernel_rfl) (fun _ _ _ h => h) rfl (fun V hV => by simp [go_sem]) hS0' ?_
        simp only [List.getElem_toArray, List.getElem_cons_zero, List.getElem_cons_succ, Act.put, List.setIfInBounds_toArray, List.set_cons_zero, List.set_cons_succ]
        refine' cut_with (A := ∀ V : World, Below V2.heap.size V2 V → DrumAt V 71 Y0.heap.size D → (_ : World → Prop) V) (fun hcont => ?_) ?_
        rotate_left
        · refine step_call_or 9 13 135 #[.pointer (some ⟨gp, 3, none⟩), .int .i64 (x : Int), .int .i64 (t : Int)] (.pointer (some ⟨Y0.heap.size, 0, none⟩)) (Y0.alloc (.cells (dc fun _ => 0) 71)) (by kernel_rfl) rfl rfl rfl rfl (by simp [go_sem]) (ex_alloc_drum rfl) hSa ?_ ?_
          · refine (HHAS.out Y0 KP3.here.old).mono ?_
            rintro e Y1 ⟨rfl, rfl⟩
            refine ⟨_, rfl, hS0', ?_⟩
            simp only [List.getElem_toArray, List.getElem_cons_zero, List.getElem_cons_succ, Act.put, List.setIfInBounds_toArray, List.set_cons_zero, List.set_cons_succ]
            refine take_val 10 (.bool (!bh)) rfl (by kernel_rfl) (by kernel_rfl) (by kernel_rfl) (fun _ _ _ h => h) rfl (fun V hV => by simp [go_sem]) hS0' ?_
            simp only [List.getElem_toArray, List.getElem_cons_zero, List.getElem_cons_succ, Act.put, List.setIfInBounds_toArray, List.set_cons_zero, List.set_cons_succ]
            refine step_call_or 11 13 134 #[.bool (!bh)] (.pointer (some ⟨Y0.heap.size, 0, none⟩)) (Y0.alloc (.cells (dc fun _ => 0) 71)) (by kernel_rfl) rfl rfl rfl rfl (by simp [go_sem]) (ex_alloc_drum rfl) hSa ?_ ?_
            · refine (HBIT.out Y0).mono ?_
              rintro e Y1 ⟨rfl, rfl⟩
              refine ⟨_, rfl, hS0', ?_⟩
              simp only [List.getElem_toArray, List.getElem_cons_zero, List.getElem_cons_succ, Act.put, List.setIfInBounds_toArray, List.set_cons_zero, List.set_cons_succ]
              refine take_val 12 (.int .i64 (own + v)) rfl (by kernel_rfl) (by kernel_rfl) (by kernel_rfl) (fun _ _ _ h => h) rfl (fun V hV => by simp [go_sem, qv]) hS0' ?_
              simp only [List.getElem_toArray, List.getElem_cons_zero, List.getElem_cons_succ, Act.put, List.setIfInBounds_toArray, List.set_cons_zero, List.set_cons_succ]
              refine step_val 13 (.pointer (some ⟨Y0.heap.size, 0, none⟩)) (Y0.alloc (.cells (dc fun _ => 0) 71)) (by kernel_rfl) rfl rfl (ex_alloc_drum rfl) hSa ?_
              simp only [List.getElem_toArray, List.getElem_cons_zero, List.getElem_cons_succ, Act.put, List.setIfInBounds_toArray, List.set_cons_zero, List.set_cons_succ]
              refine step_skip 14 ((Y0.alloc (.cells (dc fun _ => 0) 71)).setRow Y0.heap.size (dc D)) (by kernel_rfl) rfl rfl (ex_store_drum _ _ rfl Y0.heap.size D rfl rfl _ _ hDa) HSS.out ?_
              simp only [List.getElem_toArray, List.getElem_cons_zero, List.getElem_cons_succ, Act.put, List.setIfInBounds_toArray, List.set_cons_zero, List.set_cons_succ]
              refine take_val 15 (.int .i64 (own + v)) rfl (by kernel_rfl) (by kernel_rfl) (by kernel_rfl) (fun _ _ _ h => h) rfl (fun V hV => by simp [go_sem]) HSS.out ?_
              simp only [List.getElem_toArray, List.getElem_cons_zero, List.getElem_cons_succ, Act.put, List.setIfInBounds_toArray, List.set_cons_zero, List.set_cons_succ]
              refine wpAnyH_done (by kernel_rfl) ?_ _
              exact hcont _ HSS.out HDS.out
            · --
              simp only [List.getElem_toArray, List.getElem_cons_zero, List.getElem_cons_succ, Act.put, List.setIfInBounds_toArray, List.set_cons_zero, List.set_cons_succ]
              refine step_call 11 134 #[.bool (!bh)] (by kernel_rfl) rfl rfl (by simp [go_sem]) ?_
              refine (HBIT.out _).mono ?_
              rintro e Y1 ⟨rfl, rfl⟩
              refine ⟨_, rfl, hSa, ?_⟩
              simp only [List.getElem_toArray, List.getElem_cons_zero, List.getElem_cons_succ, Act.put, List.setIfInBounds_toArray, List.set_cons_zero, List.set_cons_succ]
              refine take_val 12 (.int .i64 (own + v)) rfl (by kernel_rfl) (by kernel_rfl) (by kernel_rfl) (fun _ _ _ h => h) rfl (fun V hV => by simp [go_sem, qv]) hSa ?_
              simp only [List.getElem_toArray, List.getElem_cons_zero, List.getElem_cons_succ, Act.put, List.setIfInBounds_toArray, List.set_cons_zero, List.set_cons_succ]
              refine step_skip 14 ((Y0.alloc (.cells (dc fun _ => 0) 71)).setRow Y0.heap.size (dc D)) (by kernel_rfl) rfl rfl (ex_store_drum _ _ rfl Y0.heap.size D rfl rfl _ _ hDa) HSS.out ?_
              simp only [List.getElem_toArray, List.getElem_cons_zero, List.getElem_cons_succ, Act.put, List.setIfInBounds_toArray, List.set_cons_zero, List.set_cons_succ]
              refine take_val 15 (.int .i64 (own + v)) rfl (by kernel_rfl) (by kernel_rfl) (by kernel_rfl) (fun _ _ _ h => h) rfl (fun V hV => by simp [go_sem]) HSS.out ?_
              simp only [List.getElem_toArray, List.getElem_cons_zero, List.getElem_cons_succ, Act.put, List.setIfInBounds_toArray, List.set_cons_zero, List.set_cons_succ]
              refine wpAnyH_done (by kernel_rfl) ?_ _
              exact hcont _ HSS.out HDS.out
          · --
            simp only [List.getElem_toArray, List.getElem_cons_zero, List.getElem_cons_succ, Act.put, List.setIfInBounds_toArray, List.set_cons_zero, List.set_cons_succ]
            refine step_call 9 135 #[.pointer (some ⟨gp, 3, none⟩), .int .i64 (x : Int), .int .i64 (t : Int)] (by kernel_rfl) rfl rfl (by simp [go_sem]) ?_
            refine (HHAS.out _ hPa).mono ?_
            rintro e Y1 ⟨rfl, rfl⟩
            refine ⟨_, rfl, hSa, ?_⟩
            simp only [List.getElem_toArray, List.getElem_cons_zero, List.getElem_cons_succ, Act.put, List.setIfInBounds_toArray, List.set_cons_zero, List.set_cons_succ]
            refine take_val 10 (.bool (!bh)) rfl (by kernel_rfl) (by kernel_rfl) (by kernel_rfl) (fun _ _ _ h => h) rfl (fun V hV => by simp [go_sem]) hSa ?_
            simp only [List.getElem_toArray, List.getElem_cons_zero, List.getElem_cons_succ, Act.put, List.setIfInBounds_toArray, List.set_cons_zero, List.set_cons_succ]
            refine step_call 11 134 #[.bool (!bh)] (by kernel_rfl) rfl rfl (by simp [go_sem]) ?_
            refine (HBIT.out _).mono ?_
            rintro e Y1 ⟨rfl, rfl⟩
            refine ⟨_, rfl, hSa, ?_⟩
            simp only [List.getElem_toArray, List.getElem_cons_zero, List.getElem_cons_succ, Act.put, List.setIfInBounds_toArray, List.set_cons_zero, List.set_cons_succ]
            refine take_val 12 (.int .i64 (own + v)) rfl (by kernel_rfl) (by kernel_rfl) (by kernel_rfl) (fun _ _ _ h => h) rfl (fun V hV => by simp [go_sem, qv]) hSa ?_
            simp only [List.getElem_toArray, List.getElem_cons_zero, List.getElem_cons_succ, Act.put, List.setIfInBounds_toArray, List.set_cons_zero, List.set_cons_succ]
            refine step_skip 14 ((Y0.alloc (.cells (dc fun _ => 0) 71)).setRow Y0.heap.size (dc D)) (by kernel_rfl) rfl rfl (ex_store_drum _ _ rfl Y0.heap.size D rfl rfl _ _ hDa) HSS.out ?_
            simp only [List.getElem_toArray, List.getElem_cons_zero, List.getElem_cons_succ, Act.put, List.setIfInBounds_toArray, List.set_cons_zero, List.set_cons_succ]
            refine take_val 15 (.int .i64 (own + v)) rfl (by kernel_rfl) (by kernel_rfl) (by kernel_rfl) (fun _ _ _ h => h) rfl (fun V hV => by simp [go_sem]) HSS.out ?_
            simp only [List.getElem_toArray, List.getElem_cons_zero, List.getElem_cons_succ, Act.put, List.setIfInBounds_toArray, List.set_cons_zero, List.set_cons_succ]
            refine wpAnyH_done (by kernel_rfl) ?_ _
            exact hcont _ HSS.out HDS.out
        intro V3 hbV hdV
        have hgN : gp ≠ Y0.heap.size := by have := KP3.here.lt; omega
        have KN4 := KN2.on hbV
        clear hSa hDa hPa HSS HDS KP3 KD3 KN3 KQ3 HHAS HBIT
        have n0 := row_cell 0 KN4.here
        go_wp2_with fail
        refine (put_any Y0.heap.size 71 D x t true V3 HD.out (by omega) (by omega) hdV).mono ?_
        rintro e V4 ⟨⟨v4, rfl⟩, hb4, _, hdr⟩
        rw [put_setP] at hdr
        have hbV4 : Below V2.heap.size V2 V4 := hbV.trans (hb4.mono hS0'.size)
        have KP4 := KP2.on hbV4; have KD4 := KD2.on hbV4; have KN5 := KN2.on hbV4
        have HK4 := Lib.hid (HK.out.trans (KeepO.of (g := gp) hbV4))
        have HDR := Lib.hid hdr
        clear n0 KN4 hdV hb4 hdr hbV4 hbV KP2 KD2 KN2 hS0' hgN
        have c102 : V4.cell? ⟨gp, 102, none⟩ = some (.bool sj.found) := KP4.here.c102
        have c103 : V4.cell? ⟨gp, 103, none⟩ = some (.int .i64 sj.most) := KP4.here.c103
        have c200 := KP4.here.c200
        have hvd := pnVain_def like sj (own + v)
        have HGO2 := Lib.hid (HGO.out HTR.out); have HVAIN2 := Lib.hid (HVAIN.out HTR.out)
        clear HGO HVAIN HOVER
        obtain ⟨fo, hfo⟩ : ∃ b, sj.found = b := ⟨_, rfl⟩
        obtain ⟨mo, hmo⟩ : ∃ b, sj.most = b := ⟨_, rfl⟩
        rw [hfo] at c102 hvd
        rw [hmo] at c103 hvd
        clear hfo hmo
        have hq1 := i64_id (x := (k : Int) + 1) (by omega)
        have hD32' := Lib.hid (setP_32 HD.out (show t < 24 by omega) x)
        have HB0 := Lib.hid (HK4.out.below (B := w0.heap.size) (hbw.trans (KB.here.mono hbw.size)) hgp (by have := KB.here.size; have := hbw.size; omega))
        have HREC := Lib.hid (fun (hv : pnVain like sj (own + v) = false) => HIH.out (setP D x t) (k + 1) (own + v) (pnTick sj) V4 (by omega) hD32'.out (by omega) (by omega) HOKT.out (by rw [pnStop_tick]; exact HNS.out) HB0.out KP4.here)
        cases like
        · have hv : pnVain false sj (own + v) = false := by rw [hvd]; rfl
          have HREC2 := Lib.hid (HREC.out hv)
          have HS := Lib.hid (HGO2.out hv)
          clear hvd hv HREC HGO2 HVAIN2
          go_wp2_with (with_reducible refine load_drum rfl _ rfl Y0.heap.size rfl _ (setP D x t) HDR.out ?_)
          refine HREC2.out.mono ?_
          rw [← HS.out]
          rintro e V5 ⟨rfl, hP5, hk5⟩
          have HK5 := Lib.hid (HK4.out.trans hk5)
          have HP5 := Lib.hid hP5
          clear hk5 hP5 HREC2 c102 c103 c200 HK4 KP4 KD4 KN5
          have d101 := HP5.out.c101
          have d102 := HP5.out.c102
          have d200 := HP5.out.c200
          have hst5 := pnStop_def false sn
          cases hov : sn.over
          · rw [hov] at d101 hst5
            cases hfo : sn.found
            · rw [hfo] at d102 hst5
              have HNX := Lib.hid hst5; clear hst5 hov hfo
              go_wp2
              go_roundw
              case rel => exact ⟨HK5.out, j + 1, by omega, by go_num, by rw [HSN.out]; exact HNX.out, by rw [HSN.out]; exact HP5.out⟩
              case measure => simp [intOf]; omega
            · rw [hfo] at d102 hst5
              have HNX := Lib.hid (HEND.out (hst5.trans rfl)); clear hst5 hov hfo
              go_wp2
              refine bodyPost_ret (v := .tuple #[]) (by simp [results, Try.results89, go_sem]) rfl ⟨rfl, by rw [HNX.out]; exact HP5.out, hKP2.trans HK5.out⟩
          · rw [hov] at d101 hst5
            have HNX := Lib.hid (HEND.out (hst5.trans (Bool.true_or _))); clear hst5 hov
            go_wp2
            refine bodyPost_ret (v := .tuple #[]) (by simp [results, Try.results89, go_sem]) rfl ⟨rfl, by rw [HNX.out]; exact HP5.out, hKP2.trans HK5.out⟩
        · cases fo
          · have hv : pnVain true sj (own + v) = false := by rw [hvd]; rfl
            have HREC2 := Lib.hid (HREC.out hv)
            have HS := Lib.hid (HGO2.out hv)
            clear hvd hv HREC HGO2 HVAIN2
            go_wp2_with (with_reducible refine load_drum rfl _ rfl Y0.heap.size rfl _ (setP D x t) HDR.out ?_)
            refine HREC2.out.mono ?_
            rw [← HS.out]
            rintro e V5 ⟨rfl, hP5, hk5⟩
            have HK5 := Lib.hid (HK4.out.trans hk5)
            have HP5 := Lib.hid hP5
            clear hk5 hP5 HREC2 c102 c103 c200 HK4 KP4 KD4 KN5
            have d101 := HP5.out.c101
            have d102 := HP5.out.c102
            have d200 := HP5.out.c200
            have hst5 := pnStop_def true sn
            cases hov : sn.over
            · rw [hov] at d101 hst5
              cases hfo : sn.found
              · rw [hfo] at d102 hst5
                have HNX := Lib.hid (hst5.trans (by rfl)); clear hst5 hov hfo
                go_wp2
                go_roundw
                case rel => exact ⟨HK5.out, j + 1, by omega, by go_num, by rw [HSN.out]; exact HNX.out, by rw [HSN.out]; exact HP5.out⟩
                case measure => simp [intOf]; omega
              · rw [hfo] at d102 hst5
                have HNX := Lib.hid (hst5.trans (by rfl)); clear hst5 hov hfo
                go_wp2
                go_roundw
                case rel => exact ⟨HK5.out, j + 1, by omega, by go_num, by rw [HSN.out]; exact HNX.out, by rw [HSN.out]; exact HP5.out⟩
                case measure => simp [intOf]; omega
            · rw [hov] at d101 hst5
              have HNX := Lib.hid (HEND.out (hst5.trans (Bool.true_or _))); clear hst5 hov
              go_wp2
              refine bodyPost_ret (v := .tuple #[]) (by simp [results, Try.results89, go_sem]) rfl ⟨rfl, by rw [HNX.out]; exact HP5.out, hKP2.trans HK5.out⟩
          · by_cases hmo : mo ≤ own + v
            · have hv : pnVain true sj (own + v) = true := by rw [hvd]; simp [hmo]
              have HS := Lib.hid (HVAIN2.out hv)
              clear hvd hv HREC HGO2 HVAIN2
              go_wp2
              go_roundw
              case rel => exact ⟨HK4.out, j + 1, by omega, by go_num, by rw [HSN.out, HS.out, pnStop_tick]; exact HNS.out, by rw [HSN.out, HS.out]; exact KP4.here⟩
              case measure => simp [intOf]; omega
            · have hv : pnVain true sj (own + v) = false := by rw [hvd]; simp [hmo]
              have HREC2 := Lib.hid (HREC.out hv)
              have HS := Lib.hid (HGO2.out hv)
              clear hvd hv HREC HGO2 HVAIN2
              go_wp2_with (with_reducible refine load_drum rfl _ rfl Y0.heap.size rfl _ (setP D x t) HDR.out ?_)
              refine HREC2.out.mono ?_
              rw [← HS.out]
              rintro e V5 ⟨rfl, hP5, hk5⟩
              have HK5 := Lib.hid (HK4.out.trans hk5)
              have HP5 := Lib.hid hP5
              clear hk5 hP5 HREC2 c102 c103 c200 HK4 KP4 KD4 KN5
              have d101 := HP5.out.c101
              have d102 := HP5.out.c102
              have d200 := HP5.out.c200
              have hst5 := pnStop_def true sn
              cases hov : sn.over
              · rw [hov] at d101 hst5
                cases hfo : sn.found
                · rw [hfo] at d102 hst5
                  have HNX := Lib.hid (hst5.trans (by rfl)); clear hst5 hov hfo
                  go_wp2
                  go_roundw
                  case rel => exact ⟨HK5.out, j + 1, by omega, by go_num, by rw [HSN.out]; exact HNX.out, by rw [HSN.out]; exact HP5.out⟩
                  case measure => simp [intOf]; omega
                · rw [hfo] at d102 hst5
                  have HNX := Lib.hid (hst5.trans (by rfl)); clear hst5 hov hfo
                  go_wp2
                  go_roundw
                  case rel => exact ⟨HK5.out, j + 1, by omega, by go_num, by rw [HSN.out]; exact HNX.out, by rw [HSN.out]; exact HP5.out⟩
                  case measure => simp [intOf]; omega
              · rw [hov] at d101 hst5
                have HNX := Lib.hid (HEND.out (hst5.trans (Bool.true_or _))); clear hst5 hov
                go_wp2
                refine bodyPost_ret (v := .tuple #[]) (by simp [results, Try.results89, go_sem]) rfl ⟨rfl, by rw [HNX.out]; exact HP5.out, hKP2.trans HK5.out⟩
    · have hjl : j = ls.length := by omega
      subst hjl
      go_wp2
      go_end0
      exact ⟨rfl, KPr.here, hKP2.trans HKO.out⟩
/-- the program's search, from a note on -/
theorem pin_any (w0 : World) (gp : Nat) (m : Nat) (a : Option Addr) (n c : Nat) (P R : Nat → Int) (q : Option Addr) (l e0 : Nat) (A B : Nat → Int) (E : Nat → Nat) (budget : Int) (like : Bool) (hgp : w0.heap.size ≤ gp) (hm : 2 ≤ m ∧ m ≤ 96) (hn : n ≤ 24) (hr : ∀ t, t < n → 1 ≤ R t ∧ R t ≤ m) (hP : I8 P) (KH0 : Kp w0 fun V => HamAt V a n P R) (hl : l ≤ 120) (hA : ∀ i, i < l → 0 ≤ A i ∧ A i < m) (hB : I8 B) (KT0 : Kp w0 fun V => NoteAt V q l A B) (hE : D32 E) (hbud : budget ≤ 20000) (r : Nat) : ∀ (D : Nat → Nat) (k : Nat) (own : Int) (st : PnSt) (w : World), k + r = l → D32 D → 0 ≤ own → own + r ≤ 200 → PnOK budget st → pnStop like st = false → Below w0.heap.size w0 w → PnAt w gp m a n c q l e0 E budget like st →
    Calls Try.prog 89 #[.pointer (some ⟨gp, 0, none⟩), .agg (dc D), .int .i64 (k : Int), .int .i64 own] w fun e w' => e = .returned (.tuple #[]) ∧ PnAt w' gp m a n c q l e0 E budget like (pnB like budget E m n P R A B l r D own st) ∧ KeepO gp w w' := by
  induction r with
  | zero =>
    intro D k own st w hk hD ho ho2 hst hs hb hPn
    rw [pnB_zero]
    exact pin_0 w0 gp m a n c P R q l e0 A B E budget like hgp hm hn hr hP KH0 hl hA hB KT0 hE hbud D k own st w hD ho (by simpa using ho2) hst hk hPn
  | succ r ih =>
    intro D k own st w hk hD ho ho2 hst hs hb hPn
    exact pin_s w0 gp m a n c P R q l e0 A B E budget like hgp hm hn hr hP KH0 hl hA hB KT0 hE hbud r ih D k own st w hk hD ho (by simpa using ho2) hst hs hb hPn
end Go.Proofs.Ytpfjmoodfodfhaa
