/- Tunes pinned greedily: what is laid down, by the reference and by the program. No conditions. -/
import Derived.Test.YtkefjgbcpoggiaaFr
import Derived.Test.YtkefjgbcpoggiaaNew
import Derived.Test.YtkefjgbcpoggiaaHeld2
import Derived.Test.YtkefjgbcpoggiaaBt
import Derived.Outline
namespace Go.Proofs.Ytkefjgbcpoggiaa
open Go.RowKit
set_option linter.unusedVariables false
set_option linter.unusedSimpArgs false

/-- a drum with one more pin -/
def setP (D : Nat → Nat) (k t : Nat) : Nat → Nat := upd D k (D k ||| 2 ^ t)
theorem setP_32 {D : Nat → Nat} (hD : D32 D) {t : Nat} (ht : t < 24) (k : Nat) : D32 (setP D k t) := by
  intro j
  have hb : 2 ^ t < 4294967296 := by have := pow24 ht; omega
  unfold setP upd
  split
  · exact or_lt32 (hD k) hb
  · exact hD j
theorem putRow_or (x b : Nat) : putRow x b true = x ||| b := by
  rw [putRow_t]
  apply Nat.eq_of_testBit_eq
  intro i
  rw [Nat.testBit_or, Nat.testBit_or, andn_testBit]
  cases x.testBit i <;> cases b.testBit i <;> rfl
theorem put_setP (D : Nat → Nat) (k t : Nat) : upd D k (putRow (D k) (2 ^ t) true) = setP D k t := by rw [putRow_or]; rfl
attribute [irreducible] setP
/-- the drum when i notes have been given their first free tracks -/
noncomputable def grD (m n : Nat) (P R A B : Nat → Int) : Nat → Nat → Nat
  | 0 => fun _ => 0
  | i + 1 => match frL m P R (grD m n P R A B i) (A i).toNat (B i) n with
    | [] => grD m n P R A B i
    | x :: _ => setP (grD m n P R A B i) (A i).toNat x.toNat
/-- how many notes have a track -/
noncomputable def grN (m n : Nat) (P R A B : Nat → Int) : Nat → Nat
  | 0 => 0
  | i + 1 => if grN m n P R A B i = i ∧ frL m P R (grD m n P R A B i) (A i).toNat (B i) n ≠ [] then i + 1 else grN m n P R A B i
section
variable {m n : Nat} {P R A B : Nat → Int} {i l : Nat}
theorem grD_zero : grD m n P R A B 0 = fun _ => 0 := rfl
theorem grD_succ {x : Int} {r : List Int} (h : frL m P R (grD m n P R A B i) (A i).toNat (B i) n = x :: r) : grD m n P R A B (i + 1) = setP (grD m n P R A B i) (A i).toNat x.toNat := by
  show (match frL m P R (grD m n P R A B i) (A i).toNat (B i) n with | [] => grD m n P R A B i | x :: _ => setP (grD m n P R A B i) (A i).toNat x.toNat) = _
  rw [h]
theorem grD_32 (hn : n ≤ 24) (i : Nat) : D32 (grD m n P R A B i) := by
  induction i with
  | zero => rw [grD_zero]; intro k; simp
  | succ i ih =>
    show D32 (match frL m P R (grD m n P R A B i) (A i).toNat (B i) n with | [] => grD m n P R A B i | x :: _ => setP (grD m n P R A B i) (A i).toNat x.toNat)
    cases h : frL m P R (grD m n P R A B i) (A i).toNat (B i) n with
    | nil => exact ih
    | cons x r =>
      obtain ⟨t, e, ht, _⟩ := frL_mem n x (by rw [h]; exact List.mem_cons_self)
      show D32 (setP _ _ x.toNat)
      rw [e, Int.toNat_natCast]
      exact setP_32 ih (by omega) _
theorem grN_zero : grN m n P R A B 0 = 0 := rfl
theorem grN_yes (h : grN m n P R A B i = i) {x : Int} {r : List Int} (h2 : frL m P R (grD m n P R A B i) (A i).toNat (B i) n = x :: r) : grN m n P R A B (i + 1) = i + 1 := if_pos ⟨h, by rw [h2]; simp⟩
theorem grN_no (h2 : frL m P R (grD m n P R A B i) (A i).toNat (B i) n = []) : grN m n P R A B (i + 1) = grN m n P R A B i := if_neg fun h => h.2 h2
theorem grN_le (i : Nat) : grN m n P R A B i ≤ i := by
  induction i with
  | zero => exact Nat.le_refl _
  | succ i ih =>
    by_cases h : grN m n P R A B i = i ∧ frL m P R (grD m n P R A B i) (A i).toNat (B i) n ≠ []
    · rw [show grN m n P R A B (i + 1) = i + 1 from if_pos h]; omega
    · rw [show grN m n P R A B (i + 1) = grN m n P R A B i from if_neg h]; omega
theorem grN_stays (h : grN m n P R A B (i + 1) = i) (d : Nat) : grN m n P R A B (i + 1 + d) = i := by
  induction d with
  | zero => exact h
  | succ d ih =>
    show (if grN m n P R A B (i + 1 + d) = i + 1 + d ∧ _ then _ else _) = _
    rw [if_neg (fun h2 => by rw [ih] at h2; omega)]
    exact ih
theorem grN_stop (hi : i < l) (h : grN m n P R A B i = i) (h2 : frL m P R (grD m n P R A B i) (A i).toNat (B i) n = []) : grN m n P R A B l = i := by
  have h3 := grN_stays (i := i) ((grN_no h2).trans h) (l - (i + 1))
  rwa [show i + 1 + (l - (i + 1)) = l by omega] at h3
end
attribute [irreducible] grD grN
/-- all blocks but one are as they were -/
def KeepX (g : Nat) (w V : World) : Prop := w.heap.size ≤ V.heap.size ∧ ∀ j, j ≠ g → j < w.heap.size → V.heap[j]? = w.heap[j]?
theorem KeepX.of {g : Nat} {w V : World} (h : Below w.heap.size w V) : KeepX g w V := ⟨h.size, fun j _ hj => h.block j hj⟩
theorem KeepX.trans {g : Nat} {w V U : World} (h : KeepX g w V) (h2 : KeepX g V U) : KeepX g w U := ⟨Nat.le_trans h.1 h2.1, fun j hj hl => (h2.2 j hj (Nat.lt_of_lt_of_le hl h.1)).trans (h.2 j hj hl)⟩
theorem KeepX.row {g : Nat} {w V : World} (h : KeepX g w V) {x : Nat} {o : Obj} (hx : w.heap[x]? = some o) (hne : x ≠ g) : V.heap[x]? = some o := (h.2 x hne (Array.getElem?_eq_some_iff.1 hx).1).trans hx
theorem KeepX.cell {g : Nat} {w V : World} (h : KeepX g w V) {p : Addr} {v : Value} (hc : w.cell? p = some v) (hp : p.block < w.heap.size) (hne : p.block ≠ g) : V.cell? p = some v := by
  have e := h.2 p.block hne hp
  unfold World.cell? at hc ⊢
  rw [e]; exact hc
set_option maxRecDepth 100000 in
set_option maxHeartbeats 1000000 in
theorem greedily_any (m : Nat) (a : Option Addr) (n c : Nat) (P R : Nat → Int) (q : Option Addr) (l e0 : Nat) (A B : Nat → Int) (w : World) (hm : 2 ≤ m ∧ m ≤ 96) (hn : 1 ≤ n ∧ n ≤ 24) (hr : ∀ t, t < n → 1 ≤ R t ∧ R t ≤ m) (hP : I8 P) (hh : HamAt w a n P R) (hl : l ≤ 120) (hA : ∀ i, i < l → 0 ≤ A i ∧ A i < m) (hB : I8 B) (ht : NoteAt w q l A B) :
    Calls Try.prog 138 #[.agg #[.int .i16 (m : Int), .slice a n c], .slice q l e0] w fun e w' => e = .returned (.tuple #[.agg (dc (grD m n P R A B (grN m n P R A B l))), .int .i64 (grN m n P R A B l : Nat)]) ∧ Below w.heap.size w w' := by
  have HP := Lib.hid hP; have HRR := Lib.hid hr; have HA := Lib.hid hA; have HB := Lib.hid hB; clear hP hr hA hB
  have KB := Kp.base w; have KH := kp_ham hh; have KT := kp_note ht; clear hh ht
  replace KB := KB.alloc (.cells #[.int .i16 (m : Int), .slice a n c] 27)
  have KF := kp_new1 w #[.int .i16 (m : Int), .slice a n c] 27 (g := w.heap.size) (by simp)
  replace KB := KB.alloc (.cells (dc fun _ => 0) 33)
  replace KF := KF.alloc (.cells (dc fun _ => 0) 33)
  have K0 := kp_newd (w.alloc (.cells #[.int .i16 (m : Int), .slice a n c] 27)) (fun _ => 0) 33 (g := w.heap.size + 1) (by simp)
  have HZ := Lib.hid (show ((w.alloc (.cells #[.int .i16 (m : Int), .slice a n c] 27)).alloc (.cells (dc fun _ => 0) 33)).heap.size = w.heap.size + 1 + 1 by simp)
  go_enter Try.func138, Try.ntmps138
  go_wp2_with (first | (with_reducible refine new_drum rfl rfl rfl rfl rfl _ _ rfl rfl rfl ?_; intro W hb hz hg; replace KB := KB.on hb; replace KF := KF.on hb; replace K0 := K0.on hb; rw [HZ.out] at hg; have KG := kp_drum hg; clear hb hz hg) | (with_reducible refine alloc_drum ?_ ?_ ?_; with_reducible rfl; with_reducible rfl))
  clear HZ
  go_loopw [13] (fun i w' => Below w.heap.size w w' ∧ w'.heap[w.heap.size]? = some (.cells #[.int .i16 (m : Int), .slice a n c] 27 (0, 0)) ∧ DrumAt w' 33 (w.heap.size + 1) (fun _ => 0) ∧ ∃ k : Nat, k ≤ l ∧ i = .int .i64 k ∧ grN m n P R A B k = k ∧ DrumAt w' 33 (w.heap.size + 1 + 1) (grD m n P R A B k)) (fun i _ => l - (intOf i).toNat)
  case atStart => exact ⟨KB.here, KF.here, K0.here, 0, by omega, rfl, grN_zero, by rw [grD_zero]; exact KG.here⟩
  case round =>
    clear KF K0 KG KB
    obtain ⟨hb, hF, hZ, k, hk, rfl, hgn, hG⟩ := hrel
    have KF := kp_row hF; have K0 := kp_drum hZ; have KG := kp_drum hG; have KGw := KG; clear hF hZ hG
    have KH1 := KH.on hb; have KT1 := KT.on hb
    have hD32 := grD_32 (m := m) (P := P) (R := R) (A := A) (B := B) hn.2 k
    have hstop := grN_stop (m := m) (n := n) (P := P) (R := R) (A := A) (B := B) (i := k) (l := l)
    have hyes : ∀ (z : Int) (r : List Int), frL m P R (grD m n P R A B k) (A k).toNat (B k) n = z :: r → grN m n P R A B (k + 1) = k + 1 := fun z r => grN_yes hgn
    have hsucc : ∀ (z : Int) (r : List Int), frL m P R (grD m n P R A B k) (A k).toNat (B k) n = z :: r → grD m n P R A B (k + 1) = setP (grD m n P R A B k) (A k).toNat z.toNat := fun z r => grD_succ
    obtain ⟨D, hD⟩ : ∃ D, grD m n P R A B k = D := ⟨_, rfl⟩
    rw [hD] at KG hD32 hstop hyes hsucc
    have HDK := Lib.hid hD; have HD32 := Lib.hid hD32; have HGN := Lib.hid hgn; clear hD hD32 hgn
    by_cases hlt : k < l
    · have hk' : (k : Int) < l := by omega
      have hx := NoteAt.get KT1.here (show 0 < l by omega)
      obtain ⟨g, off, rfl, hg, hc⟩ := hx
      have c0 := (hc k hlt).1
      have c1 := (hc k hlt).2
      clear hc
      obtain ⟨x, hxA⟩ : ∃ x : Nat, A k = x := ⟨(A k).toNat, by have := HA.out k hlt; omega⟩
      have hxm : x < m := by have := HA.out k hlt; omega
      rw [hxA] at c0 hstop hyes hsucc
      rw [Int.toNat_natCast] at hstop hyes hsucc
      have HXA := Lib.hid hxA; clear hxA
      have hBk := HB.out k
      have q0 := i64_id (x := (x : Int)) (by omega)
      have q1 := i64_id (x := B k) (by omega)
      have HST := Lib.hid hstop; have HYES := Lib.hid hyes; have HSU := Lib.hid hsucc; clear hstop hyes hsucc
      go_wp2_with (with_reducible refine load_iframe rfl _ rfl w.heap.size rfl _ (m : Int) a n c (KF.alloc _).here ?_)
      replace KF := KF.alloc (.cells #[.int .i16 (x : Int), .int .i8 (B k)] 161)
      replace K0 := K0.alloc (.cells #[.int .i16 (x : Int), .int .i8 (B k)] 161)
      replace KG := KG.alloc (.cells #[.int .i16 (x : Int), .int .i8 (B k)] 161)
      replace KH1 := KH1.alloc (.cells #[.int .i16 (x : Int), .int .i8 (B k)] 161)
      have KN := kp_new1 wr #[.int .i16 (x : Int), .int .i8 (B k)] 161 (g := wr.heap.size) rfl
      have KG1 : w.heap.size + 1 + 1 < wr.heap.size := (KGw.here).lt
      have hb1 := hb.alloc hb.size (.cells #[.int .i16 (x : Int), .int .i8 (B k)] 161)
      generalize (wr.alloc (.cells #[.int .i16 (x : Int), .int .i8 (B k)] 161)) = W1 at KF K0 KG KH1 KN hb1 ⊢
      have hgb : w.heap.size + 1 + 1 < W1.heap.size := KG.here.lt
      refine (freeTracks_any (w.heap.size + 1 + 1) 33 m a n c P R D x (B k) W1 hm hxm hn.2 HRR.out HP.out HD32.out KG.here KH1.here).mono ?_
      rintro e w2 ⟨v, rfl, hb2, hown⟩
      replace KF := KF.on hb2
      replace K0 := K0.on hb2
      replace KG := KG.on hb2
      replace KN := KN.on hb2
      have hb3 := hb1.trans (hb2.mono hb1.size)
      obtain ⟨ls, hls⟩ : ∃ ls, frL m P R D x (B k) n = ls := ⟨_, rfl⟩
      have hmem := frL_mem (m := m) (P := P) (R := R) (D := D) (k := x) (p := B k) n
      rw [hls] at hown hmem
      have HLS := Lib.hid hls; clear hls
      have HOB := Lib.hid (OwnI.lt hown)
      obtain ⟨vb, vc, rfl, hz⟩ := OwnI.at hown
      clear hown
      cases ls with
      | nil =>
        have HE := Lib.hid (HST.out hlt HGN.out HLS.out)
        clear hmem hz
        rw [List.length_nil]
        have h0 := K0.here
        go_wp2_with (first | (with_reducible refine load_drum rfl _ rfl (w.heap.size + 1 + 1) rfl _ D KG.here ?_) | (with_reducible refine store_drum rfl _ _ rfl (w.heap.size + 1) D rfl rfl _ _ h0 ?_))
        refine bodyPost_ret (results_drum2 rfl _ _ (w.heap.size + 1) _ D (.int .i64 (k : Int)) rfl (DrumAt.setRow h0 _) rfl) rfl ⟨by rw [HE.out, HDK.out], below_setRow hb3 (by omega) _⟩
      | cons z r =>
        obtain ⟨t, rfl, htn, _⟩ := hmem z List.mem_cons_self
        clear hmem
        have hx := IntAt.get hz (show 0 < (((t : Int) :: r) : List Int).length by simp)
        obtain ⟨gz, oz, rfl, hgz, hcz⟩ := hx
        have hz0 := hcz 0 (by simp)
        rw [Nat.add_zero] at hz0
        have HZ0 := Lib.hid hz0
        clear hcz hz hz0
        rw [List.length_cons] at ⊢
        obtain ⟨rl, hrl⟩ : ∃ x, r.length = x := ⟨_, rfl⟩
        rw [hrl]
        have q5 : ¬ ((rl : Int) + 1 = 0) := by omega
        have hgn : wr.heap.size ≠ w.heap.size + 1 + 1 := by have := KG1; omega
        have hgz2 : gz ≠ w.heap.size + 1 + 1 := by have := (HOB.out gz rfl).1; omega
        go_wp2
        have hS0 : KeepX (w.heap.size + 1 + 1) w2 w2.drew := .of (below_drew w2)
        refine wp_region_S (KeepX (w.heap.size + 1 + 1) w2) (by kernel_rfl) hS0 ?_
        refine take_val 0 (.pointer (some ⟨wr.heap.size, 0, none⟩)) rfl (by kernel_rfl) (by kernel_rfl) (by kernel_rfl) (fun _ _ _ h => h) rfl (fun V hV => by simp [go_sem]) hS0 ?_
        simp only [List.getElem_toArray, List.getElem_cons_zero, List.getElem_cons_succ, Act.put, List.setIfInBounds_toArray, List.set_cons_zero, List.set_cons_succ]
        refine take_val 1 (.int .i16 (x : Int)) rfl (by kernel_rfl) (by kernel_rfl) (by kernel_rfl) (fun _ _ _ h => h) rfl (fun V hV => by have c := row_cell 0 (hV.row KN.here hgn); simp [go_sem, c]) hS0 ?_
        simp only [List.getElem_toArray, List.getElem_cons_zero, List.getElem_cons_succ, Act.put, List.setIfInBounds_toArray, List.set_cons_zero, List.set_cons_succ]
        refine take_val 2 (.int .i64 (x : Int)) rfl (by kernel_rfl) (by kernel_rfl) (by kernel_rfl) (fun _ _ _ h => h) rfl (fun V hV => by simp [go_sem, q0]) hS0 ?_
        simp only [List.getElem_toArray, List.getElem_cons_zero, List.getElem_cons_succ, Act.put, List.setIfInBounds_toArray, List.set_cons_zero, List.set_cons_succ]
        refine take_val 3 (.slice (some ⟨gz, oz, none⟩) (rl + 1) vc) rfl (by kernel_rfl) (by kernel_rfl) (by kernel_rfl) (fun _ _ _ h => h) rfl (fun V hV => by simp [go_sem]) hS0 ?_
        simp only [List.getElem_toArray, List.getElem_cons_zero, List.getElem_cons_succ, Act.put, List.setIfInBounds_toArray, List.set_cons_zero, List.set_cons_succ]
        refine take_val 4 (.pointer (some ⟨gz, oz, none⟩)) rfl (by kernel_rfl) (by kernel_rfl) (by kernel_rfl) (fun _ _ _ h => h) rfl (fun V hV => by simp [go_sem]) hS0 ?_
        simp only [List.getElem_toArray, List.getElem_cons_zero, List.getElem_cons_succ, Act.put, List.setIfInBounds_toArray, List.set_cons_zero, List.set_cons_succ]
        refine take_val 5 (.int .i64 (t : Int)) rfl (by kernel_rfl) (by kernel_rfl) (by kernel_rfl) (fun _ _ _ h => h) rfl (fun V hV => by have c := hV.cell HZ0.out hgz hgz2; simp [go_sem, c]) hS0 ?_
        simp only [List.getElem_toArray, List.getElem_cons_zero, List.getElem_cons_succ, Act.put, List.setIfInBounds_toArray, List.set_cons_zero, List.set_cons_succ]
        refine step_call 6 195 #[.pointer (some ⟨w.heap.size + 1 + 1, 0, none⟩), .int .i64 (x : Int), .int .i64 (t : Int), .bool true] (by kernel_rfl) rfl rfl (by simp [go_sem]) ?_
        refine (put_any (w.heap.size + 1 + 1) 33 D x t true w2.drew HD32.out (by omega) (by omega) (KG.at (below_drew w2))).mono ?_
        rintro e w4 ⟨⟨v4, rfl⟩, hb4, hoth, hdr⟩
        rw [put_setP] at hdr
        have hE := HSU.out _ _ HLS.out
        rw [Int.toNat_natCast] at hE
        rw [← hE] at hdr
        have hs4 : w2.heap.size ≤ w4.heap.size := by have := hb4.size; simpa using this
        refine ⟨_, rfl, ⟨hs4, fun j hj _ => hoth j hj⟩, ?_⟩
        simp only [List.getElem_toArray, List.getElem_cons_zero, List.getElem_cons_succ, Act.put, List.setIfInBounds_toArray, List.set_cons_zero, List.set_cons_succ]
        refine wpAnyH_done (by kernel_rfl) ?_ _
        have hF4 : w4.heap[w.heap.size]? = some (.cells #[.int .i16 (m : Int), .slice a n c] 27 (0, 0)) := (hoth _ (by omega)).trans (KF.at (below_drew w2))
        have hZ4 : DrumAt w4 33 (w.heap.size + 1) (fun _ => 0) := (hoth _ (by omega)).trans ((kp_row K0.here).at (below_drew w2))
        have hbF : Below w.heap.size w w4 := hb3.drew.trans (hb4.mono (by omega))
        have HYY := Lib.hid (HYES.out _ _ HLS.out)
        go_wp2
        go_roundw
        case rel => exact ⟨hbF, hF4, hZ4, k + 1, by omega, by go_num, HYY.out, hdr⟩
        case measure => simp [intOf]; omega
    · have hkl : k = l := by omega
      subst hkl
      have h0 := K0.here
      go_wp2_with (first | (with_reducible refine load_drum rfl _ rfl (w.heap.size + 1 + 1) rfl _ D KG.here ?_) | (with_reducible refine store_drum rfl _ _ rfl (w.heap.size + 1) D rfl rfl _ _ h0 ?_))
      refine bodyPost_ret (results_drum2 rfl _ _ (w.heap.size + 1) _ D (.int .i64 (k : Int)) rfl (DrumAt.setRow h0 _) rfl) rfl ⟨by rw [HGN.out, HDK.out], below_setRow hb (by omega) _⟩
/-- what the reference hands back: no drum where a note is left over -/
noncomputable def grS (m n : Nat) (P R A B : Nat → Int) (l : Nat) : Nat → Nat := if grN m n P R A B l < l then fun _ => 0 else grD m n P R A B l
noncomputable def grI (m n : Nat) (P R A B : Nat → Int) (l : Nat) : Int := if grN m n P R A B l < l then (grN m n P R A B l : Nat) else -1
theorem grS_no {m n l : Nat} {P R A B : Nat → Int} (h : grN m n P R A B l < l) : grS m n P R A B l = (fun _ => 0) ∧ grI m n P R A B l = (grN m n P R A B l : Nat) := ⟨if_pos h, if_pos h⟩
theorem grS_yes {m n l : Nat} {P R A B : Nat → Int} (h : grN m n P R A B l = l) : grS m n P R A B l = grD m n P R A B l ∧ grI m n P R A B l = -1 := ⟨if_neg (by omega), if_neg (by omega)⟩
attribute [irreducible] grS grI
set_option maxRecDepth 100000 in
set_option maxHeartbeats 1000000 in
theorem l03Greedy_any (gf Tf : Nat) (m : Nat) (a : Option Addr) (n c : Nat) (P R : Nat → Int) (q : Option Addr) (l e0 : Nat) (A B : Nat → Int) (w : World) (hm : 2 ≤ m ∧ m ≤ 96) (hn : 1 ≤ n ∧ n ≤ 24) (hr : ∀ t, t < n → 1 ≤ R t ∧ R t ≤ m) (hP : I8 P) (hf : w.heap[gf]? = some (.cells #[.int .i16 (m : Int), .slice a n c] Tf (0, 0))) (hh : HamAt w a n P R) (hl : l ≤ 120) (hA : ∀ i, i < l → 0 ≤ A i ∧ A i < m) (hB : I8 B) (ht : NoteAt w q l A B) :
    Calls Try.prog 137 #[.pointer (some ⟨gf, 0, none⟩), .slice q l e0] w fun e w' => e = .returned (.tuple #[.agg (dc (grS m n P R A B l)), .int .i64 (grI m n P R A B l)]) ∧ Below w.heap.size w w' := by
  have HP := Lib.hid hP; have HRR := Lib.hid hr; have HA := Lib.hid hA; have HB := Lib.hid hB; clear hP hr hA hB
  have KB := Kp.base w; have KH := kp_ham hh; have KT := kp_note ht; have KF := kp_row hf; clear hh ht hf
  replace KB := KB.alloc (.cells (dc fun _ => 0) 33)
  have K0 := kp_newd w (fun _ => 0) 33 (g := w.heap.size) (by simp)
  have HZ := Lib.hid (show (w.alloc (.cells (dc fun _ => 0) 33)).heap.size = w.heap.size + 1 by simp)
  go_enter Try.func137, Try.ntmps137
  go_wp2_with (first | (with_reducible refine new_drum rfl rfl rfl rfl rfl _ _ rfl rfl rfl ?_; intro W hb hz hg; replace KB := KB.on hb; replace K0 := K0.on hb; rw [HZ.out] at hg; have KG := kp_drum hg; clear hb hz hg) | (with_reducible refine alloc_drum ?_ ?_ ?_; with_reducible rfl; with_reducible rfl))
  clear HZ
  go_loopw [7] (fun i w' => Below w.heap.size w w' ∧ DrumAt w' 33 w.heap.size (fun _ => 0) ∧ ∃ k : Nat, k ≤ l ∧ i = .int .i64 k ∧ grN m n P R A B k = k ∧ DrumAt w' 33 (w.heap.size + 1) (grD m n P R A B k)) (fun i _ => l - (intOf i).toNat)
  case atStart => exact ⟨KB.here, K0.here, 0, by omega, rfl, grN_zero, by rw [grD_zero]; exact KG.here⟩
  case round =>
    clear K0 KG KB
    obtain ⟨hb, hZ, k, hk, rfl, hgn, hG⟩ := hrel
    have K0 := kp_drum hZ; have KG := kp_drum hG; have hgb : w.heap.size + 1 < wr.heap.size := hG.lt; clear hZ hG
    have KH1 := KH.on hb; have KT1 := KT.on hb; have KF1 := KF.on hb
    have hD32 := grD_32 (m := m) (P := P) (R := R) (A := A) (B := B) hn.2 k
    have hstop := grN_stop (m := m) (n := n) (P := P) (R := R) (A := A) (B := B) (i := k) (l := l)
    have hyes : ∀ (z : Int) (r : List Int), frL m P R (grD m n P R A B k) (A k).toNat (B k) n = z :: r → grN m n P R A B (k + 1) = k + 1 := fun z r => grN_yes hgn
    have hsucc : ∀ (z : Int) (r : List Int), frL m P R (grD m n P R A B k) (A k).toNat (B k) n = z :: r → grD m n P R A B (k + 1) = setP (grD m n P R A B k) (A k).toNat z.toNat := fun z r => grD_succ
    obtain ⟨D, hD⟩ : ∃ D, grD m n P R A B k = D := ⟨_, rfl⟩
    rw [hD] at KG hD32 hstop hyes hsucc
    have HDK := Lib.hid hD; have HD32 := Lib.hid hD32; have HGN := Lib.hid hgn; clear hD hD32 hgn
    by_cases hlt : k < l
    · have hk' : (k : Int) < l := by omega
      have hx := NoteAt.get KT.here (show 0 < l by omega)
      obtain ⟨g, off, rfl, hg, hc⟩ := hx
      have hgw : g < wr.heap.size := Nat.lt_of_lt_of_le hg hb.size
      have KC0 := kp_cell ((hb.cell (p := ⟨g, off + k * 2, none⟩) hg).trans (hc k hlt).1) hgw
      have c1 := (hb.cell (p := ⟨g, off + k * 2 + 1, none⟩) hg).trans (hc k hlt).2
      clear hc
      obtain ⟨x, hxA⟩ : ∃ x : Nat, A k = x := ⟨(A k).toNat, by have := HA.out k hlt; omega⟩
      have hxm : x < m := by have := HA.out k hlt; omega
      rw [hxA] at KC0 hstop hyes hsucc
      rw [Int.toNat_natCast] at hstop hyes hsucc
      have c0 := KC0.here
      have HXA := Lib.hid hxA; clear hxA
      have hBk := HB.out k
      have HST := Lib.hid hstop; have HYES := Lib.hid hyes; have HSU := Lib.hid hsucc; clear hstop hyes hsucc
      go_wp2_with fail
      refine (l03Tracks_any gf (w.heap.size + 1) Tf 33 m a n c P R D x (B k) wr hm hxm hn.2 HRR.out HP.out HD32.out KF1.here KG.here KH1.here).mono ?_
      rintro e w2 ⟨v, rfl, hb2, hown⟩
      replace K0 := K0.on hb2
      replace KG := KG.on hb2
      replace KC0 := KC0.on hb2
      have hb3 := hb.trans (hb2.mono hb.size)
      obtain ⟨ls, hls⟩ : ∃ ls, frL m P R D x (B k) n = ls := ⟨_, rfl⟩
      have hmem := frL_mem (m := m) (P := P) (R := R) (D := D) (k := x) (p := B k) n
      rw [hls] at hown hmem
      have HLS := Lib.hid hls; clear hls
      have HOB := Lib.hid (OwnI.lt hown)
      obtain ⟨vb, vc, rfl, hz⟩ := OwnI.at hown
      clear hown
      cases ls with
      | nil =>
        have hE := HST.out hlt HGN.out HLS.out
        have HE := Lib.hid (grS_no (show grN m n P R A B l < l by omega))
        rw [hE] at HE
        clear hmem hz hE
        rw [List.length_nil]
        have h0 := K0.here
        go_wp2_with (first | (with_reducible refine build_drum rfl rfl ?_) | (with_reducible refine store_drum rfl _ _ rfl w.heap.size (fun _ => 0) rfl rfl _ _ h0 ?_))
        refine bodyPost_ret (results_drum2 rfl _ _ w.heap.size _ (fun _ => 0) (.int .i64 (k : Int)) rfl (DrumAt.setRow h0 _) rfl) rfl ⟨by rw [HE.out.1, HE.out.2], below_setRow hb3 (by omega) _⟩
      | cons z r =>
        obtain ⟨t, rfl, htn, _⟩ := hmem z List.mem_cons_self
        clear hmem
        have hx := IntAt.get hz (show 0 < (((t : Int) :: r) : List Int).length by simp)
        obtain ⟨gz, oz, rfl, hgz, hcz⟩ := hx
        have hz0 := hcz 0 (by simp)
        rw [Nat.add_zero] at hz0
        have HZ0 := Lib.hid hz0
        clear hcz hz hz0
        rw [List.length_cons] at ⊢
        obtain ⟨rl, hrl⟩ : ∃ x, r.length = x := ⟨_, rfl⟩
        rw [hrl]
        have q5 : ¬ ((rl : Int) + 1 = 0) := by omega
        have hgz2 : gz ≠ w.heap.size + 1 := by have := (HOB.out gz rfl).1; omega
        have hx96 : (x : Int) < 96 := by omega
        have c0 := KC0.here
        have cx := KG.here.cell x (by omega)
        have fx := KG.here.frozen x
        have cz := HZ0.out
        obtain ⟨b, hb2t⟩ : ∃ b, 2 ^ t = b := ⟨_, rfl⟩
        have hcon := fun W : World => l03Bit_any t W (show t < 24 by omega)
        rw [hb2t] at hcon
        have HCON := Lib.hid hcon; clear hcon
        have hb32 : b < 4294967296 := by have := pow24 (show t < 24 by omega); omega
        have hor := bits_or_u32 (HD32.out x) hb32
        have HS2 := Lib.hid (show setP D x t = upd D x (D x ||| b) by rw [← hb2t]; unfold setP; rfl)
        have HB2 := Lib.hid hb2t; clear hb2t
        have HY2 := Lib.hid (HYES.out _ _ HLS.out)
        have HSU2 := Lib.hid (HSU.out _ _ HLS.out)
        have HG2 := Lib.hid (KG.at (below_drew w2))
        have H02 := Lib.hid (K0.at (below_drew w2))
        have hbd := hb3.drew
        have HBD := Lib.hid hbd; clear hbd
        go_wp2
        refine wp_region_still_tail 13 (by kernel_rfl) (by kernel_rfl) ?_
        simp only [List.take_succ_cons, List.take_zero, List.drop_succ_cons, List.drop_zero]
        repeat still_step
        still_call ((HCON.out _).mono fun _ _ h => ⟨h.1, h.2.symm⟩)
        repeat still_step
        refine wpStill_nil ?_
        go_wp2
        go_roundw
        case rel =>
          refine ⟨HBD.out.setCell (by simp) _, H02.out.setOther _ _ (by simp), k + 1, by omega, by go_num, HY2.out, ?_⟩
          have h := HG2.out.setCell x (D x ||| b) (by omega)
          rw [← HS2.out] at h
          have h2 := HSU2.out
          rw [Int.toNat_natCast] at h2
          rw [h2]
          exact h
        case measure => simp [intOf]; omega
    · have hkl : k = l := by omega
      subst hkl
      have HE := Lib.hid (grS_yes HGN.out)
      have h0 := K0.here
      go_wp2_with (first | (with_reducible refine load_drum rfl _ rfl (w.heap.size + 1) rfl _ D KG.here ?_) | (with_reducible refine store_drum rfl _ _ rfl w.heap.size D rfl rfl _ _ h0 ?_))
      refine bodyPost_ret (results_drum2 rfl _ _ w.heap.size _ D (.int .i64 (-1)) rfl (DrumAt.setRow h0 _) rfl) rfl ⟨by rw [HE.out.1, HE.out.2, HDK.out], below_setRow hb (by omega) _⟩
end Go.Proofs.Ytkefjgbcpoggiaa
