/- LayTunes: what is laid down; by the reference; by the program. No conditions. No conditions. -/
import Derived.Test.YtpfjmoodfodfhaaPk
import Derived.Test.YtpfjmoodfodfhaaTu
import Derived.Test.YtpfjmoodfodfhaaOwnS
import Derived.Test.YtpfjmoodfodfhaaOwnN
import Derived.Test.YtpfjmoodfodfhaaOwnG
import Derived.Test.YtpfjmoodfodfhaaPN
import Derived.Test.YtpfjmoodfodfhaaMb
import Derived.Outline
namespace Go.Proofs.Ytpfjmoodfodfhaa
open Go.RowKit
set_option linter.unusedVariables false
set_option linter.unusedSimpArgs false

/-! LayTunes: what is laid down; packed sections of up to 200 steps. No conditions. -/
theorem pk_boundW {Z : Nat → Int} {gap : Int} (hg : 0 ≤ gap ∧ gap ≤ 96) : ∀ k, (∀ i, i < k → 1 ≤ Z i ∧ Z i ≤ 200) → 0 ≤ pkE Z gap k ∧ pkE Z gap k ≤ 296 * k ∧ pkE Z gap k ≤ pkA Z gap k ∧ pkA Z gap k ≤ pkE Z gap k + 96 := by
  intro k
  induction k with
  | zero => intro _; rw [pkA_zero, pkE_zero]; omega
  | succ k ih =>
    intro h
    have h1 := ih fun i hi => h i (by omega)
    have h2 := h k (by omega)
    rw [pkA_pos Z gap (by omega : 0 < k + 1), pkE_succ]
    omega
theorem pk_monoW {Z : Nat → Int} {gap : Int} (hg : 0 ≤ gap ∧ gap ≤ 96) {n : Nat} (h : ∀ i, i < n → 1 ≤ Z i ∧ Z i ≤ 200) : ∀ k, k ≤ n → pkE Z gap k ≤ pkE Z gap n := by
  intro k hk
  induction n with
  | zero => rw [show k = 0 by omega]; exact Int.le_refl _
  | succ n ih =>
    by_cases e : k = n + 1
    · rw [e]; exact Int.le_refl _
    · have h1 := ih (fun i hi => h i (by omega)) (by omega)
      have h2 := (pk_boundW hg n fun i hi => h i (by omega)).2.2.1
      have h3 := h n (by omega)
      rw [pkE_succ]
      omega
set_option maxRecDepth 100000 in
set_option maxHeartbeats 1000000 in
theorem packedW_any (s : Int) (a : Option Addr) (n c : Nat) (q : Option Addr) (l x0 : Nat) (Z : Nat → Int) (gap : Int) (w : World) (hs : 0 ≤ s ∧ s ≤ 32767) (hl : l ≤ 12) (hg : 0 ≤ gap ∧ gap ≤ 96) (hZ : ∀ k, k < l → 1 ≤ Z k ∧ Z k ≤ 200) (hz : IntAt w q l Z) :
    Calls Try.prog 97 #[.agg #[.int .i16 s, .slice a n c], .slice q l x0, .int .i64 gap] w fun e w' => ∃ v, e = .returned (.tuple #[v, .int .i64 (pkd s l Z gap).2]) ∧ Below w.heap.size w w' ∧ OwnS w' w.heap.size v (pkd s l Z gap).1 := by
  have HZZ := Lib.hid hZ; clear hZ
  have KB := Kp.base w; have KZ := kp_int hz; clear hz
  replace KB := KB.alloc (.cells #[.int .i16 s, .slice a n c] 27)
  replace KZ := KZ.alloc (.cells #[.int .i16 s, .slice a n c] 27)
  have KF := kp_new1 w #[.int .i16 s, .slice a n c] 27 (g := w.heap.size) (by simp)
  have HZ := Lib.hid (show (w.alloc (.cells #[.int .i16 s, .slice a n c] 27)).heap.size = w.heap.size + 1 by simp)
  go_enter Try.func97, Try.ntmps97
  go_wp2
  generalize (w.alloc (.cells #[.int .i16 s, .slice a n c] 27)) = W at KB KZ KF HZ ⊢
  have hbs := KB.here.size
  go_loopw [8, 9, 15] (fun v t i w' => Below W.heap.size W w' ∧ ∃ k : Nat, k ≤ l ∧ i = .int .i64 k ∧ t = .int .i64 (pkE Z gap k) ∧ (∀ j, j ≤ k → 0 < j → pkE Z gap j ≤ s) ∧ OwnS w' W.heap.size v (pkL Z gap k)) (fun _ _ i _ => l - (intOf i).toNat)
  case atStart => exact ⟨(Below.refl _ _).alloc (Nat.le_refl _) _, 0, by omega, rfl, by rw [pkE_zero], fun j hj h0 => by omega, by rw [pkL_zero, ← HZ.out]; exact OwnL.nil W W.heap.size (Nat.le_refl _)⟩
  case round =>
    obtain ⟨hb, k, hk, rfl, rfl, hall, hown⟩ := hrel
    have HOWN := Lib.hid hown; have HALL := Lib.hid hall; clear hown hall
    replace KB := KB.on hb
    replace KZ := KZ.on hb
    replace KF := KF.on hb
    by_cases hlt : k < l
    · have hk' : (k : Int) < l := by omega
      have hx := IntAt.get KZ.here (show 0 < l by omega)
      obtain ⟨g, off, rfl, hg2, hc⟩ := hx
      have c0 := hc k hlt
      have f0 := row_cell 0 KF.here
      clear hc
      have hzk := HZZ.out k hlt
      have hbd := pk_boundW hg k fun i hi => HZZ.out i (by omega)
      have hlen := pkL_len Z gap k
      have HLEN := Lib.hid hlen; clear hlen
      have HS := Lib.hid (pkL_succ Z gap k)
      have HE := Lib.hid (pkE_succ Z gap k)
      obtain ⟨y, hy⟩ : ∃ y, pkA Z gap k = y := ⟨_, rfl⟩
      rw [hy] at HS HE hbd
      obtain ⟨x, hx⟩ : ∃ x, pkE Z gap k = x := ⟨_, rfl⟩
      rw [hx] at hbd ⊢
      obtain ⟨z, hz⟩ : ∃ z, Z k = z := ⟨_, rfl⟩
      rw [hz] at HS HE hzk c0
      have hsz := hb.size
      by_cases h0 : 0 < k
      · have hya := pkA_pos Z gap h0
        rw [hy, hx] at hya
        have HY := Lib.hid hy; have HX := Lib.hid hx; have HZZ2 := Lib.hid hz; clear hy hx hz
        subst hya
        by_cases hf : x + gap + z ≤ s
        · go_wp2_with (at_builtin; refine append_sections rfl _ _ rfl W.heap.size _ (pkL Z gap k) rfl (OwnS.alloc HOWN.out _) ⟨wr.heap.size, 0, none⟩ 1 1 [(x + gap, z)] rfl rfl (one_cells (heap_alloc_new wr _)) (by rw [HLEN.out]; omega) (by simp; omega) ?_; intro v2 w2 hown2 hb2; have HO2 := Lib.hid hown2; have HB2 := Lib.hid hb2; clear hown2 hb2)
          go_roundw
          case rel => exact ⟨(hb.alloc hsz _).trans HB2.out, k + 1, by omega, by go_num, by rw [HE.out], fun j hj h0 => if e : j = k + 1 then by rw [e, HE.out]; exact hf else HALL.out j (by omega) h0, by rw [HS.out]; exact HO2.out⟩
          case measure => simp [intOf]; omega
        · have hno := Lib.hid (show ¬ pkE Z gap l ≤ s by
            have h1 := pk_monoW hg HZZ.out (k + 1) (by omega)
            rw [HE.out] at h1
            omega)
          have hr := Lib.hid (pkd_no hno.out)
          go_wp2
          go_ret2
          exact ⟨_, by rw [hr.out]; rfl, KB.here, by rw [hr.out]; exact OwnL.none0 _ _⟩
      · have hya := pkA_eq Z gap h0
        rw [hy, hx] at hya
        have h0' : ¬ (0 : Int) < k := by omega
        have HY := Lib.hid hy; have HX := Lib.hid hx; have HZZ2 := Lib.hid hz; clear hy hx hz
        subst hya
        by_cases hf : y + z ≤ s
        · go_wp2_with (at_builtin; refine append_sections rfl _ _ rfl W.heap.size _ (pkL Z gap k) rfl (OwnS.alloc HOWN.out _) ⟨wr.heap.size, 0, none⟩ 1 1 [(y, z)] rfl rfl (one_cells (heap_alloc_new wr _)) (by rw [HLEN.out]; omega) (by simp; omega) ?_; intro v2 w2 hown2 hb2; have HO2 := Lib.hid hown2; have HB2 := Lib.hid hb2; clear hown2 hb2)
          go_roundw
          case rel => exact ⟨(hb.alloc hsz _).trans HB2.out, k + 1, by omega, by go_num, by rw [HE.out], fun j hj h0 => if e : j = k + 1 then by rw [e, HE.out]; exact hf else HALL.out j (by omega) h0, by rw [HS.out]; exact HO2.out⟩
          case measure => simp [intOf]; omega
        · have hno := Lib.hid (show ¬ pkE Z gap l ≤ s by
            have h1 := pk_monoW hg HZZ.out (k + 1) (by omega)
            rw [HE.out] at h1
            omega)
          have hr := Lib.hid (pkd_no hno.out)
          go_wp2
          go_ret2
          exact ⟨_, by rw [hr.out]; rfl, KB.here, by rw [hr.out]; exact OwnL.none0 _ _⟩
    · have hkl : k = l := by omega
      subst hkl
      have hfit : pkE Z gap k ≤ s := by
        by_cases h0 : 0 < k
        · exact HALL.out k (Nat.le_refl _) h0
        · rw [show k = 0 by omega, pkE_zero]; exact hs.1
      have hr := Lib.hid (pkd_fits hfit); clear hfit
      go_wp2
      go_ret2
      exact ⟨_, by rw [hr.out]; rfl, KB.here, by rw [hr.out]; exact HOWN.out.mono hbs⟩
/-- the steps of a tune that is laid -/
def zT (N : Nat → Nat) (A : Nat → Nat → Int) (k : Nat) : Int := if N k = 0 then 1 else tLen (N k) (A k)
theorem zT_none {N : Nat → Nat} {A : Nat → Nat → Int} {k : Nat} (h : N k = 0) : zT N A k = 1 := if_pos h
theorem zT_some {N : Nat → Nat} {A : Nat → Nat → Int} {k : Nat} (h : ¬ N k = 0) : zT N A k = tLen (N k) (A k) := if_neg h
theorem zT_bound {m : Nat} {N : Nat → Nat} {A Q : Nat → Nat → Int} (h : tAll m N A Q = true) : ∀ k, k < m → 1 ≤ zT N A k ∧ zT N A k ≤ 200 := by
  intro k hk
  by_cases h0 : N k = 0
  · rw [zT_none h0]; omega
  · obtain ⟨_, h1, _⟩ := vTune_facts (tAll_iff.1 h k hk)
    have h2 := (h1 (N k - 1) (by omega)).1
    rw [zT_some h0, tLen_pos _ (by omega)]
    omega
/-- j notes of a tune, moved -/
def nL (a : Int) (A Q : Nat → Int) : Nat → List (Int × Int)
  | 0 => []
  | j + 1 => nL a A Q j ++ [(a + A j, Q j)]
theorem nL_zero (a : Int) (A Q : Nat → Int) : nL a A Q 0 = [] := rfl
theorem nL_succ (a : Int) (A Q : Nat → Int) (j : Nat) : nL a A Q (j + 1) = nL a A Q j ++ [(a + A j, Q j)] := rfl
theorem nL_len (a : Int) (A Q : Nat → Int) (j : Nat) : (nL a A Q j).length = j := by
  induction j with
  | zero => rfl
  | succ j ih => rw [nL_succ, List.length_append, ih]; rfl
section
variable (N : Nat → Nat) (A Q : Nat → Nat → Int) (gap : Int)
/-- the notes of k tunes -/
def ltO : Nat → List (Int × Int)
  | 0 => []
  | k + 1 => ltO k ++ nL (pkA (zT N A) gap k) (A k) (Q k) (N k)
end
theorem ltO_zero (N : Nat → Nat) (A Q : Nat → Nat → Int) (gap : Int) : ltO N A Q gap 0 = [] := rfl
theorem ltO_succ (N : Nat → Nat) (A Q : Nat → Nat → Int) (gap : Int) (k : Nat) : ltO N A Q gap (k + 1) = ltO N A Q gap k ++ nL (pkA (zT N A) gap k) (A k) (Q k) (N k) := rfl
theorem ltO_len {N : Nat → Nat} {A Q : Nat → Nat → Int} {gap : Int} {m : Nat} (h : ∀ k, k < m → N k ≤ 120) : ∀ k, k ≤ m → (ltO N A Q gap k).length ≤ 120 * k := by
  intro k
  induction k with
  | zero => intro _; rw [ltO_zero]; simp
  | succ k ih =>
    intro hk
    have h1 := ih (by omega)
    have h2 := h k (by omega)
    rw [ltO_succ, List.length_append, nL_len]; omega
section
variable (s : Int) (n : Nat) (P R : Nat → Int) (m : Nat) (N : Nat → Nat) (A Q : Nat → Nat → Int) (gap : Int)
def ltF : Bool := decide (pkE (zT N A) gap m ≤ s) && decide ((ltO N A Q gap m).length ≤ 120)
def ltC : Int := if vFrame s n P R && tAll m N A Q then (if decide ((m : Int) ≤ 12) && inB gap 0 96 then (if ltF s m N A Q gap then 0 else 3) else 2) else 1
def ltS : List (Int × Int) := if ltC s n P R m N A Q gap = 0 then pkL (zT N A) gap m else []
def ltN : List (Int × Int) := if ltC s n P R m N A Q gap = 0 then ltO N A Q gap m else []
end
section
variable {s : Int} {n : Nat} {P R : Nat → Int} {m : Nat} {N : Nat → Nat} {A Q : Nat → Nat → Int} {gap : Int}
theorem lt_of {x : Int} (h : ltC s n P R m N A Q gap = x) (hx : ¬ x = 0) : ltS s n P R m N A Q gap = [] ∧ ltN s n P R m N A Q gap = [] ∧ ltC s n P R m N A Q gap = x := by
  unfold ltS ltN
  rw [h, if_neg hx, if_neg hx]
  exact ⟨rfl, rfl, rfl⟩
theorem lt_one (h : (vFrame s n P R && tAll m N A Q) = false) : ltS s n P R m N A Q gap = [] ∧ ltN s n P R m N A Q gap = [] ∧ ltC s n P R m N A Q gap = 1 := lt_of (by unfold ltC; rw [h]; rfl) (by omega)
theorem lt_two (h : (vFrame s n P R && tAll m N A Q) = true) (h2 : (decide ((m : Int) ≤ 12) && inB gap 0 96) = false) : ltS s n P R m N A Q gap = [] ∧ ltN s n P R m N A Q gap = [] ∧ ltC s n P R m N A Q gap = 2 := lt_of (by unfold ltC; rw [h, h2]; rfl) (by omega)
theorem lt_three (h : (vFrame s n P R && tAll m N A Q) = true) (h2 : (decide ((m : Int) ≤ 12) && inB gap 0 96) = true) (h3 : ltF s m N A Q gap = false) : ltS s n P R m N A Q gap = [] ∧ ltN s n P R m N A Q gap = [] ∧ ltC s n P R m N A Q gap = 3 := lt_of (by unfold ltC; rw [h, h2, h3]; rfl) (by omega)
theorem lt_yes (h : (vFrame s n P R && tAll m N A Q) = true) (h2 : (decide ((m : Int) ≤ 12) && inB gap 0 96) = true) (h3 : ltF s m N A Q gap = true) : ltS s n P R m N A Q gap = pkL (zT N A) gap m ∧ ltN s n P R m N A Q gap = ltO N A Q gap m ∧ ltC s n P R m N A Q gap = 0 := by
  have hc : ltC s n P R m N A Q gap = 0 := by unfold ltC; rw [h, h2, h3]; rfl
  unfold ltS ltN
  rw [hc, if_pos rfl, if_pos rfl]
  exact ⟨rfl, rfl, rfl⟩
theorem ltF_iff : ltF s m N A Q gap = true ↔ pkE (zT N A) gap m ≤ s ∧ (ltO N A Q gap m).length ≤ 120 := by unfold ltF; rw [Bool.and_eq_true, decide_eq_true_eq, decide_eq_true_eq]
theorem ltF_no (h : ¬ (pkE (zT N A) gap m ≤ s ∧ (ltO N A Q gap m).length ≤ 120)) : ltF s m N A Q gap = false := by rw [← Bool.not_eq_true, ltF_iff]; exact h
end
attribute [irreducible] zT nL ltO ltF ltC ltS ltN
section
variable {w w' : World} {base base2 : Nat} {v u : Value} {l r : List (Int × Int)}
theorem OwnS.keepN (h : OwnS w base v l) (hn : OwnN w base2 u r) (hg : w.grownBy w' u.ownBlock) : OwnS w' base v l := by
  unfold OwnS OwnL at *
  unfold OwnN OwnL at hn
  exact own_keep h (keep_grown (T2 := 95) hn hg) (by decide) (by decide)
theorem OwnN.keepS (hn : OwnN w base2 u r) (h : OwnS w base v l) (hg : w.grownBy w' v.ownBlock) : OwnN w' base2 u r := by
  unfold OwnS OwnL at h
  unfold OwnN OwnL at *
  exact own_keep hn (keep_grown (T2 := 147) h hg) (by decide) (by decide)
end
section
variable {md : Region.Mode} {ops : Array Oper} {Q : Exit → Act → World → Prop} {S : World → Prop} {fuel : Nat} {listed : Array Bool} {a : Act} {w : World}
/-- a note is appended, in a region that draws; what the world is then, block by block -/
theorem step_append_noteg (i : Nat) {o : Oper} (hr : Region.ready md ops listed = [i]) (hoi : ops[i]? = some o) (hw : Region.wanted o (yielded ops a.tmps) = true)
    (s x : Operand) (ho : o.op = .call { callee := .builtin .append, args := #[s, x], argTypes := #[31, 31] }) (base : Nat) (v : Value) (l : List (Int × Int)) (hs : a.eval s = v) (hown : OwnN w base v l)
    (g : Nat) (y : Int × Int) (hx : a.eval x = .slice (some ⟨g, 0, none⟩) 1 1) (hg : w.heap[g]? = some (.cells (encN y).toArray 95 (0, 0))) (hl : l.length ≤ 100000) (hbase : base ≤ w.heap.size)
    (h : ∀ v' w', OwnN w' base v' (l ++ [y]) → w.grownBy w' v.ownBlock → Below base w w' → S w' ∧ wpAnyH Try.prog md ops Q S fuel (listed.setIfInBounds i true) (a.put o.dst v') w') : wpAnyH Try.prog md ops Q S (fuel + 1) listed a w := by
  refine wpAnyH_ready hr (by simp) (AllReadyH.cons hoi (fun K hK => ?_) AllReadyH.nil)
  rw [if_pos hw]
  obtain ⟨i0, hi, hz0, hz1, hz2⟩ := info_parts infoN2
  refine wp_append_own w s x 31 ho base 95 i0 _ 2 _ Try.underlying31 hi hz0 hz1 hz2 rfl (by decide) v l.length _ hs hown ⟨g, 0, none⟩ 1 1 ([y].flatMap encN) hx (flat_len encN 2 encN_len [y]) (one_cells (enc := encN) hg) ?_ ?_ ?_ hbase ?_
  · intro u hu
    obtain ⟨z, _, hz⟩ := List.mem_flatMap.1 hu
    exact encN_one z u hz
  · unfold maxLen; omega
  · omega
  · intro v' w' hown' hgrow _
    obtain ⟨h1, h2⟩ := h v' w' (by unfold OwnN OwnL; rw [List.length_append, List.flatMap_append]; exact hown') hgrow (Below.grown (Below.refl _ _) hgrow hbase fun k hk => (World.ownsRow.lt hown k hk).1)
    exact hK.out _ _ h1 fun _ => h2
end

/-! LayTunes, by the reference. No conditions. -/
theorem mx_zT {N : Nat → Nat} {A : Nat → Nat → Int} {k tl : Nat} (htl : tLen (N k) (A k) = tl) (h : ¬ N k = 0 → 1 ≤ tl) : ((mxN 1 tl : Nat) : Int) = zT N A k := by
  by_cases h0 : N k = 0
  · rw [zT_none h0]
    have h1 := tLen_zero (A k)
    rw [h0, h1] at htl
    rw [mxN_ge (by omega)]; rfl
  · rw [zT_some h0, htl]
    by_cases h1 : 1 < tl
    · rw [mxN_lt h1]
    · rw [mxN_ge h1]; have := h h0; omega
theorem i16_idT {x : Int} (h : -32768 ≤ x ∧ x ≤ 32767) : IntKind.i16.wrap x = x := by
  show (if (true && decide (x % 65536 ≥ 32768)) = true then x % 65536 - 65536 else x % 65536) = x
  simp only [Bool.true_and, decide_eq_true_eq]
  split <;> omega
theorem ex_mk_note {o : Oper} {a : Act} {V : World} {p : Int} {q : Int} (x y : Operand) (ho : o.op = .build 95 #[(0, x), (1, y)]) (hx : a.eval x = .int .i16 p) (hy : a.eval y = .int .i8 q) :
    (execOp a.eval o).run Try.prog V = .ok (.value (.agg #[.int .i16 p, .int .i8 q])) V := by
  have hm : (#[(0, x), (1, y)] : Array (Nat × Operand)).map (fun (i, y) => (i, a.eval y)) = #[(0, .int .i16 p), (1, .int .i8 q)] := by simp [hx, hy]
  have hr : (Instr.build 95 #[(0, .int .i16 p), (1, .int .i8 q)]).run Try.prog V = .ok (.agg #[.int .i16 p, .int .i8 q]) V := by kernel_rfl
  simp only [execOp, ho, hm, Sem.run_bind, hr, Result.andThen_ok]
  rfl
theorem ex_build_note {o : Oper} {a : Act} {V : World} (x : Operand) (ho : o.op = .buildSlice 31 1 #[(0, x)]) (p q : Int) (hx : a.eval x = .agg #[.int .i16 p, .int .i8 q]) :
    (execOp a.eval o).run Try.prog V = .ok (.value (.slice (some ⟨V.heap.size, 0, none⟩) 1 1)) (V.alloc (.cells #[.int .i16 p, .int .i8 q] 95)) := by
  have hm : (#[(0, x)] : Array (Nat × Operand)).map (fun (i, y) => (i, a.eval y)) = #[(0, .agg #[.int .i16 p, .int .i8 q])] := by simp [hx]
  have hr : (Instr.buildSlice 31 1 #[(0, .agg #[.int .i16 p, .int .i8 q])]).run Try.prog V = .ok (.slice (some ⟨V.heap.size, 0, none⟩) 1 1) (V.alloc (.cells #[.int .i16 p, .int .i8 q] 95)) := by kernel_rfl
  simp only [execOp, ho, hm, Sem.run_bind, hr, Result.andThen_ok]
  rfl
theorem apart_new {g g' : Nat} (h : g ≠ g') : Apart (.slice (some ⟨g, 0, none⟩) 0 0) (.slice (some ⟨g', 0, none⟩) 0 0) := fun k k' h1 h2 => by
  simp [Value.ownBlock] at h1 h2
  omega
theorem apart_SN {w : World} {base base2 : Nat} {v u : Value} {l r : List (Int × Int)} (h : OwnS w base v l) (hn : OwnN w base2 u r) : Apart v u := fun k k' h1 h2 e => by
  unfold OwnS OwnL at h
  unfold OwnN OwnL at hn
  subst e
  obtain ⟨cur, hx⟩ := own_type h h1
  obtain ⟨cur', hx'⟩ := own_type hn h2
  rw [hx] at hx'
  simp at hx'
set_option maxRecDepth 100000 in
set_option maxHeartbeats 8000000 in
theorem specLayTunes_any (s : Int) (a : Option Addr) (n c : Nat) (P R : Nat → Int) (b : Option Addr) (m d : Nat) (aa : Nat → Option Addr) (N C : Nat → Nat) (A Q : Nat → Nat → Int) (gap : Int) (w : World) (hs : -32768 ≤ s ∧ s ≤ 32767) (hn : n ≤ 1048576) (hP : I8 P) (hR : I8 R) (hh : HamAt w a n P R) (hm : m ≤ 1048576) (hN : ∀ i, i < m → N i ≤ 1048576) (hA : ∀ i, I16 (A i)) (hQ : ∀ i, I8 (Q i)) (hl : TuneSAt w b m aa N C A Q) (hgap : -9223372036854775808 ≤ gap ∧ gap ≤ 9223372036854775807) :
    Calls Try.prog 39 #[.agg #[.int .i16 s, .slice a n c], .slice b m d, .int .i64 gap] w fun e w' => ∃ v u, e = .returned (.tuple #[v, u, .int .i64 (ltC s n P R m N A Q gap)]) ∧ Below w.heap.size w w' ∧ OwnS w' w.heap.size v (ltS s n P R m N A Q gap) ∧ OwnN w' w.heap.size u (ltN s n P R m N A Q gap) ∧ Apart v u := by
  have HP := Lib.hid hP; have HR := Lib.hid hR; have HN := Lib.hid hN; have HA := Lib.hid hA; have HQ := Lib.hid hQ; clear hP hR hN hA hQ
  have KB := Kp.base w
  have KH := kp_ham hh; have KT := kp_tunes hl; clear hh hl
  replace KB := KB.alloc (.cells #[.int .i16 s, .slice a n c] 27)
  replace KH := KH.alloc (.cells #[.int .i16 s, .slice a n c] 27)
  replace KT := KT.alloc (.cells #[.int .i16 s, .slice a n c] 27)
  have KF := kp_new1 w #[.int .i16 s, .slice a n c] 27 (g := w.heap.size) (by simp)
  have HZ := Lib.hid (show (w.alloc (.cells #[.int .i16 s, .slice a n c] 27)).heap.size = w.heap.size + 1 by simp)
  go_enter Try.func39, Try.ntmps39
  go_wp2_with fail
  generalize (w.alloc (.cells #[.int .i16 s, .slice a n c] 27)) = W at KB KH KT KF HZ ⊢
  refine (l02Frame_any w.heap.size s a n c P R W (by omega) hs HP.out HR.out (row_lt KF.here) (row_cell 0 KF.here) (row_cell 1 KF.here) KH.here).mono ?_
  rintro e w1 ⟨rfl, hb1⟩
  replace KB := KB.on hb1
  replace KT := KT.on hb1
  replace KF := KF.on hb1
  clear hb1 KH
  obtain ⟨B0, hB0⟩ : ∃ B, vFrame s n P R = B := ⟨_, rfl⟩
  rw [hB0]
  have HB0 := Lib.hid hB0; clear hB0
  go_wp2
  go_loopw [9, 10] (fun o i w' => Below w1.heap.size w1 w' ∧ ∃ k : Nat, k ≤ m ∧ i = .int .i64 k ∧ ∃ B : Bool, o = .bool B ∧ (B = true → B0 = true ∧ ∀ j, j < k → vTune (N j) (A j) (Q j) = true) ∧ (B = false → (B0 && tAll m N A Q) = false)) (fun _ i _ => m - (intOf i).toNat)
  case atStart => exact ⟨Below.refl _ _, 0, by omega, rfl, B0, rfl, fun h => ⟨h, fun j hj => by omega⟩, fun h => by rw [h]; rfl⟩
  case round =>
    obtain ⟨hb, k, hk, rfl, B, rfl, hT, hF⟩ := hrel
    have HT := Lib.hid hT; have HF := Lib.hid hF; clear hT hF
    replace KB := KB.on hb
    replace KT := KT.on hb
    replace KF := KF.on hb
    have hszw := hb.size
    have HBB := Lib.hid hb; clear hb
    cases B
    · have hcode := lt_one (gap := gap) (show (vFrame s n P R && tAll m N A Q) = false by rw [HB0.out]; exact HF.out rfl)
      have HC := Lib.hid hcode; clear hcode
      have HES := Lib.hid ((OwnL.nil (T := 147) (sz := 2) (enc := encS) wr w.heap.size KB.here.size).alloc (.cells #[] 95))
      have hen := OwnL.nil (T := 95) (sz := 2) (enc := encN) (wr.alloc (.cells #[] 147)) w.heap.size (by have := KB.here.size; simp; omega)
      rw [size_alloc1] at hen
      have HEN := Lib.hid hen; clear hen
      have HBE := Lib.hid (((KB.here.alloc KB.here.size (.cells #[] 147))).alloc (by have := KB.here.size; simp; omega) (.cells #[] 95))
      by_cases hlt : k < m
      · have hk' : (k : Int) < m := by omega
        go_wp2
        go_ret3
        exact ⟨_, _, by rw [HC.out.2.2]; rfl, HBE.out, by rw [HC.out.1]; exact HES.out, by rw [HC.out.2.1]; exact HEN.out, apart_new (by omega)⟩
      · have hk' : ¬ (k : Int) < m := by omega
        go_wp2
        go_ret3
        exact ⟨_, _, by rw [HC.out.2.2]; rfl, HBE.out, by rw [HC.out.1]; exact HES.out, by rw [HC.out.2.1]; exact HEN.out, apart_new (by omega)⟩
    · obtain ⟨hB, hall⟩ := HT.out rfl
      have HALL := Lib.hid hall; have HBT := Lib.hid hB; clear hall HT HF hB
      by_cases hlt : k < m
      · have hk' : (k : Int) < m := by omega
        have hx := TuneSAt.get KT.here (show 0 < m by omega)
        obtain ⟨g, off, rfl, hg, hc⟩ := hx
        have c0 := (hc k hlt).1
        have HNK := Lib.hid (hc k hlt).2
        clear hc
        have HNM := HN.out k hlt
        obtain ⟨Bv, hBv⟩ : ∃ B, vTune (N k) (A k) (Q k) = B := ⟨_, rfl⟩
        have HBV := Lib.hid hBv
        go_wp2_with (go_at_call 51; refine (l01Ok_any _ _ _ _ (Q k) _ (by omega) (HA.out k) (HQ.out k) HNK.out).mono ?_; rw [hBv]; rintro e w2 ⟨rfl, hb2⟩; have HB2 := Lib.hid hb2; clear hb2)
        go_roundw
        case rel =>
          refine ⟨HBB.out.trans (HB2.out.mono hszw), k + 1, by omega, by go_num, Bv, rfl, fun h => ⟨HBT.out, fun j hj => if e : j = k then by rw [e, HBV.out]; exact h else HALL.out j (by omega)⟩, fun h => ?_⟩
          have : tAll m N A Q = false := by
            cases hq : tAll m N A Q
            · rfl
            · have := tAll_iff.1 hq k hlt
              rw [HBV.out, h] at this
              cases this
          rw [this, Bool.and_false]
        case measure => simp [intOf]; omega
      · have hkm : m = k := by omega
        subst hkm
        have hta : tAll m N A Q = true := tAll_iff.2 HALL.out
        have hok : (vFrame s n P R && tAll m N A Q) = true := by rw [HB0.out, HBT.out, hta]; rfl
        cases hg : (decide ((m : Int) ≤ 12) && inB gap 0 96)
        · have hcode := lt_two hok hg
          have HC := Lib.hid hcode; clear hcode
          have HES := Lib.hid ((OwnL.nil (T := 147) (sz := 2) (enc := encS) wr w.heap.size KB.here.size).alloc (.cells #[] 95))
          have hen := OwnL.nil (T := 95) (sz := 2) (enc := encN) (wr.alloc (.cells #[] 147)) w.heap.size (by have := KB.here.size; simp; omega)
          rw [size_alloc1] at hen
          have HEN := Lib.hid hen; clear hen
          have HBE := Lib.hid (((KB.here.alloc KB.here.size (.cells #[] 147))).alloc (by have := KB.here.size; simp; omega) (.cells #[] 95))
          by_cases hm12 : (m : Int) ≤ 12
          · have hgb : inB gap 0 96 = false := by rw [decide_eq_true hm12] at hg; simpa using hg
            have hm12' : ¬ (m : Int) > 12 := by omega
            clear hg hok hta
            go_wp2_with (go_at_call 92; refine (l04Gap_any _ _).mono ?_; rw [hgb]; rintro e w2 ⟨rfl, rfl⟩)
            go_ret3
            exact ⟨_, _, by rw [HC.out.2.2]; rfl, HBE.out, by rw [HC.out.1]; exact HES.out, by rw [HC.out.2.1]; exact HEN.out, apart_new (by omega)⟩
          · have hm12' : (m : Int) > 12 := by omega
            clear hg hok hta
            go_wp2
            go_ret3
            exact ⟨_, _, by rw [HC.out.2.2]; rfl, HBE.out, by rw [HC.out.1]; exact HES.out, by rw [HC.out.2.1]; exact HEN.out, apart_new (by omega)⟩
        · obtain ⟨hm12, hgb⟩ := Bool.and_eq_true_iff.1 hg
          have hm12 := of_decide_eq_true hm12
          have hgr := inB_iff.1 hgb
          have hm12' : ¬ (m : Int) > 12 := by omega
          have HOK := Lib.hid hok; have HGG := Lib.hid hg; have HZB := Lib.hid (zT_bound hta)
          have hv120 : ∀ i, i < m → N i ≤ 120 := fun i hi => (vTune_facts (HALL.out i hi)).1
          have HV := Lib.hid hv120
          clear hg hok hta hv120
          obtain ⟨W, hW⟩ : ∃ W, wr = W := ⟨wr, rfl⟩
          subst hW
          have hES := OwnL.nil (T := 147) (sz := 2) (enc := encS) wr wr.heap.size (Nat.le_refl _)
          have hEN := OwnL.nil (T := 95) (sz := 2) (enc := encN) (wr.alloc (.cells #[] 147)) wr.heap.size (by simp)
          rw [size_alloc1] at hEN
          have HES := Lib.hid hES; have HEN := Lib.hid hEN; clear hES hEN
          go_wp2_with (go_at_call 92; refine (l04Gap_any _ _).mono ?_; rw [hgb]; rintro e w2 ⟨rfl, rfl⟩)
          obtain ⟨W, rfl⟩ : ∃ W, W = wr := ⟨wr, rfl⟩
          go_loopw [11, 12, 13, 14] (fun x v u i w' => Below W.heap.size W w' ∧ ∃ k : Nat, k ≤ m ∧ i = .int .i64 k ∧ x = .int .i64 (pkE (zT N A) gap k) ∧ OwnS w' W.heap.size v (pkL (zT N A) gap k) ∧ OwnN w' W.heap.size u (ltO N A Q gap k)) (fun _ _ _ i _ => m - (intOf i).toNat)
          case atStart => exact ⟨((Below.refl _ _).alloc (Nat.le_refl _) _).alloc (by simp) _, 0, by omega, rfl, by rw [pkE_zero], by rw [pkL_zero]; exact HES.out.alloc _, by rw [ltO_zero]; exact HEN.out⟩
          case round =>
            clear HES HEN
            obtain ⟨hb, k, hk, rfl, rfl, hos, hon⟩ := hrel
            have HOS := Lib.hid hos; have HON := Lib.hid hon; clear hos hon
            have KB1 := KB; have KF1 := KF; have KT1 := KT
            replace KB := KB.on hb
            replace KT := KT.on hb
            replace KF := KF.on hb
            have hszw2 := hb.size
            have HBK := Lib.hid hb; clear hb
            by_cases hlt : k < m
            · have hk' : (k : Int) < m := by omega
              have hx := TuneSAt.get KT1.here (show 0 < m by omega)
              obtain ⟨g, off, rfl, hg, hc⟩ := hx
              have KC0 := kp_cell (hc k hlt).1 hg
              have KNK := kp_note (hc k hlt).2
              have c0 := KC0.at HBK.out
              have HNK := Lib.hid (KNK.at HBK.out)
              clear hc
              have HNM := HV.out k hlt
              have hzk := HZB.out k hlt
              have hbd := pk_boundW hgr k fun i hi => HZB.out i (by omega)
              have hLO := ltO_len (A := A) (Q := Q) (gap := gap) HV.out k hk
              have HLO := Lib.hid hLO; clear hLO
              obtain ⟨tl, htl⟩ : ∃ tl : Nat, tLen (N k) (A k) = tl := by
                by_cases h0 : N k = 0
                · exact ⟨0, by rw [h0, tLen_zero]; rfl⟩
                · have := zT_some (A := A) h0
                  exact ⟨(tLen (N k) (A k)).toNat, by omega⟩
              have hmx := mx_zT (A := A) htl (fun h0 => by have := zT_some (A := A) h0; omega)
              obtain ⟨mz, hmz⟩ : ∃ mz : Nat, mxN 1 tl = mz := ⟨_, rfl⟩
              rw [hmz] at hmx
              rw [← hmx] at hzk
              obtain ⟨y, hy⟩ : ∃ y, pkA (zT N A) gap k = y := ⟨_, rfl⟩
              rw [hy] at hbd
              by_cases h0 : 0 < k
              · have hya := pkA_pos (zT N A) gap h0
                have h0' : (0 : Int) < k := by omega
                have HS2 := Lib.hid (pkL_succ (zT N A) gap k); have HE := Lib.hid (pkE_succ (zT N A) gap k); have HO := Lib.hid (ltO_succ N A Q gap k)
                rw [hy] at HS2 HE HO
                obtain ⟨x, hx⟩ : ∃ x, pkE (zT N A) gap k = x := ⟨_, rfl⟩
                rw [hy, hx] at hya
                rw [hx] at hbd ⊢
                have HX := Lib.hid hx; have HYY := Lib.hid hy; have HMX := Lib.hid hmx; have HTL := Lib.hid htl
                clear hx hy hmx
                rw [← HMX.out] at HS2 HE
                subst hya
                have HZK := Lib.hid hzk
                go_wp2_with (first | (go_at_call 53; refine (l01Length_any _ _ _ _ (Q k) _ (by omega) (HA.out k) HNK.out).mono ?_; rw [htl]; rintro e w2 ⟨rfl, rfl⟩) | (go_at_call 93; refine (l00Max_any 1 tl _).mono ?_; rw [hmz]; rintro e w2 ⟨rfl, rfl⟩) | (at_builtin; refine append_Lg Try.underlying62 infoS2 rfl (by decide) (by decide) encS_len encS_one rfl _ _ rfl W.heap.size u12 (pkL (zT N A) gap k) rfl (OwnL.alloc HOS.out _) ⟨wr.heap.size, 0, none⟩ 1 1 [(x + gap, (mz : Int))] rfl rfl (one_cells (heap_alloc_new wr _)) (by rw [pkL_len]; omega) (by simp; omega) ?_; intro v2 w2 hown2 hg2; have HO2 := Lib.hid hown2; have HG2 := Lib.hid hg2; clear hown2 hg2))
                have HON2 := Lib.hid (OwnN.keepS (OwnL.alloc HON.out (.cells #[.int .i16 (x + gap), .int .i16 (mz : Int)] 147)) (OwnL.alloc HOS.out (.cells #[.int .i16 (x + gap), .int .i16 (mz : Int)] 147)) HG2.out)
                have HB2 := Lib.hid ((HBK.out.alloc hszw2 (.cells #[.int .i16 (x + gap), .int .i16 (mz : Int)] 147)).trans (Below.grown (Below.refl _ _) HG2.out (by simp; omega) fun k hk => (OwnS.lt HOS.out k hk).1))
                clear HG2 HOS HON c0 HNK HTL hmz htl KB KT KF
                obtain ⟨U, rfl⟩ : ∃ U, U = wr := ⟨wr, rfl⟩
                go_loopw [13, 16] (fun u i w' => Below W.heap.size W w' ∧ ∃ j : Nat, j ≤ N k ∧ i = .int .i64 j ∧ OwnS w' W.heap.size v2 (pkL (zT N A) gap k ++ [(x + gap, (mz : Int))]) ∧ OwnN w' W.heap.size u (ltO N A Q gap k ++ nL (x + gap) (A k) (Q k) j)) (fun _ i _ => N k - (intOf i).toNat)
                case atStart => exact ⟨HB2.out, 0, by omega, rfl, HO2.out, by rw [nL_zero, List.append_nil]; exact HON2.out⟩
                case round =>
                  clear HB2 HO2 HON2
                  obtain ⟨hb, j, hj, rfl, hos, hon⟩ := hrel
                  have HOS := Lib.hid hos; have HON := Lib.hid hon; clear hos hon
                  have hszw3 := hb.size
                  have HBJ := Lib.hid hb
                  have c0 := KC0.at hb
                  clear hb
                  by_cases hltj : j < N k
                  · have hj' : (j : Int) < N k := by omega
                    have hx2 := NoteAt.get KNK.here (show 0 < N k by omega)
                    obtain ⟨g2, off2, hq2, hg2, hc2⟩ := hx2
                    rw [hq2] at c0 KC0
                    have KN0 := kp_cell (hc2 j hltj).1 hg2
                    have KN1 := kp_cell (hc2 j hltj).2 hg2
                    have hvn := ((vTune_facts (HALL.out k hlt)).2.1 j hltj).1
                    have hns := nL_succ (x + gap) (A k) (Q k) j
                    have hnl := nL_len (x + gap) (A k) (Q k) j
                    have hoL : (ltO N A Q gap k ++ nL (x + gap) (A k) (Q k) j).length ≤ 2000 := by rw [List.length_append, hnl]; have := HLO.out; omega
                    obtain ⟨aj, haj⟩ : ∃ aj, A k j = aj := ⟨_, rfl⟩
                    obtain ⟨qj, hqj⟩ : ∃ qj, Q k j = qj := ⟨_, rfl⟩
                    rw [haj] at KN0 hvn hns
                    rw [hqj] at KN1 hns
                    have q0 := i64_id (x := aj) (by omega)
                    have q1 := i64_id (x := x + gap + aj) (by omega)
                    have q2 : IntKind.i16.wrap (x + gap + aj) = x + gap + aj := i16_idT (by omega)
                    have HNS := Lib.hid hns; have HOL := Lib.hid hoL
                    clear hns hnl hoL haj hqj hc2 hq2
                    go_wp2
                    have hS0 : Below W.heap.size W wr.drew := HBJ.out.drew
                    refine wp_region_S (fun V => Below W.heap.size W V) (by kernel_rfl) hS0 ?_
                    refine take_val 0 (u13) rfl (by kernel_rfl) (by kernel_rfl) (by kernel_rfl) (fun _ _ _ h => h) rfl (fun V hV => by simp [go_sem]) hS0 ?_
                    simp only [List.getElem_toArray, List.getElem_cons_zero, List.getElem_cons_succ, Act.put, List.setIfInBounds_toArray, List.set_cons_zero, List.set_cons_succ]
                    refine take_val 1 (.int .i64 (x + gap)) rfl (by kernel_rfl) (by kernel_rfl) (by kernel_rfl) (fun _ _ _ h => h) rfl (fun V hV => by simp [go_sem]) hS0 ?_
                    simp only [List.getElem_toArray, List.getElem_cons_zero, List.getElem_cons_succ, Act.put, List.setIfInBounds_toArray, List.set_cons_zero, List.set_cons_succ]
                    refine take_val 2 (.slice (some ⟨g, off, none⟩) m d) rfl (by kernel_rfl) (by kernel_rfl) (by kernel_rfl) (fun _ _ _ h => h) rfl (fun V hV => by simp [go_sem]) hS0 ?_
                    simp only [List.getElem_toArray, List.getElem_cons_zero, List.getElem_cons_succ, Act.put, List.setIfInBounds_toArray, List.set_cons_zero, List.set_cons_succ]
                    refine take_val 3 (.int .i64 (k : Nat)) rfl (by kernel_rfl) (by kernel_rfl) (by kernel_rfl) (fun _ _ _ h => h) rfl (fun V hV => by simp [go_sem]) hS0 ?_
                    simp only [List.getElem_toArray, List.getElem_cons_zero, List.getElem_cons_succ, Act.put, List.setIfInBounds_toArray, List.set_cons_zero, List.set_cons_succ]
                    refine take_val 4 (.pointer (some ⟨g, off + k, none⟩)) rfl (by kernel_rfl) (by kernel_rfl) (by kernel_rfl) (fun _ _ _ h => h) rfl (fun V hV => by simp [go_sem, hk']) hS0 ?_
                    simp only [List.getElem_toArray, List.getElem_cons_zero, List.getElem_cons_succ, Act.put, List.setIfInBounds_toArray, List.set_cons_zero, List.set_cons_succ]
                    refine take_val 5 (.slice (some ⟨g2, off2, none⟩) (N k) (C k)) rfl (by kernel_rfl) (by kernel_rfl) (by kernel_rfl) (fun _ _ _ h => h) rfl (fun V hV => by have c := KC0.at hV; simp [go_sem, c]) hS0 ?_
                    simp only [List.getElem_toArray, List.getElem_cons_zero, List.getElem_cons_succ, Act.put, List.setIfInBounds_toArray, List.set_cons_zero, List.set_cons_succ]
                    refine take_val 6 (.int .i64 (j : Nat)) rfl (by kernel_rfl) (by kernel_rfl) (by kernel_rfl) (fun _ _ _ h => h) rfl (fun V hV => by simp [go_sem]) hS0 ?_
                    simp only [List.getElem_toArray, List.getElem_cons_zero, List.getElem_cons_succ, Act.put, List.setIfInBounds_toArray, List.set_cons_zero, List.set_cons_succ]
                    refine take_val 7 (.pointer (some ⟨g2, off2 + j * 2, none⟩)) rfl (by kernel_rfl) (by kernel_rfl) (by kernel_rfl) (fun _ _ _ h => h) rfl (fun V hV => by simp [go_sem, hj']) hS0 ?_
                    simp only [List.getElem_toArray, List.getElem_cons_zero, List.getElem_cons_succ, Act.put, List.setIfInBounds_toArray, List.set_cons_zero, List.set_cons_succ]
                    refine take_val 8 (.pointer (some ⟨g2, off2 + j * 2, none⟩)) rfl (by kernel_rfl) (by kernel_rfl) (by kernel_rfl) (fun _ _ _ h => h) rfl (fun V hV => by simp [go_sem]) hS0 ?_
                    simp only [List.getElem_toArray, List.getElem_cons_zero, List.getElem_cons_succ, Act.put, List.setIfInBounds_toArray, List.set_cons_zero, List.set_cons_succ]
                    refine take_val 9 (.int .i16 aj) rfl (by kernel_rfl) (by kernel_rfl) (by kernel_rfl) (fun _ _ _ h => h) rfl (fun V hV => by have c := KN0.at hV; simp [go_sem, c]) hS0 ?_
                    simp only [List.getElem_toArray, List.getElem_cons_zero, List.getElem_cons_succ, Act.put, List.setIfInBounds_toArray, List.set_cons_zero, List.set_cons_succ]
                    refine take_val 10 (.int .i64 aj) rfl (by kernel_rfl) (by kernel_rfl) (by kernel_rfl) (fun _ _ _ h => h) rfl (fun V hV => by simp [go_sem, q0]) hS0 ?_
                    simp only [List.getElem_toArray, List.getElem_cons_zero, List.getElem_cons_succ, Act.put, List.setIfInBounds_toArray, List.set_cons_zero, List.set_cons_succ]
                    refine take_val 11 (.int .i64 (x + gap + aj)) rfl (by kernel_rfl) (by kernel_rfl) (by kernel_rfl) (fun _ _ _ h => h) rfl (fun V hV => by simp [go_sem, q1]) hS0 ?_
                    simp only [List.getElem_toArray, List.getElem_cons_zero, List.getElem_cons_succ, Act.put, List.setIfInBounds_toArray, List.set_cons_zero, List.set_cons_succ]
                    refine take_val 12 (.int .i16 (x + gap + aj)) rfl (by kernel_rfl) (by kernel_rfl) (by kernel_rfl) (fun _ _ _ h => h) rfl (fun V hV => by simp [go_sem, q2]) hS0 ?_
                    simp only [List.getElem_toArray, List.getElem_cons_zero, List.getElem_cons_succ, Act.put, List.setIfInBounds_toArray, List.set_cons_zero, List.set_cons_succ]
                    refine take_val 13 (.slice (some ⟨g, off, none⟩) m d) rfl (by kernel_rfl) (by kernel_rfl) (by kernel_rfl) (fun _ _ _ h => h) rfl (fun V hV => by simp [go_sem]) hS0 ?_
                    simp only [List.getElem_toArray, List.getElem_cons_zero, List.getElem_cons_succ, Act.put, List.setIfInBounds_toArray, List.set_cons_zero, List.set_cons_succ]
                    refine take_val 14 (.int .i64 (k : Nat)) rfl (by kernel_rfl) (by kernel_rfl) (by kernel_rfl) (fun _ _ _ h => h) rfl (fun V hV => by simp [go_sem]) hS0 ?_
                    simp only [List.getElem_toArray, List.getElem_cons_zero, List.getElem_cons_succ, Act.put, List.setIfInBounds_toArray, List.set_cons_zero, List.set_cons_succ]
                    refine take_val 15 (.pointer (some ⟨g, off + k, none⟩)) rfl (by kernel_rfl) (by kernel_rfl) (by kernel_rfl) (fun _ _ _ h => h) rfl (fun V hV => by simp [go_sem, hk']) hS0 ?_
                    simp only [List.getElem_toArray, List.getElem_cons_zero, List.getElem_cons_succ, Act.put, List.setIfInBounds_toArray, List.set_cons_zero, List.set_cons_succ]
                    refine take_val 16 (.slice (some ⟨g2, off2, none⟩) (N k) (C k)) rfl (by kernel_rfl) (by kernel_rfl) (by kernel_rfl) (fun _ _ _ h => h) rfl (fun V hV => by have c := KC0.at hV; simp [go_sem, c]) hS0 ?_
                    simp only [List.getElem_toArray, List.getElem_cons_zero, List.getElem_cons_succ, Act.put, List.setIfInBounds_toArray, List.set_cons_zero, List.set_cons_succ]
                    refine take_val 17 (.int .i64 (j : Nat)) rfl (by kernel_rfl) (by kernel_rfl) (by kernel_rfl) (fun _ _ _ h => h) rfl (fun V hV => by simp [go_sem]) hS0 ?_
                    simp only [List.getElem_toArray, List.getElem_cons_zero, List.getElem_cons_succ, Act.put, List.setIfInBounds_toArray, List.set_cons_zero, List.set_cons_succ]
                    refine take_val 18 (.pointer (some ⟨g2, off2 + j * 2, none⟩)) rfl (by kernel_rfl) (by kernel_rfl) (by kernel_rfl) (fun _ _ _ h => h) rfl (fun V hV => by simp [go_sem, hj']) hS0 ?_
                    simp only [List.getElem_toArray, List.getElem_cons_zero, List.getElem_cons_succ, Act.put, List.setIfInBounds_toArray, List.set_cons_zero, List.set_cons_succ]
                    refine take_val 19 (.pointer (some ⟨g2, off2 + j * 2 + 1, none⟩)) rfl (by kernel_rfl) (by kernel_rfl) (by kernel_rfl) (fun _ _ _ h => h) rfl (fun V hV => by simp [go_sem]) hS0 ?_
                    simp only [List.getElem_toArray, List.getElem_cons_zero, List.getElem_cons_succ, Act.put, List.setIfInBounds_toArray, List.set_cons_zero, List.set_cons_succ]
                    refine take_val 20 (.int .i8 qj) rfl (by kernel_rfl) (by kernel_rfl) (by kernel_rfl) (fun _ _ _ h => h) rfl (fun V hV => by have c := KN1.at hV; simp [go_sem, c]) hS0 ?_
                    simp only [List.getElem_toArray, List.getElem_cons_zero, List.getElem_cons_succ, Act.put, List.setIfInBounds_toArray, List.set_cons_zero, List.set_cons_succ]
                    refine take_val 21 (.agg #[.int .i16 (x + gap + aj), .int .i8 qj]) rfl (by kernel_rfl) (by kernel_rfl) (by kernel_rfl) (fun _ _ _ h => h) rfl (fun V hV => ex_mk_note _ _ rfl rfl rfl) hS0 ?_
                    simp only [List.getElem_toArray, List.getElem_cons_zero, List.getElem_cons_succ, Act.put, List.setIfInBounds_toArray, List.set_cons_zero, List.set_cons_succ]
                    have hS1 := hS0.alloc hS0.size (.cells #[.int .i16 (x + gap + aj), .int .i8 qj] 95)
                    refine step_val 22 _ _ (by kernel_rfl) rfl rfl (ex_build_note _ rfl (x + gap + aj) qj rfl) hS1 ?_
                    simp only [List.getElem_toArray, List.getElem_cons_zero, List.getElem_cons_succ, Act.put, List.setIfInBounds_toArray, List.set_cons_zero, List.set_cons_succ]
                    have hrow := heap_alloc_new wr.drew (.cells #[.int .i16 (x + gap + aj), .int .i8 qj] 95)
                    have hosd : OwnS (wr.drew.alloc (.cells #[.int .i16 (x + gap + aj), .int .i8 qj] 95)) W.heap.size v2 (pkL (zT N A) gap k ++ [(x + gap, (mz : Int))]) := OwnL.alloc (OwnL.below HOS.out (below_drew wr)) _
                    have hond : OwnN (wr.drew.alloc (.cells #[.int .i16 (x + gap + aj), .int .i8 qj] 95)) W.heap.size u13 (ltO N A Q gap k ++ nL (x + gap) (A k) (Q k) j) := OwnL.alloc (OwnL.below HON.out (below_drew wr)) _
                    refine step_append_noteg 23 (by kernel_rfl) rfl rfl _ _ rfl W.heap.size u13 _ rfl hond wr.drew.heap.size (x + gap + aj, qj) rfl hrow (by have := HOL.out; omega) hS1.size ?_
                    intro v6 w6 ho6 hg6 hb6
                    have hS6 := hS1.trans hb6
                    have hos6 := hosd.keepN hond hg6
                    refine ⟨hS6, ?_⟩
                    simp only [List.getElem_toArray, List.getElem_cons_zero, List.getElem_cons_succ, Act.put, List.setIfInBounds_toArray, List.set_cons_zero, List.set_cons_succ]
                    refine take_val 24 (v6) rfl (by kernel_rfl) (by kernel_rfl) (by kernel_rfl) (fun _ _ _ h => h) rfl (fun V hV => by simp [go_sem]) hS6 ?_
                    simp only [List.getElem_toArray, List.getElem_cons_zero, List.getElem_cons_succ, Act.put, List.setIfInBounds_toArray, List.set_cons_zero, List.set_cons_succ]
                    refine wpAnyH_done (by kernel_rfl) ?_ _
                    have HB6 := Lib.hid hS6; have HOS6 := Lib.hid hos6; have HON6 := Lib.hid ho6
                    clear hS0 hS1 hrow hosd hond ho6 hg6 hb6 hS6 hos6
                    go_wp2
                    go_roundw
                    case rel => exact ⟨HB6.out, j + 1, by omega, by go_num, HOS6.out, by rw [HNS.out, ← List.append_assoc]; exact HON6.out⟩
                    case measure => simp [intOf]; omega
                  · have hjn : N k = j := by omega
                    have hj' : ¬ (j : Int) < N k := by omega
                    have HFO := Lib.hid (show OwnN wr W.heap.size u13 (ltO N A Q gap (k + 1)) by rw [HO.out, hjn]; exact HON.out)
                    have hj2 : ((N k : Nat) : Int) = j := by omega
                    have q1 := i64_id (x := x + gap + mz) (by omega)
                    clear hjn hj2
                    go_wp2
                    go_roundw
                    case rel => exact ⟨HBJ.out, k + 1, by omega, by go_num, by rw [HE.out], by rw [HS2.out]; exact HOS.out, HFO.out⟩
                    case measure => simp [intOf]; omega
              · have hya := pkA_eq (zT N A) gap h0
                have h0' : ¬ (0 : Int) < k := by omega
                have HS2 := Lib.hid (pkL_succ (zT N A) gap k); have HE := Lib.hid (pkE_succ (zT N A) gap k); have HO := Lib.hid (ltO_succ N A Q gap k)
                rw [hy] at HS2 HE HO
                obtain ⟨x, hx⟩ : ∃ x, pkE (zT N A) gap k = x := ⟨_, rfl⟩
                rw [hy, hx] at hya
                rw [hx] at hbd ⊢
                have HX := Lib.hid hx; have HYY := Lib.hid hy; have HMX := Lib.hid hmx; have HTL := Lib.hid htl
                clear hx hy hmx
                rw [← HMX.out] at HS2 HE
                subst hya
                have HZK := Lib.hid hzk
                go_wp2_with (first | (go_at_call 53; refine (l01Length_any _ _ _ _ (Q k) _ (by omega) (HA.out k) HNK.out).mono ?_; rw [htl]; rintro e w2 ⟨rfl, rfl⟩) | (go_at_call 93; refine (l00Max_any 1 tl _).mono ?_; rw [hmz]; rintro e w2 ⟨rfl, rfl⟩) | (at_builtin; refine append_Lg Try.underlying62 infoS2 rfl (by decide) (by decide) encS_len encS_one rfl _ _ rfl W.heap.size u12 (pkL (zT N A) gap k) rfl (OwnL.alloc HOS.out _) ⟨wr.heap.size, 0, none⟩ 1 1 [(y, (mz : Int))] rfl rfl (one_cells (heap_alloc_new wr _)) (by rw [pkL_len]; omega) (by simp; omega) ?_; intro v2 w2 hown2 hg2; have HO2 := Lib.hid hown2; have HG2 := Lib.hid hg2; clear hown2 hg2))
                have HON2 := Lib.hid (OwnN.keepS (OwnL.alloc HON.out (.cells #[.int .i16 (y), .int .i16 (mz : Int)] 147)) (OwnL.alloc HOS.out (.cells #[.int .i16 (y), .int .i16 (mz : Int)] 147)) HG2.out)
                have HB2 := Lib.hid ((HBK.out.alloc hszw2 (.cells #[.int .i16 (y), .int .i16 (mz : Int)] 147)).trans (Below.grown (Below.refl _ _) HG2.out (by simp; omega) fun k hk => (OwnS.lt HOS.out k hk).1))
                clear HG2 HOS HON c0 HNK HTL hmz htl KB KT KF
                obtain ⟨U, rfl⟩ : ∃ U, U = wr := ⟨wr, rfl⟩
                go_loopw [13, 16] (fun u i w' => Below W.heap.size W w' ∧ ∃ j : Nat, j ≤ N k ∧ i = .int .i64 j ∧ OwnS w' W.heap.size v2 (pkL (zT N A) gap k ++ [(y, (mz : Int))]) ∧ OwnN w' W.heap.size u (ltO N A Q gap k ++ nL (y) (A k) (Q k) j)) (fun _ i _ => N k - (intOf i).toNat)
                case atStart => exact ⟨HB2.out, 0, by omega, rfl, HO2.out, by rw [nL_zero, List.append_nil]; exact HON2.out⟩
                case round =>
                  clear HB2 HO2 HON2
                  obtain ⟨hb, j, hj, rfl, hos, hon⟩ := hrel
                  have HOS := Lib.hid hos; have HON := Lib.hid hon; clear hos hon
                  have hszw3 := hb.size
                  have HBJ := Lib.hid hb
                  have c0 := KC0.at hb
                  clear hb
                  by_cases hltj : j < N k
                  · have hj' : (j : Int) < N k := by omega
                    have hx2 := NoteAt.get KNK.here (show 0 < N k by omega)
                    obtain ⟨g2, off2, hq2, hg2, hc2⟩ := hx2
                    rw [hq2] at c0 KC0
                    have KN0 := kp_cell (hc2 j hltj).1 hg2
                    have KN1 := kp_cell (hc2 j hltj).2 hg2
                    have hvn := ((vTune_facts (HALL.out k hlt)).2.1 j hltj).1
                    have hns := nL_succ (y) (A k) (Q k) j
                    have hnl := nL_len (y) (A k) (Q k) j
                    have hoL : (ltO N A Q gap k ++ nL (y) (A k) (Q k) j).length ≤ 2000 := by rw [List.length_append, hnl]; have := HLO.out; omega
                    obtain ⟨aj, haj⟩ : ∃ aj, A k j = aj := ⟨_, rfl⟩
                    obtain ⟨qj, hqj⟩ : ∃ qj, Q k j = qj := ⟨_, rfl⟩
                    rw [haj] at KN0 hvn hns
                    rw [hqj] at KN1 hns
                    have q0 := i64_id (x := aj) (by omega)
                    have q1 := i64_id (x := y + aj) (by omega)
                    have q2 : IntKind.i16.wrap (y + aj) = y + aj := i16_idT (by omega)
                    have HNS := Lib.hid hns; have HOL := Lib.hid hoL
                    clear hns hnl hoL haj hqj hc2 hq2
                    go_wp2
                    have hS0 : Below W.heap.size W wr.drew := HBJ.out.drew
                    refine wp_region_S (fun V => Below W.heap.size W V) (by kernel_rfl) hS0 ?_
                    refine take_val 0 (u13) rfl (by kernel_rfl) (by kernel_rfl) (by kernel_rfl) (fun _ _ _ h => h) rfl (fun V hV => by simp [go_sem]) hS0 ?_
                    simp only [List.getElem_toArray, List.getElem_cons_zero, List.getElem_cons_succ, Act.put, List.setIfInBounds_toArray, List.set_cons_zero, List.set_cons_succ]
                    refine take_val 1 (.int .i64 (y)) rfl (by kernel_rfl) (by kernel_rfl) (by kernel_rfl) (fun _ _ _ h => h) rfl (fun V hV => by simp [go_sem]) hS0 ?_
                    simp only [List.getElem_toArray, List.getElem_cons_zero, List.getElem_cons_succ, Act.put, List.setIfInBounds_toArray, List.set_cons_zero, List.set_cons_succ]
                    refine take_val 2 (.slice (some ⟨g, off, none⟩) m d) rfl (by kernel_rfl) (by kernel_rfl) (by kernel_rfl) (fun _ _ _ h => h) rfl (fun V hV => by simp [go_sem]) hS0 ?_
                    simp only [List.getElem_toArray, List.getElem_cons_zero, List.getElem_cons_succ, Act.put, List.setIfInBounds_toArray, List.set_cons_zero, List.set_cons_succ]
                    refine take_val 3 (.int .i64 (k : Nat)) rfl (by kernel_rfl) (by kernel_rfl) (by kernel_rfl) (fun _ _ _ h => h) rfl (fun V hV => by simp [go_sem]) hS0 ?_
                    simp only [List.getElem_toArray, List.getElem_cons_zero, List.getElem_cons_succ, Act.put, List.setIfInBounds_toArray, List.set_cons_zero, List.set_cons_succ]
                    refine take_val 4 (.pointer (some ⟨g, off + k, none⟩)) rfl (by kernel_rfl) (by kernel_rfl) (by kernel_rfl) (fun _ _ _ h => h) rfl (fun V hV => by simp [go_sem, hk']) hS0 ?_
                    simp only [List.getElem_toArray, List.getElem_cons_zero, List.getElem_cons_succ, Act.put, List.setIfInBounds_toArray, List.set_cons_zero, List.set_cons_succ]
                    refine take_val 5 (.slice (some ⟨g2, off2, none⟩) (N k) (C k)) rfl (by kernel_rfl) (by kernel_rfl) (by kernel_rfl) (fun _ _ _ h => h) rfl (fun V hV => by have c := KC0.at hV; simp [go_sem, c]) hS0 ?_
                    simp only [List.getElem_toArray, List.getElem_cons_zero, List.getElem_cons_succ, Act.put, List.setIfInBounds_toArray, List.set_cons_zero, List.set_cons_succ]
                    refine take_val 6 (.int .i64 (j : Nat)) rfl (by kernel_rfl) (by kernel_rfl) (by kernel_rfl) (fun _ _ _ h => h) rfl (fun V hV => by simp [go_sem]) hS0 ?_
                    simp only [List.getElem_toArray, List.getElem_cons_zero, List.getElem_cons_succ, Act.put, List.setIfInBounds_toArray, List.set_cons_zero, List.set_cons_succ]
                    refine take_val 7 (.pointer (some ⟨g2, off2 + j * 2, none⟩)) rfl (by kernel_rfl) (by kernel_rfl) (by kernel_rfl) (fun _ _ _ h => h) rfl (fun V hV => by simp [go_sem, hj']) hS0 ?_
                    simp only [List.getElem_toArray, List.getElem_cons_zero, List.getElem_cons_succ, Act.put, List.setIfInBounds_toArray, List.set_cons_zero, List.set_cons_succ]
                    refine take_val 8 (.pointer (some ⟨g2, off2 + j * 2, none⟩)) rfl (by kernel_rfl) (by kernel_rfl) (by kernel_rfl) (fun _ _ _ h => h) rfl (fun V hV => by simp [go_sem]) hS0 ?_
                    simp only [List.getElem_toArray, List.getElem_cons_zero, List.getElem_cons_succ, Act.put, List.setIfInBounds_toArray, List.set_cons_zero, List.set_cons_succ]
                    refine take_val 9 (.int .i16 aj) rfl (by kernel_rfl) (by kernel_rfl) (by kernel_rfl) (fun _ _ _ h => h) rfl (fun V hV => by have c := KN0.at hV; simp [go_sem, c]) hS0 ?_
                    simp only [List.getElem_toArray, List.getElem_cons_zero, List.getElem_cons_succ, Act.put, List.setIfInBounds_toArray, List.set_cons_zero, List.set_cons_succ]
                    refine take_val 10 (.int .i64 aj) rfl (by kernel_rfl) (by kernel_rfl) (by kernel_rfl) (fun _ _ _ h => h) rfl (fun V hV => by simp [go_sem, q0]) hS0 ?_
                    simp only [List.getElem_toArray, List.getElem_cons_zero, List.getElem_cons_succ, Act.put, List.setIfInBounds_toArray, List.set_cons_zero, List.set_cons_succ]
                    refine take_val 11 (.int .i64 (y + aj)) rfl (by kernel_rfl) (by kernel_rfl) (by kernel_rfl) (fun _ _ _ h => h) rfl (fun V hV => by simp [go_sem, q1]) hS0 ?_
                    simp only [List.getElem_toArray, List.getElem_cons_zero, List.getElem_cons_succ, Act.put, List.setIfInBounds_toArray, List.set_cons_zero, List.set_cons_succ]
                    refine take_val 12 (.int .i16 (y + aj)) rfl (by kernel_rfl) (by kernel_rfl) (by kernel_rfl) (fun _ _ _ h => h) rfl (fun V hV => by simp [go_sem, q2]) hS0 ?_
                    simp only [List.getElem_toArray, List.getElem_cons_zero, List.getElem_cons_succ, Act.put, List.setIfInBounds_toArray, List.set_cons_zero, List.set_cons_succ]
                    refine take_val 13 (.slice (some ⟨g, off, none⟩) m d) rfl (by kernel_rfl) (by kernel_rfl) (by kernel_rfl) (fun _ _ _ h => h) rfl (fun V hV => by simp [go_sem]) hS0 ?_
                    simp only [List.getElem_toArray, List.getElem_cons_zero, List.getElem_cons_succ, Act.put, List.setIfInBounds_toArray, List.set_cons_zero, List.set_cons_succ]
                    refine take_val 14 (.int .i64 (k : Nat)) rfl (by kernel_rfl) (by kernel_rfl) (by kernel_rfl) (fun _ _ _ h => h) rfl (fun V hV => by simp [go_sem]) hS0 ?_
                    simp only [List.getElem_toArray, List.getElem_cons_zero, List.getElem_cons_succ, Act.put, List.setIfInBounds_toArray, List.set_cons_zero, List.set_cons_succ]
                    refine take_val 15 (.pointer (some ⟨g, off + k, none⟩)) rfl (by kernel_rfl) (by kernel_rfl) (by kernel_rfl) (fun _ _ _ h => h) rfl (fun V hV => by simp [go_sem, hk']) hS0 ?_
                    simp only [List.getElem_toArray, List.getElem_cons_zero, List.getElem_cons_succ, Act.put, List.setIfInBounds_toArray, List.set_cons_zero, List.set_cons_succ]
                    refine take_val 16 (.slice (some ⟨g2, off2, none⟩) (N k) (C k)) rfl (by kernel_rfl) (by kernel_rfl) (by kernel_rfl) (fun _ _ _ h => h) rfl (fun V hV => by have c := KC0.at hV; simp [go_sem, c]) hS0 ?_
                    simp only [List.getElem_toArray, List.getElem_cons_zero, List.getElem_cons_succ, Act.put, List.setIfInBounds_toArray, List.set_cons_zero, List.set_cons_succ]
                    refine take_val 17 (.int .i64 (j : Nat)) rfl (by kernel_rfl) (by kernel_rfl) (by kernel_rfl) (fun _ _ _ h => h) rfl (fun V hV => by simp [go_sem]) hS0 ?_
                    simp only [List.getElem_toArray, List.getElem_cons_zero, List.getElem_cons_succ, Act.put, List.setIfInBounds_toArray, List.set_cons_zero, List.set_cons_succ]
                    refine take_val 18 (.pointer (some ⟨g2, off2 + j * 2, none⟩)) rfl (by kernel_rfl) (by kernel_rfl) (by kernel_rfl) (fun _ _ _ h => h) rfl (fun V hV => by simp [go_sem, hj']) hS0 ?_
                    simp only [List.getElem_toArray, List.getElem_cons_zero, List.getElem_cons_succ, Act.put, List.setIfInBounds_toArray, List.set_cons_zero, List.set_cons_succ]
                    refine take_val 19 (.pointer (some ⟨g2, off2 + j * 2 + 1, none⟩)) rfl (by kernel_rfl) (by kernel_rfl) (by kernel_rfl) (fun _ _ _ h => h) rfl (fun V hV => by simp [go_sem]) hS0 ?_
                    simp only [List.getElem_toArray, List.getElem_cons_zero, List.getElem_cons_succ, Act.put, List.setIfInBounds_toArray, List.set_cons_zero, List.set_cons_succ]
                    refine take_val 20 (.int .i8 qj) rfl (by kernel_rfl) (by kernel_rfl) (by kernel_rfl) (fun _ _ _ h => h) rfl (fun V hV => by have c := KN1.at hV; simp [go_sem, c]) hS0 ?_
                    simp only [List.getElem_toArray, List.getElem_cons_zero, List.getElem_cons_succ, Act.put, List.setIfInBounds_toArray, List.set_cons_zero, List.set_cons_succ]
                    refine take_val 21 (.agg #[.int .i16 (y + aj), .int .i8 qj]) rfl (by kernel_rfl) (by kernel_rfl) (by kernel_rfl) (fun _ _ _ h => h) rfl (fun V hV => ex_mk_note _ _ rfl rfl rfl) hS0 ?_
                    simp only [List.getElem_toArray, List.getElem_cons_zero, List.getElem_cons_succ, Act.put, List.setIfInBounds_toArray, List.set_cons_zero, List.set_cons_succ]
                    have hS1 := hS0.alloc hS0.size (.cells #[.int .i16 (y + aj), .int .i8 qj] 95)
                    refine step_val 22 _ _ (by kernel_rfl) rfl rfl (ex_build_note _ rfl (y + aj) qj rfl) hS1 ?_
                    simp only [List.getElem_toArray, List.getElem_cons_zero, List.getElem_cons_succ, Act.put, List.setIfInBounds_toArray, List.set_cons_zero, List.set_cons_succ]
                    have hrow := heap_alloc_new wr.drew (.cells #[.int .i16 (y + aj), .int .i8 qj] 95)
                    have hosd : OwnS (wr.drew.alloc (.cells #[.int .i16 (y + aj), .int .i8 qj] 95)) W.heap.size v2 (pkL (zT N A) gap k ++ [(y, (mz : Int))]) := OwnL.alloc (OwnL.below HOS.out (below_drew wr)) _
                    have hond : OwnN (wr.drew.alloc (.cells #[.int .i16 (y + aj), .int .i8 qj] 95)) W.heap.size u13 (ltO N A Q gap k ++ nL (y) (A k) (Q k) j) := OwnL.alloc (OwnL.below HON.out (below_drew wr)) _
                    refine step_append_noteg 23 (by kernel_rfl) rfl rfl _ _ rfl W.heap.size u13 _ rfl hond wr.drew.heap.size (y + aj, qj) rfl hrow (by have := HOL.out; omega) hS1.size ?_
                    intro v6 w6 ho6 hg6 hb6
                    have hS6 := hS1.trans hb6
                    have hos6 := hosd.keepN hond hg6
                    refine ⟨hS6, ?_⟩
                    simp only [List.getElem_toArray, List.getElem_cons_zero, List.getElem_cons_succ, Act.put, List.setIfInBounds_toArray, List.set_cons_zero, List.set_cons_succ]
                    refine take_val 24 (v6) rfl (by kernel_rfl) (by kernel_rfl) (by kernel_rfl) (fun _ _ _ h => h) rfl (fun V hV => by simp [go_sem]) hS6 ?_
                    simp only [List.getElem_toArray, List.getElem_cons_zero, List.getElem_cons_succ, Act.put, List.setIfInBounds_toArray, List.set_cons_zero, List.set_cons_succ]
                    refine wpAnyH_done (by kernel_rfl) ?_ _
                    have HB6 := Lib.hid hS6; have HOS6 := Lib.hid hos6; have HON6 := Lib.hid ho6
                    clear hS0 hS1 hrow hosd hond ho6 hg6 hb6 hS6 hos6
                    go_wp2
                    go_roundw
                    case rel => exact ⟨HB6.out, j + 1, by omega, by go_num, HOS6.out, by rw [HNS.out, ← List.append_assoc]; exact HON6.out⟩
                    case measure => simp [intOf]; omega
                  · have hjn : N k = j := by omega
                    have hj' : ¬ (j : Int) < N k := by omega
                    have HFO := Lib.hid (show OwnN wr W.heap.size u13 (ltO N A Q gap (k + 1)) by rw [HO.out, hjn]; exact HON.out)
                    have hj2 : ((N k : Nat) : Int) = j := by omega
                    have q1 := i64_id (x := y + mz) (by omega)
                    clear hjn hj2
                    go_wp2
                    go_roundw
                    case rel => exact ⟨HBJ.out, k + 1, by omega, by go_num, by rw [HE.out], by rw [HS2.out]; exact HOS.out, HFO.out⟩
                    case measure => simp [intOf]; omega
            · have hkm : m = k := by omega
              subst hkm
              have hk' : ¬ (m : Int) < m := by omega
              obtain ⟨nb, nc, rfl⟩ := OwnL.form HON.out
              have f0 := row_cell 0 KF.here
              have q0 := i64_id (x := s) (by omega)
              obtain ⟨x, hx⟩ : ∃ x, pkE (zT N A) gap m = x := ⟨_, rfl⟩
              obtain ⟨ln, hln⟩ : ∃ ln, (ltO N A Q gap m).length = ln := ⟨_, rfl⟩
              have hff := ltF_iff (s := s) (m := m) (N := N) (A := A) (Q := Q) (gap := gap)
              rw [hx, hln] at hff
              rw [hx, hln]
              have hsw := KB.here.size
              by_cases hfit : x ≤ s ∧ ln ≤ 120
              · have hcode := lt_yes HOK.out HGG.out (hff.2 hfit)
                have HC := Lib.hid hcode
                have hx1 : ¬ x > s := by omega
                have hx2 : ¬ (ln : Int) > 120 := by omega
                have HAP := Lib.hid (apart_SN HOS.out HON.out)
                rw [hln] at HAP
                have HONM := Lib.hid (OwnL.mono HON.out (KB1.here.size))
                rw [hln] at HONM
                clear hff hcode hx hln
                go_wp2
                go_ret3
                exact ⟨_, _, by rw [HC.out.2.2]; rfl, KB.here, by rw [HC.out.1]; exact OwnL.mono HOS.out KB1.here.size, by rw [HC.out.2.1]; exact HONM.out, HAP.out⟩
              · have hcode := lt_three HOK.out HGG.out (by rw [← Bool.not_eq_true, hff]; exact hfit)
                have HC := Lib.hid hcode; clear hcode
                have HES := Lib.hid ((OwnL.nil (T := 147) (sz := 2) (enc := encS) wr w.heap.size KB.here.size).alloc (.cells #[] 95))
                have hen := OwnL.nil (T := 95) (sz := 2) (enc := encN) (wr.alloc (.cells #[] 147)) w.heap.size (by have := KB.here.size; simp; omega)
                rw [size_alloc1] at hen
                have HEN := Lib.hid hen; clear hen
                have HBE := Lib.hid (((KB.here.alloc KB.here.size (.cells #[] 147))).alloc (by have := KB.here.size; simp; omega) (.cells #[] 95))
                clear hff hx hln
                by_cases hxs : x ≤ s
                · have hx1 : ¬ x > s := by omega
                  have hx2 : (ln : Int) > 120 := by omega
                  clear hfit
                  go_wp2
                  go_ret3
                  exact ⟨_, _, by rw [HC.out.2.2]; rfl, HBE.out, by rw [HC.out.1]; exact HES.out, by rw [HC.out.2.1]; exact HEN.out, apart_new (by omega)⟩
                · have hx1 : x > s := by omega
                  clear hfit
                  go_wp2
                  go_ret3
                  exact ⟨_, _, by rw [HC.out.2.2]; rfl, HBE.out, by rw [HC.out.1]; exact HES.out, by rw [HC.out.2.1]; exact HEN.out, apart_new (by omega)⟩

/-! LayTunes, by the program. No conditions. -/
theorem sizeTuneT_any (a : Option Addr) (n c : Nat) (w : World) (hn : n ≤ 9223372036854775807) :
    Calls Try.prog 96 #[.slice a n c] w fun e w' => e = .returned (.int .i64 n) ∧ w = w' := by
  go_enter Try.func96, Try.ntmps96
  go_wp2
  go_ret
  exact ⟨ret_int (by first | rfl | rw [i64_id (by omega)]), rfl⟩
def zL (N : Nat → Nat) (A : Nat → Nat → Int) (k : Nat) : List Int := (List.range k).map (zT N A)
theorem zL_zero (N : Nat → Nat) (A : Nat → Nat → Int) : zL N A 0 = [] := rfl
theorem zL_succ (N : Nat → Nat) (A : Nat → Nat → Int) (k : Nat) : zL N A (k + 1) = zL N A k ++ [zT N A k] := by unfold zL; rw [List.range_succ, List.map_append]; rfl
theorem zL_len (N : Nat → Nat) (A : Nat → Nat → Int) (k : Nat) : (zL N A k).length = k := by simp [zL]
theorem zL_get {N : Nat → Nat} {A : Nat → Nat → Int} {k i : Nat} (h : i < k) : (zL N A k).getD i 0 = zT N A i := by simp [zL, List.getD, h]
attribute [irreducible] zL
theorem pkL_get {Z : Nat → Int} {gap : Int} {i : Nat} : ∀ (k : Nat), i < k → (pkL Z gap k).getD i (0, 0) = (pkA Z gap i, Z i) := by
  intro k
  induction k with
  | zero => intro h; omega
  | succ k ih =>
    intro h
    rw [pkL_succ]
    have hl := pkL_len Z gap k
    by_cases e : i = k
    · subst e; simp [List.getD, List.getElem?_append_right (Nat.le_of_eq hl), hl]
    · have := ih (by omega)
      simp only [List.getD] at *
      rw [List.getElem?_append_left (by omega)]
      exact this
set_option maxRecDepth 100000 in
set_option maxHeartbeats 8000000 in
theorem implLayTunes_any (s : Int) (a : Option Addr) (n c : Nat) (P R : Nat → Int) (b : Option Addr) (m d : Nat) (aa : Nat → Option Addr) (N C : Nat → Nat) (A Q : Nat → Nat → Int) (gap : Int) (w : World) (hs : -32768 ≤ s ∧ s ≤ 32767) (hn : n ≤ 1048576) (hP : I8 P) (hR : I8 R) (hh : HamAt w a n P R) (hm : m ≤ 1048576) (hN : ∀ i, i < m → N i ≤ 1048576) (hA : ∀ i, I16 (A i)) (hQ : ∀ i, I8 (Q i)) (hl : TuneSAt w b m aa N C A Q) (hgap : -9223372036854775808 ≤ gap ∧ gap ≤ 9223372036854775807) :
    Calls Try.prog 41 #[.agg #[.int .i16 s, .slice a n c], .slice b m d, .int .i64 gap] w fun e w' => ∃ v u, e = .returned (.tuple #[v, u, .int .i64 (ltC s n P R m N A Q gap)]) ∧ Below w.heap.size w w' ∧ OwnS w' w.heap.size v (ltS s n P R m N A Q gap) ∧ OwnN w' w.heap.size u (ltN s n P R m N A Q gap) ∧ Apart v u := by
  have HP := Lib.hid hP; have HR := Lib.hid hR; have HN := Lib.hid hN; have HA := Lib.hid hA; have HQ := Lib.hid hQ; clear hP hR hN hA hQ
  have KB := Kp.base w
  have KH := kp_ham hh; have KT := kp_tunes hl; clear hh hl
  replace KB := KB.alloc (.cells #[.int .i16 s, .slice a n c] 27)
  replace KH := KH.alloc (.cells #[.int .i16 s, .slice a n c] 27)
  replace KT := KT.alloc (.cells #[.int .i16 s, .slice a n c] 27)
  have KF := kp_new1 w #[.int .i16 s, .slice a n c] 27 (g := w.heap.size) (by simp)
  have HZ := Lib.hid (show (w.alloc (.cells #[.int .i16 s, .slice a n c] 27)).heap.size = w.heap.size + 1 by simp)
  go_enter Try.func41, Try.ntmps41
  go_wp2_with (with_reducible refine load_iframe rfl _ rfl w.heap.size rfl _ s a n c KF.here ?_)
  generalize (w.alloc (.cells #[.int .i16 s, .slice a n c] 27)) = W at KB KH KT KF HZ ⊢
  refine (validFrame_any s a n c P R W (by omega) hs HP.out HR.out KH.here).mono ?_
  rintro e w1 ⟨rfl, hb1⟩
  replace KB := KB.on hb1
  replace KH := KH.on hb1
  replace KT := KT.on hb1
  replace KF := KF.on hb1
  clear hb1
  cases hv : vFrame s n P R
  · have HC := Lib.hid (lt_one (m := m) (N := N) (A := A) (Q := Q) (gap := gap) (show (vFrame s n P R && tAll m N A Q) = false by rw [hv]; rfl))
    clear hv
    go_wp2
    go_ret3
    exact ⟨_, _, by rw [HC.out.2.2]; rfl, KB.here, by rw [HC.out.1]; exact OwnL.none0 _ _, by rw [HC.out.2.1]; exact OwnL.none0 _ _, Apart.nil _⟩
  · have HV := Lib.hid hv; clear hv
    go_wp2_with fail
    refine (tuneCode_any b m d aa N C A Q w1 (by omega) (fun i hi => by have := HN.out i hi; omega) HA.out HQ.out KT.here).mono ?_
    obtain ⟨T0, hT0⟩ : ∃ T, tAll m N A Q = T := ⟨_, rfl⟩
    rw [hT0]
    rintro e w2 ⟨rfl, hb2⟩
    replace KB := KB.on hb2
    replace KH := KH.on hb2
    replace KT := KT.on hb2
    replace KF := KF.on hb2
    clear hb2
    cases T0
    · have HC := Lib.hid (lt_one (gap := gap) (show (vFrame s n P R && tAll m N A Q) = false by rw [HV.out, hT0]; rfl))
      clear hT0
      rw [unl_false]
      go_wp2
      go_ret3
      exact ⟨_, _, by rw [HC.out.2.2]; rfl, KB.here, by rw [HC.out.1]; exact OwnL.none0 _ _, by rw [HC.out.2.1]; exact OwnL.none0 _ _, Apart.nil _⟩
    · have HOK := Lib.hid (show (vFrame s n P R && tAll m N A Q) = true by rw [HV.out, hT0]; rfl)
      have HTA := Lib.hid hT0; clear hT0
      rw [unl_true]
      go_wp2
      have hS0 := below_drew w2
      refine wp_region_S (fun V => Below w2.heap.size w2 V) (by kernel_rfl) hS0 ?_
      refine take_val 0 (.agg #[.int .i16 s, .slice a n c]) rfl (by kernel_rfl) (by kernel_rfl) (by kernel_rfl) (fun _ _ _ h => h) rfl (fun V hV => ex_load_iframe _ rfl w.heap.size rfl _ s a n c (KF.at hV)) hS0 ?_
      simp only [List.getElem_toArray, List.getElem_cons_zero, List.getElem_cons_succ, Act.put, List.setIfInBounds_toArray, List.set_cons_zero, List.set_cons_succ]
      refine take_val 1 (.slice b m d) rfl (by kernel_rfl) (by kernel_rfl) (by kernel_rfl) (fun _ _ _ h => h) rfl (fun V hV => by simp [go_sem]) hS0 ?_
      simp only [List.getElem_toArray, List.getElem_cons_zero, List.getElem_cons_succ, Act.put, List.setIfInBounds_toArray, List.set_cons_zero, List.set_cons_succ]
      refine take_val 3 (.int .i64 gap) rfl (by kernel_rfl) (by kernel_rfl) (by kernel_rfl) (fun _ _ _ h => h) rfl (fun V hV => by simp [go_sem]) hS0 ?_
      simp only [List.getElem_toArray, List.getElem_cons_zero, List.getElem_cons_succ, Act.put, List.setIfInBounds_toArray, List.set_cons_zero, List.set_cons_succ]
      refine step_call 2 96 #[.slice b m d] (by kernel_rfl) rfl rfl (by simp [go_sem]) ?_
      refine (sizeTuneT_any b m d _ (by omega)).mono ?_
      rintro e w3 ⟨rfl, rfl⟩
      refine ⟨_, rfl, hS0, ?_⟩
      simp only [List.getElem_toArray, List.getElem_cons_zero, List.getElem_cons_succ, Act.put, List.setIfInBounds_toArray, List.set_cons_zero, List.set_cons_succ]
      have hpc := packCode_any s a n c P R m gap w2.drew hn hs HP.out HR.out (KH.at hS0)
      rw [HV.out] at hpc
      cases hg : (decide ((m : Int) ≤ 12) && inB gap 0 96)
      · rw [hg, pcode_tf] at hpc
        have HC := Lib.hid (lt_two HOK.out hg)
        refine step_call 4 95 #[.agg #[.int .i16 s, .slice a n c], .int .i64 (m : Nat), .int .i64 gap] (by kernel_rfl) rfl rfl (by simp [go_sem]) ?_
        refine (hpc).mono ?_
        rintro e w4 ⟨rfl, hb4⟩
        refine ⟨_, rfl, hS0.trans (hb4.mono hS0.size), ?_⟩
        simp only [List.getElem_toArray, List.getElem_cons_zero, List.getElem_cons_succ, Act.put, List.setIfInBounds_toArray, List.set_cons_zero, List.set_cons_succ]
        have hS4 := hS0.trans (hb4.mono hS0.size)
        refine take_val 5 (.int .i64 2) rfl (by kernel_rfl) (by kernel_rfl) (by kernel_rfl) (fun _ _ _ h => h) rfl (fun V hV => by simp [go_sem]) hS4 ?_
        simp only [List.getElem_toArray, List.getElem_cons_zero, List.getElem_cons_succ, Act.put, List.setIfInBounds_toArray, List.set_cons_zero, List.set_cons_succ]
        refine wpAnyH_done (by kernel_rfl) ?_ _
        have hbe := KB.at hS4
        clear hg hpc
        go_wp2
        go_ret3
        exact ⟨_, _, by rw [HC.out.2.2]; rfl, hbe, by rw [HC.out.1]; exact OwnL.none0 _ _, by rw [HC.out.2.1]; exact OwnL.none0 _ _, Apart.nil _⟩
      · rw [hg, pcode_tt] at hpc
        have HGG := Lib.hid hg
        refine step_call 4 95 #[.agg #[.int .i16 s, .slice a n c], .int .i64 (m : Nat), .int .i64 gap] (by kernel_rfl) rfl rfl (by simp [go_sem]) ?_
        refine (hpc).mono ?_
        rintro e w4 ⟨rfl, hb4⟩
        refine ⟨_, rfl, hS0.trans (hb4.mono hS0.size), ?_⟩
        simp only [List.getElem_toArray, List.getElem_cons_zero, List.getElem_cons_succ, Act.put, List.setIfInBounds_toArray, List.set_cons_zero, List.set_cons_succ]
        have hS4 := hS0.trans (hb4.mono hS0.size)
        refine take_val 5 (.int .i64 0) rfl (by kernel_rfl) (by kernel_rfl) (by kernel_rfl) (fun _ _ _ h => h) rfl (fun V hV => by simp [go_sem]) hS4 ?_
        simp only [List.getElem_toArray, List.getElem_cons_zero, List.getElem_cons_succ, Act.put, List.setIfInBounds_toArray, List.set_cons_zero, List.set_cons_succ]
        refine wpAnyH_done (by kernel_rfl) ?_ _
        replace KB := KB.on hS4
        replace KT := KT.on hS4
        replace KF := KF.on hS4
        obtain ⟨hm12, hgb⟩ := Bool.and_eq_true_iff.1 hg
        have hm12 := of_decide_eq_true hm12
        have hgr := inB_iff.1 hgb
        have HZB := Lib.hid (zT_bound HTA.out)
        have HALL := Lib.hid (tAll_iff.1 HTA.out)
        clear hS0 hS4 hb4 hpc hg hgb KH HTA
        have HE0 := Lib.hid (OwnI.nil w4 w4.heap.size (Nat.le_refl _))
        go_wp2
        go_loopw [10, 39] (fun v i w' => Below w4.heap.size w4 w' ∧ ∃ k : Nat, k ≤ m ∧ i = .int .i64 k ∧ OwnI w' w4.heap.size v (zL N A k)) (fun _ i _ => m - (intOf i).toNat)
        case atStart => exact ⟨(Below.refl _ _).alloc (Nat.le_refl _) _, 0, by omega, rfl, by rw [zL_zero]; exact HE0.out⟩
        case round =>
          clear HE0
          obtain ⟨hb, k, hk, rfl, ho⟩ := hrel
          have HO := Lib.hid ho; clear ho
          replace KB := KB.on hb
          replace KT := KT.on hb
          replace KF := KF.on hb
          have hszw := hb.size
          have HB := Lib.hid hb; clear hb
          by_cases hlt : k < m
          · have hk' : (k : Int) < m := by omega
            have hx := TuneSAt.get KT.here (show 0 < m by omega)
            obtain ⟨g, off, rfl, hg, hc⟩ := hx
            have c0 := (hc k hlt).1
            have HNK := Lib.hid (hc k hlt).2
            clear hc
            have HNM := (vTune_facts (HALL.out k hlt)).1
            have hzk := HZB.out k hlt
            have hlen := zL_len N A k
            have HLEN := Lib.hid hlen; clear hlen
            have hzs := zL_succ N A k
            obtain ⟨z, hz⟩ : ∃ z, zT N A k = z := ⟨_, rfl⟩
            rw [hz] at hzs hzk
            have HZS := Lib.hid hzs; clear hzs
            obtain ⟨tl, htl⟩ : ∃ tl, tLen (N k) (A k) = tl := ⟨_, rfl⟩
            have hmax : max tl 1 = z := by
              by_cases h0 : N k = 0
              · rw [zT_none h0] at hz; rw [h0, tLen_zero] at htl; omega
              · rw [zT_some h0] at hz; omega
            have hmx2 : (if tl < 1 then (1 : Int) else tl) = z := by split <;> omega
            clear hz
            go_wp2_with (first | (go_at_call 60; refine (length_any _ _ _ _ (Q k) _ (by omega) (HA.out k) HNK.out).mono ?_; rw [htl]; rintro e w2 ⟨rfl, rfl⟩) | (at_builtin; refine append_int rfl _ _ rfl w4.heap.size _ (zL N A k) rfl (HO.out.alloc _) wr.heap.size z rfl (by simp [hmax]) (by rw [HLEN.out]; omega) (by simp; omega) ?_; intro v5 w5 ho5 hb5; have HO5 := Lib.hid ho5; have HB5 := Lib.hid ((HB.out.alloc hszw _).trans hb5); clear ho5 hb5))
            go_roundw
            case rel => exact ⟨HB5.out, k + 1, by omega, by go_num, by rw [HZS.out]; exact HO5.out⟩
            case measure => simp [intOf]; omega
          · have hkm : m = k := by omega
            subst hkm
            obtain ⟨lb, lc, rfl, hz⟩ := OwnI.at HO.out
            have hzz : IntAt wr lb m (zT N A) := fun h0 => by
              rw [zL_len] at hz
              obtain ⟨g, off, e, hg, hc⟩ := hz h0
              exact ⟨g, off, e, hg, fun i hi => by rw [hc i hi]; show some (Value.int .i64 ((zL N A m).getD i 0)) = _; rw [zL_get hi]⟩
            clear hz
            have hlz := zL_len N A m
            rw [hlz]
            have HZZ := Lib.hid hzz; clear hzz hlz
            go_wp2_with (with_reducible refine load_iframe rfl _ rfl w.heap.size rfl _ s a n c KF.here ?_)
            have hs96 := ((vFrame_iff.1 HV.out).1)
            refine (packedW_any s a n c lb m lc (zT N A) gap wr (by omega) (by omega) hgr HZB.out HZZ.out).mono ?_
            by_cases hfit : pkE (zT N A) gap m ≤ s
            · rw [pkd_fits hfit]
              rintro e w5 ⟨v, rfl, hb5, ho5⟩
              have ho6 : OwnS w5 wr.heap.size v (pkL (zT N A) gap m) := ho5
              clear ho5
              obtain ⟨sb, sc, rfl⟩ := OwnL.form ho6
              have hsl := pkL_len (zT N A) gap m
              have hrd := OwnS.readAt ho6
              rw [hsl] at ho6 hrd ⊢
              have HOS5 := Lib.hid ho6
              have HSW := Lib.hid KB.here.size
              replace KB := KB.on hb5
              replace KT := KT.on hb5
              replace KF := KF.on hb5
              have hszw5 := hb5.size
              have HFIT := Lib.hid hfit
              have HWB := Lib.hid KB.here
              have KS := kp_sec hrd
              clear hrd ho6 hsl hb5 hfit HZZ HO HB
              have HEN := Lib.hid (OwnL.nil (T := 95) (sz := 2) (enc := encN) w5 w5.heap.size (Nat.le_refl _))
              have hv120 : ∀ i, i < m → N i ≤ 120 := fun i hi => (vTune_facts (HALL.out i hi)).1
              have HV120 := Lib.hid hv120; clear hv120
              obtain ⟨U0, rfl⟩ : ∃ U, U = wr := ⟨wr, rfl⟩
              go_wp2
              go_loopw [15, 63] (fun u i w' => Below w5.heap.size w5 w' ∧ ∃ k : Nat, k ≤ m ∧ i = .int .i64 k ∧ OwnN w' w5.heap.size u (ltO N A Q gap k)) (fun _ i _ => m - (intOf i).toNat)
              case atStart => exact ⟨(Below.refl _ _).alloc (Nat.le_refl _) _, 0, by omega, rfl, by rw [ltO_zero]; exact HEN.out⟩
              case round =>
                clear HEN
                obtain ⟨hb, k, hk, rfl, ho⟩ := hrel
                have HON := Lib.hid ho; clear ho
                have hszw := hb.size
                have HBK := Lib.hid hb
                by_cases hlt : k < m
                · have hk' : (k : Int) < m := by omega
                  have hx := TuneSAt.get KT.here (show 0 < m by omega)
                  obtain ⟨g, off, rfl, hg, hc⟩ := hx
                  obtain ⟨ak, hak⟩ : ∃ ak, aa k = ak := ⟨_, rfl⟩
                  have hc0 := (hc k hlt).1
                  have hc1 := (hc k hlt).2
                  rw [hak] at hc0 hc1
                  have KNK := kp_note hc1
                  have c0 := (kp_cell hc0 hg).at hb
                  clear hc hc0 hc1 hak
                  have hxs := SecAt.get KS.here (show 0 < m by omega)
                  obtain ⟨gs, offs, rfl, hgs, hcs⟩ := hxs
                  have hcs0 := (hcs k hlt).1
                  have hpg := pkL_get (Z := zT N A) (gap := gap) m hlt
                  have hcs1 : w5.cell? ⟨gs, offs + k * 2, none⟩ = some (.int .i16 (pkA (zT N A) gap k)) := by rw [hcs0]; show some (Value.int .i16 ((pkL (zT N A) gap m).getD k (0, 0)).1) = _; rw [hpg]
                  have KS0 := kp_cell hcs1 hgs
                  clear hcs hcs0 hcs1 hpg hb
                  have HNM := HV120.out k hlt
                  have hbd := pk_boundW hgr k fun i hi => HZB.out i (by omega)
                  have HLO := Lib.hid (ltO_len (A := A) (Q := Q) (gap := gap) HV120.out k hk)
                  have HO := Lib.hid (ltO_succ N A Q gap k)
                  obtain ⟨y, hy⟩ : ∃ y, pkA (zT N A) gap k = y := ⟨_, rfl⟩
                  rw [hy] at hbd HO KS0
                  have hyb : 0 ≤ y ∧ y ≤ 4000 := by omega
                  clear hbd hy
                  go_wp2
                  obtain ⟨U, rfl⟩ : ∃ U, U = wr := ⟨wr, rfl⟩
                  go_loopw [15, 70] (fun u i w' => Below w5.heap.size w5 w' ∧ ∃ j : Nat, j ≤ N k ∧ i = .int .i64 j ∧ OwnN w' w5.heap.size u (ltO N A Q gap k ++ nL y (A k) (Q k) j)) (fun _ i _ => N k - (intOf i).toNat)
                  case atStart => exact ⟨HBK.out, 0, by omega, rfl, by rw [nL_zero, List.append_nil]; exact HON.out⟩
                  case round =>
                    clear HON
                    obtain ⟨hb, j, hj, rfl, ho⟩ := hrel
                    have HON := Lib.hid ho; clear ho
                    have hszw3 := hb.size
                    have HBJ := Lib.hid hb
                    clear c0
                    by_cases hltj : j < N k
                    · have hj' : (j : Int) < N k := by omega
                      have hx2 := NoteAt.get KNK.here (show 0 < N k by omega)
                      obtain ⟨g2, off2, rfl, hg2, hc2⟩ := hx2
                      have c1 := (kp_cell (hc2 j hltj).1 hg2).at hb
                      have c2 := (kp_cell (hc2 j hltj).2 hg2).at hb
                      have hvn := ((vTune_facts (HALL.out k hlt)).2.1 j hltj).1
                      have hns := nL_succ y (A k) (Q k) j
                      have hnl := nL_len y (A k) (Q k) j
                      have hoL : (ltO N A Q gap k ++ nL y (A k) (Q k) j).length ≤ 2000 := by rw [List.length_append, hnl]; have := HLO.out; omega
                      obtain ⟨aj, haj⟩ : ∃ aj, A k j = aj := ⟨_, rfl⟩
                      obtain ⟨qj, hqj⟩ : ∃ qj, Q k j = qj := ⟨_, rfl⟩
                      rw [haj] at c1 hvn hns
                      rw [hqj] at c2 hns
                      have q2 : IntKind.i16.wrap (aj + y) = y + aj := by rw [i16_idT (by omega)]; omega
                      have HNS := Lib.hid hns; have HOL := Lib.hid hoL
                      clear hns hnl hoL haj hqj hc2 hb
                      go_wp2
                      have hbw := HBJ.out.alloc hszw3 (.cells #[.int .i16 aj, .int .i8 qj] 95)
                      have hrow := heap_alloc_new wr (.cells #[.int .i16 aj, .int .i8 qj] 95)
                      have hgs1 : wr.heap.size < (wr.alloc (.cells #[.int .i16 aj, .int .i8 qj] 95)).heap.size := by simp
                      have hon1 : OwnN (wr.alloc (.cells #[.int .i16 aj, .int .i8 qj] 95)) w5.heap.size u15 (ltO N A Q gap k ++ nL y (A k) (Q k) j) := OwnL.alloc HON.out _
                      have hol : ∀ b, u15.ownBlock = some b → w5.heap.size ≤ b ∧ b < wr.heap.size := OwnL.lt HON.out
                      generalize wr.alloc (.cells #[.int .i16 aj, .int .i8 qj] 95) = V1 at hbw hrow hgs1 hon1 ⊢
                      have hS0 : Below w5.heap.size w5 V1.drew ∧ V1.drew.heap[wr.heap.size]? = some (.cells #[.int .i16 aj, .int .i8 qj] 95 (0, 0)) := ⟨hbw.drew, hrow⟩
                      refine wp_region_S (fun V => Below w5.heap.size w5 V ∧ V.heap[wr.heap.size]? = some (.cells #[.int .i16 aj, .int .i8 qj] 95 (0, 0))) (by kernel_rfl) hS0 ?_
                      refine take_val 0 (u15) rfl (by kernel_rfl) (by kernel_rfl) (by kernel_rfl) (fun _ _ _ h => h) rfl (fun V hV => by simp [go_sem]) hS0 ?_
                      simp only [List.getElem_toArray, List.getElem_cons_zero, List.getElem_cons_succ, Act.put, List.setIfInBounds_toArray, List.set_cons_zero, List.set_cons_succ]
                      refine take_val 1 (.pointer (some ⟨wr.heap.size, 0, none⟩)) rfl (by kernel_rfl) (by kernel_rfl) (by kernel_rfl) (fun _ _ _ h => h) rfl (fun V hV => by simp [go_sem]) hS0 ?_
                      simp only [List.getElem_toArray, List.getElem_cons_zero, List.getElem_cons_succ, Act.put, List.setIfInBounds_toArray, List.set_cons_zero, List.set_cons_succ]
                      refine take_val 2 (.int .i16 aj) rfl (by kernel_rfl) (by kernel_rfl) (by kernel_rfl) (fun _ _ _ h => h) rfl (fun V hV => by have c := row_cell 0 hV.2; simp [go_sem, c]) hS0 ?_
                      simp only [List.getElem_toArray, List.getElem_cons_zero, List.getElem_cons_succ, Act.put, List.setIfInBounds_toArray, List.set_cons_zero, List.set_cons_succ]
                      refine take_val 3 (.slice (some ⟨gs, offs, none⟩) m sc) rfl (by kernel_rfl) (by kernel_rfl) (by kernel_rfl) (fun _ _ _ h => h) rfl (fun V hV => by simp [go_sem]) hS0 ?_
                      simp only [List.getElem_toArray, List.getElem_cons_zero, List.getElem_cons_succ, Act.put, List.setIfInBounds_toArray, List.set_cons_zero, List.set_cons_succ]
                      refine take_val 4 (.int .i64 (k : Nat)) rfl (by kernel_rfl) (by kernel_rfl) (by kernel_rfl) (fun _ _ _ h => h) rfl (fun V hV => by simp [go_sem]) hS0 ?_
                      simp only [List.getElem_toArray, List.getElem_cons_zero, List.getElem_cons_succ, Act.put, List.setIfInBounds_toArray, List.set_cons_zero, List.set_cons_succ]
                      refine take_val 5 (.pointer (some ⟨gs, offs + k * 2, none⟩)) rfl (by kernel_rfl) (by kernel_rfl) (by kernel_rfl) (fun _ _ _ h => h) rfl (fun V hV => by simp [go_sem, hk']) hS0 ?_
                      simp only [List.getElem_toArray, List.getElem_cons_zero, List.getElem_cons_succ, Act.put, List.setIfInBounds_toArray, List.set_cons_zero, List.set_cons_succ]
                      refine take_val 6 (.pointer (some ⟨gs, offs + k * 2, none⟩)) rfl (by kernel_rfl) (by kernel_rfl) (by kernel_rfl) (fun _ _ _ h => h) rfl (fun V hV => by simp [go_sem]) hS0 ?_
                      simp only [List.getElem_toArray, List.getElem_cons_zero, List.getElem_cons_succ, Act.put, List.setIfInBounds_toArray, List.set_cons_zero, List.set_cons_succ]
                      refine take_val 7 (.int .i16 y) rfl (by kernel_rfl) (by kernel_rfl) (by kernel_rfl) (fun _ _ _ h => h) rfl (fun V hV => by have c := KS0.at hV.1; simp [go_sem, c]) hS0 ?_
                      simp only [List.getElem_toArray, List.getElem_cons_zero, List.getElem_cons_succ, Act.put, List.setIfInBounds_toArray, List.set_cons_zero, List.set_cons_succ]
                      refine take_val 8 (.int .i16 (y + aj)) rfl (by kernel_rfl) (by kernel_rfl) (by kernel_rfl) (fun _ _ _ h => h) rfl (fun V hV => by simp [go_sem, q2]) hS0 ?_
                      simp only [List.getElem_toArray, List.getElem_cons_zero, List.getElem_cons_succ, Act.put, List.setIfInBounds_toArray, List.set_cons_zero, List.set_cons_succ]
                      refine take_val 9 (.pointer (some ⟨wr.heap.size, 1, none⟩)) rfl (by kernel_rfl) (by kernel_rfl) (by kernel_rfl) (fun _ _ _ h => h) rfl (fun V hV => by simp [go_sem]) hS0 ?_
                      simp only [List.getElem_toArray, List.getElem_cons_zero, List.getElem_cons_succ, Act.put, List.setIfInBounds_toArray, List.set_cons_zero, List.set_cons_succ]
                      refine take_val 10 (.int .i8 qj) rfl (by kernel_rfl) (by kernel_rfl) (by kernel_rfl) (fun _ _ _ h => h) rfl (fun V hV => by have c := row_cell 1 hV.2; simp [go_sem, c]) hS0 ?_
                      simp only [List.getElem_toArray, List.getElem_cons_zero, List.getElem_cons_succ, Act.put, List.setIfInBounds_toArray, List.set_cons_zero, List.set_cons_succ]
                      refine take_val 11 (.agg #[.int .i16 (y + aj), .int .i8 qj]) rfl (by kernel_rfl) (by kernel_rfl) (by kernel_rfl) (fun _ _ _ h => h) rfl (fun V hV => ex_mk_note _ _ rfl rfl rfl) hS0 ?_
                      simp only [List.getElem_toArray, List.getElem_cons_zero, List.getElem_cons_succ, Act.put, List.setIfInBounds_toArray, List.set_cons_zero, List.set_cons_succ]
                      have hS1 : Below w5.heap.size w5 (V1.drew.alloc (.cells #[.int .i16 (y + aj), .int .i8 qj] 95)) ∧ (V1.drew.alloc (.cells #[.int .i16 (y + aj), .int .i8 qj] 95)).heap[wr.heap.size]? = some (.cells #[.int .i16 aj, .int .i8 qj] 95 (0, 0)) := ⟨hS0.1.alloc hS0.1.size _, (Below.heap_alloc V1.drew _ wr.heap.size (row_lt hS0.2)).trans hS0.2⟩
                      refine step_val 12 _ _ (by kernel_rfl) rfl rfl (ex_build_note _ rfl (y + aj) qj rfl) hS1 ?_
                      simp only [List.getElem_toArray, List.getElem_cons_zero, List.getElem_cons_succ, Act.put, List.setIfInBounds_toArray, List.set_cons_zero, List.set_cons_succ]
                      have hrow2 := heap_alloc_new V1.drew (.cells #[.int .i16 (y + aj), .int .i8 qj] 95)
                      have hond : OwnN (V1.drew.alloc (.cells #[.int .i16 (y + aj), .int .i8 qj] 95)) w5.heap.size u15 (ltO N A Q gap k ++ nL y (A k) (Q k) j) := OwnL.alloc (OwnL.below hon1 (below_drew V1)) _
                      refine step_append_noteg 13 (by kernel_rfl) rfl rfl _ _ rfl w5.heap.size u15 _ rfl hond V1.drew.heap.size (y + aj, qj) rfl hrow2 (by have := HOL.out; omega) hS1.1.size ?_
                      intro v6 w6 ho6 hg6 hb6
                      have hS6 : Below w5.heap.size w5 w6 ∧ w6.heap[wr.heap.size]? = some (.cells #[.int .i16 aj, .int .i8 qj] 95 (0, 0)) := ⟨hS1.1.trans hb6, row_grown hS1.2 hg6 (fun b hb => (hol b hb).2)⟩
                      refine ⟨hS6, ?_⟩
                      simp only [List.getElem_toArray, List.getElem_cons_zero, List.getElem_cons_succ, Act.put, List.setIfInBounds_toArray, List.set_cons_zero, List.set_cons_succ]
                      refine take_val 14 (v6) rfl (by kernel_rfl) (by kernel_rfl) (by kernel_rfl) (fun _ _ _ h => h) rfl (fun V hV => by simp [go_sem]) hS6 ?_
                      simp only [List.getElem_toArray, List.getElem_cons_zero, List.getElem_cons_succ, Act.put, List.setIfInBounds_toArray, List.set_cons_zero, List.set_cons_succ]
                      refine wpAnyH_done (by kernel_rfl) ?_ _
                      have HB6 := Lib.hid hS6.1; have HON6 := Lib.hid ho6
                      clear hS0 hS1 hrow hrow2 hond ho6 hg6 hb6 hS6 hbw hon1
                      go_wp2
                      go_roundw
                      case rel => exact ⟨HB6.out, j + 1, by omega, by go_num, by rw [HNS.out, ← List.append_assoc]; exact HON6.out⟩
                      case measure => simp [intOf]; omega
                    · have hjn : j = N k := by omega
                      have hj' : ¬ (j : Int) < N k := by omega
                      have HFO := Lib.hid (show OwnN wr w5.heap.size u15 (ltO N A Q gap (k + 1)) by rw [HO.out, ← hjn]; exact HON.out)
                      clear hjn hb
                      go_wp2
                      go_roundw
                      case rel => exact ⟨HBJ.out, k + 1, by omega, by go_num, HFO.out⟩
                      case measure => simp [intOf]; omega
                · have hkm : m = k := by omega
                  subst hkm
                  have hk' : ¬ (m : Int) < m := by omega
                  have HBW := Lib.hid (HWB.out.trans (hb.mono HWB.out.size))
                  have HOSE := Lib.hid (OwnS.below HOS5.out (show Below w5.heap.size w5 wr from hb))
                  clear hb
                  obtain ⟨nb, nc, rfl⟩ := OwnL.form HON.out
                  obtain ⟨ln, hln⟩ : ∃ ln, (ltO N A Q gap m).length = ln := ⟨_, rfl⟩
                  have HAP := Lib.hid (apart_SN HOSE.out HON.out)
                  have HONM := Lib.hid (OwnL.mono HON.out HWB.out.size)
                  rw [hln] at HAP HONM ⊢
                  have hff := ltF_iff (s := s) (m := m) (N := N) (A := A) (Q := Q) (gap := gap)
                  rw [hln] at hff
                  by_cases h120 : ln ≤ 120
                  · have hx2 : ¬ (ln : Int) > 120 := by omega
                    have HC := Lib.hid (lt_yes HOK.out HGG.out (hff.2 ⟨HFIT.out, h120⟩))
                    clear hff hln
                    go_wp2
                    go_ret3
                    exact ⟨_, _, by rw [HC.out.2.2]; rfl, HBW.out, by rw [HC.out.1]; exact OwnL.mono HOSE.out HSW.out, by rw [HC.out.2.1]; exact HONM.out, HAP.out⟩
                  · have hx2 : (ln : Int) > 120 := by omega
                    have HC := Lib.hid (lt_three HOK.out HGG.out (by rw [← Bool.not_eq_true, hff]; exact fun h => h120 h.2))
                    clear hff hln
                    go_wp2
                    go_ret3
                    exact ⟨_, _, by rw [HC.out.2.2]; rfl, HBW.out, by rw [HC.out.1]; exact OwnL.none0 _ _, by rw [HC.out.2.1]; exact OwnL.none0 _ _, Apart.nil _⟩
            · rw [pkd_no hfit]
              have HC := Lib.hid (lt_three HOK.out HGG.out (ltF_no fun h => hfit h.1))
              rintro e w5 ⟨v, rfl, hb5, ho5⟩
              have hbe := KB.at hb5
              clear hfit
              go_wp2
              go_ret3
              exact ⟨_, _, by rw [HC.out.2.2]; rfl, hbe, by rw [HC.out.1]; exact OwnL.none0 _ _, by rw [HC.out.2.1]; exact OwnL.none0 _ _, Apart.nil _⟩

/-! LayTunes: how long the results are. No conditions. -/
section
variable {s : Int} {n : Nat} {P R : Nat → Int} {m : Nat} {N : Nat → Nat} {A Q : Nat → Nat → Int} {gap : Int}
theorem ltC_zero (h : ltC s n P R m N A Q gap = 0) : m ≤ 12 ∧ (ltO N A Q gap m).length ≤ 120 := by
  cases h1 : (vFrame s n P R && tAll m N A Q)
  · rw [(lt_one h1).2.2] at h; omega
  · cases h2 : (decide ((m : Int) ≤ 12) && inB gap 0 96)
    · rw [(lt_two h1 h2).2.2] at h; omega
    · cases h3 : ltF s m N A Q gap
      · rw [(lt_three h1 h2 h3).2.2] at h; omega
      · have h4 := of_decide_eq_true (Bool.and_eq_true_iff.1 h2).1
        exact ⟨by omega, (ltF_iff.1 h3).2⟩
theorem ltS_len : (ltS s n P R m N A Q gap).length ≤ 1000000 := by
  by_cases h : ltC s n P R m N A Q gap = 0
  · have := ltC_zero h
    unfold ltS
    rw [if_pos h, pkL_len]; omega
  · rw [(lt_of rfl h).1]; simp
theorem ltN_len : (ltN s n P R m N A Q gap).length ≤ 1000000 := by
  by_cases h : ltC s n P R m N A Q gap = 0
  · have := ltC_zero h
    unfold ltN
    rw [if_pos h]; omega
  · rw [(lt_of rfl h).2.1]; simp
end
end Go.Proofs.Ytpfjmoodfodfhaa
