/- ChangesBetween, by the reference and by the program. No conditions. -/
import Derived.Test.YtmmneedmhmppoaaMb
import Derived.Test.YtmmneedmhmppoaaCatP
import Derived.Test.YtmmneedmhmppoaaOwnC
import Derived.Outline
namespace Go.Proofs.Ytmmneedmhmppoaa
open Go.RowKit
set_option linter.unusedVariables false
set_option linter.unusedSimpArgs false

/-! ### lists of places -/
/-- the places of the step k on the first t tracks -/
def rwL (p : Nat → Nat → Bool) (k : Nat) : Nat → List (Int × Int)
  | 0 => []
  | t + 1 => if p k t then rwL p k t ++ [((k : Int), (t : Int))] else rwL p k t
theorem rwL_zero (p : Nat → Nat → Bool) (k : Nat) : rwL p k 0 = [] := rfl
theorem rwL_succ (p : Nat → Nat → Bool) (k t : Nat) : rwL p k (t + 1) = if p k t then rwL p k t ++ [((k : Int), (t : Int))] else rwL p k t := rfl
theorem plL_row (p : Nat → Nat → Bool) (n k : Nat) : ∀ t, t ≤ n → plL p n (k * n + t) = plL p n (k * n) ++ rwL p k t := by
  intro t
  induction t with
  | zero => intro _; rw [rwL_zero, List.append_nil]; rfl
  | succ t ih =>
    intro ht
    rw [← Nat.add_assoc, rwL_succ]
    cases h : p k t
    · rw [plL_no (by omega) h, ih (by omega)]; rfl
    · rw [plL_yes (by omega) h, ih (by omega)]; simp
theorem plL_next (p : Nat → Nat → Bool) (n k : Nat) : plL p n ((k + 1) * n) = plL p n (k * n) ++ rwL p k n := by
  rw [Nat.add_mul, Nat.one_mul, plL_row p n k n (Nat.le_refl _)]
theorem rwL_more {p : Nat → Nat → Bool} {k n : Nat} (h : ∀ t, n ≤ t → p k t = false) : ∀ d, rwL p k (n + d) = rwL p k n := by
  intro d
  induction d with
  | zero => rfl
  | succ d ih => rw [← Nat.add_assoc, rwL_succ, h _ (by omega), ih]; rfl
theorem rwL_none {p : Nat → Nat → Bool} {k : Nat} (h : ∀ t, p k t = false) : ∀ n, rwL p k n = [] := by
  intro n
  induction n with
  | zero => rfl
  | succ n ih => rw [rwL_succ, h, ih]; rfl
/-- tracks and steps without pins say nothing -/
theorem plL_wide {p : Nat → Nat → Bool} {s n N M : Nat} (hn : n ≤ N) (hs : s ≤ M) (h1 : ∀ k t, k < M → n ≤ t → p k t = false) (h2 : ∀ k t, k < M → s ≤ k → p k t = false) : plL p N (M * N) = plL p n (s * n) := by
  have e1 : ∀ k, k ≤ M → plL p N (k * N) = plL p n (k * n) := by
    intro k
    induction k with
    | zero => intro _; rw [Nat.zero_mul, Nat.zero_mul, plL_zero, plL_zero]
    | succ k ih =>
      intro hk
      have e := rwL_more (p := p) (k := k) (n := n) (fun t ht => h1 k t (by omega) ht) (N - n)
      rw [show n + (N - n) = N by omega] at e
      rw [plL_next, plL_next, ih (by omega), e]
  have e2 : ∀ d, s + d ≤ M → plL p n ((s + d) * n) = plL p n (s * n) := by
    intro d
    induction d with
    | zero => intro _; rfl
    | succ d ih => intro hd; rw [← Nat.add_assoc, plL_next, ih (by omega), rwL_none (fun t => h2 _ t (by omega) (by omega)), List.append_nil]
  have e3 := e2 (M - s) (by omega)
  rw [show s + (M - s) = M by omega] at e3
  rw [e1 M (Nat.le_refl _), e3]
theorem rwL_in {p : Nat → Nat → Bool} {k : Nat} : ∀ t, ∀ e ∈ rwL p k t, ∃ i : Nat, i < t ∧ e = ((k : Int), (i : Int)) := by
  intro t
  induction t with
  | zero => intro e he; simp [rwL] at he
  | succ t ih =>
    intro e he
    rw [rwL_succ] at he
    split at he
    · rw [List.mem_append] at he
      rcases he with he | he
      · obtain ⟨i, hi, rfl⟩ := ih e he; exact ⟨i, by omega, rfl⟩
      · simp at he; exact ⟨t, by omega, he⟩
    · obtain ⟨i, hi, rfl⟩ := ih e he; exact ⟨i, by omega, rfl⟩
theorem plL_in {p : Nat → Nat → Bool} {n : Nat} : ∀ s, ∀ e ∈ plL p n (s * n), ∃ k t : Nat, k < s ∧ t < n ∧ e = ((k : Int), (t : Int)) := by
  intro s
  induction s with
  | zero => intro e he; rw [Nat.zero_mul, plL_zero] at he; simp at he
  | succ s ih =>
    intro e he
    rw [plL_next, List.mem_append] at he
    rcases he with he | he
    · obtain ⟨k, t, hk, ht, rfl⟩ := ih e he; exact ⟨k, t, by omega, ht, rfl⟩
    · obtain ⟨i, hi, rfl⟩ := rwL_in n e he; exact ⟨s, i, by omega, hi, rfl⟩
theorem less_wide {s : Int} {n : Nat} {D E : Nat → Nat} (h : vDrum s n D = true) (hs : 2 ≤ s ∧ s ≤ 96) (hn : n ≤ 24) : plL (hasPin (lessD D E)) 24 (96 * 24) = plL (hasPin (lessD D E)) n (s.toNat * n) := by
  obtain ⟨h1, h2⟩ := hasPin_valid h hs
  exact plL_wide hn (by omega) (fun k t hk ht => by rw [hasPin_less, h1 k t hk ht]; rfl) (fun k t hk ht => by rw [hasPin_less, h2 k t hk ht]; rfl)
/-! ### changes -/
def chOf (put : Bool) (l : List (Int × Int)) : List (Int × Int × Bool) := l.map fun x => (x.1, x.2, put)
theorem chOf_nil (put : Bool) : chOf put [] = [] := rfl
theorem chOf_snoc (put : Bool) (l : List (Int × Int)) (x : Int × Int) : chOf put (l ++ [x]) = chOf put l ++ [(x.1, x.2, put)] := by simp [chOf]
theorem chOf_len (put : Bool) (l : List (Int × Int)) : (chOf put l).length = l.length := by simp [chOf]
/-- the changes that out and in ask for, the first i of them -/
def cbL (l m : List (Int × Int)) (i : Nat) : List (Int × Int × Bool) := (chOf false l ++ chOf true m).take i
theorem cbL_zero (l m : List (Int × Int)) : cbL l m 0 = [] := rfl
theorem cbL_full (l m : List (Int × Int)) : cbL l m (l.length + m.length) = chOf false l ++ chOf true m := List.take_of_length_le (by simp [chOf_len])
theorem cbL_succ {l m : List (Int × Int)} {i : Nat} (h : i < l.length + m.length) : cbL l m (i + 1) = cbL l m i ++ [(((l ++ m).getD i (0, 0)).1, ((l ++ m).getD i (0, 0)).2, decide (l.length ≤ i))] := by
  have e : (chOf false l ++ chOf true m)[i]? = some (((l ++ m).getD i (0, 0)).1, ((l ++ m).getD i (0, 0)).2, decide (l.length ≤ i)) := by
    by_cases hi : i < l.length
    · rw [List.getElem?_append_left (by rw [chOf_len]; exact hi)]
      simp [chOf, List.getD, List.getElem?_append_left hi, List.getElem?_eq_getElem hi, hi]
    · have h2 : i - l.length < m.length := by omega
      rw [List.getElem?_append_right (by rw [chOf_len]; omega), chOf_len]
      simp [chOf, List.getD, List.getElem?_append_right (Nat.le_of_not_lt hi), List.getElem?_eq_getElem h2, hi]
      omega
  unfold cbL
  rw [List.take_add_one, e]
  rfl
theorem cbL_len (l m : List (Int × Int)) (i : Nat) : (cbL l m i).length ≤ i := by unfold cbL; exact List.length_take_le _ _
attribute [irreducible] chOf cbL
def cbV (s : Int) (n : Nat) (P R : Nat → Int) (A B : Nat → Nat) : List (Int × Int × Bool) := chOf false (mbV s n P R A B (lessD A B)) ++ chOf true (mbV s n P R A B (lessD B A))
theorem cbV_def (s : Int) (n : Nat) (P R : Nat → Int) (A B : Nat → Nat) : cbV s n P R A B = chOf false (mbV s n P R A B (lessD A B)) ++ chOf true (mbV s n P R A B (lessD B A)) := rfl
theorem mbV_few {s : Int} {n : Nat} {P R : Nat → Int} {A B C : Nat → Nat} : (mbV s n P R A B C).length ≤ 2304 := by
  cases h : ok2 s n P R A B
  · rw [mbV_no h]; simp
  · rw [mbV_yes h]
    have h1 := plL_len (hasPin C) n (s.toNat * n)
    obtain ⟨hS, hN, _⟩ := vFrame_iff.1 (ok2_iff.1 h).1
    have h2 := place_bound (s := s.toNat) (n := n) (by omega) (by omega)
    omega
theorem mbV_in {s : Int} {n : Nat} {P R : Nat → Int} {A B C : Nat → Nat} : ∀ e ∈ mbV s n P R A B C, ∃ k t : Nat, k < 96 ∧ t < 24 ∧ e = ((k : Int), (t : Int)) := by
  cases h : ok2 s n P R A B
  · rw [mbV_no h]; intro e he; simp at he
  · rw [mbV_yes h]
    obtain ⟨hS, hN, _⟩ := vFrame_iff.1 (ok2_iff.1 h).1
    intro e he
    obtain ⟨k, t, hk, ht, rfl⟩ := plL_in _ e he
    exact ⟨k, t, by omega, by omega, rfl⟩
theorem cbV_no {s : Int} {n : Nat} {P R : Nat → Int} {A B : Nat → Nat} (h : ok2 s n P R A B = false) : cbV s n P R A B = [] := by
  rw [cbV_def, mbV_no h, mbV_no h, chOf_nil, chOf_nil]; rfl
theorem cbV_len {s : Int} {n : Nat} {P R : Nat → Int} {A B : Nat → Nat} : (cbV s n P R A B).length ≤ 1000000 := by
  have h1 := mbV_few (s := s) (n := n) (P := P) (R := R) (A := A) (B := B) (C := lessD A B)
  have h2 := mbV_few (s := s) (n := n) (P := P) (R := R) (A := A) (B := B) (C := lessD B A)
  rw [cbV_def, List.length_append, chOf_len, chOf_len]
  omega
attribute [irreducible] cbV
theorem row_bit {x t : Nat} : (((x : Int) / 2 ^ t).tmod 2 == 1) = decide (x / 2 ^ t % 2 = 1) := by
  rw [div_cast, show ((x / 2 ^ t : Nat) : Int).tmod 2 = ((x / 2 ^ t % 2 : Nat) : Int) from (Int.ofNat_tmod _ 2).symm]
  rcases Nat.mod_two_eq_zero_or_one (x / 2 ^ t) with h | h <;> rw [h] <;> rfl
section
variable {ops : Array Oper} {rest : List Oper} {o : Oper} {a : Act} {w : World} {Q : Exit → Act → World → Prop}
/-- another slice of one's own is appended -/
theorem append_ownC (hgd : o.guard = none) (s x : Operand) (ho : o.op = .call { callee := .builtin .append, args := #[s, x], argTypes := #[24, 24] }) (base base2 : Nat) (v u : Value) (l ys : List (Int × Int × Bool)) (hs : a.eval s = v) (hown : OwnC w base v l)
    (hx : a.eval x = u) (hu : OwnC w base2 u ys) (hl : l.length + ys.length ≤ 10000000) (hbase : base ≤ w.heap.size)
    (h : ∀ v' w', OwnC w' base v' (l ++ ys) → Below base w w' → wpList Try.prog ops Q rest (a.put o.dst v') w') : wpList Try.prog ops Q (o :: rest) a w := by
  rcases hu.2 with ⟨rfl, h0⟩ | ⟨g, cap, cur, rfl, hg, hb, hc, hm, hs2, ht⟩
  · have hy : ys = [] := List.eq_nil_of_length_eq_zero h0
    subst hy
    obtain ⟨i0, hi, hz0, hz1, hz2⟩ := info_parts infoChange3
    refine wpList_append_own_none hgd s x 24 ho base 104 i0 3 Try.underlying24 hi v l.length _ hs hown hx ?_
    exact h v w (by rw [List.append_nil]; exact hown) (Below.refl _ _)
  · refine append_changes hgd s x ho base v l hs hown ⟨g, 0, none⟩ ys.length cap ys rfl hx ?_ hl hbase h
    intro j u hj
    have hjl : j < ys.length * 3 := by have := (List.getElem?_eq_some_iff.1 hj).1; rwa [flat_len encC 3 encC_len] at this
    rw [show (⟨g, 0, none⟩ : Addr).add j = ⟨g, j, none⟩ by unfold Addr.add; split <;> simp_all]
    rcases own_at hu with ⟨e, _⟩ | ⟨g', c', e, _, _, hcc⟩
    · cases e
    · injection e with e1 e2 e3
      injection e1 with e1
      injection e1 with e1
      subst e1
      rw [hcc j hjl, hj]
end
set_option maxRecDepth 100000 in
set_option maxHeartbeats 1000000 in
theorem l05Changes_any (ga gb Ta Tb : Nat) (D E : Nat → Nat) (put : Bool) (w : World) (hD : D32 D) (hE : D32 E) (ha : DrumAt w Ta ga D) (hb : DrumAt w Tb gb E) :
    Calls Try.prog 115 #[.pointer (some ⟨ga, 0, none⟩), .pointer (some ⟨gb, 0, none⟩), .bool put] w fun e w' => ∃ v, e = .returned v ∧ Below w.heap.size w w' ∧ OwnC w' w.heap.size v (chOf put (plL (hasPin (lessD E D)) 24 (96 * 24))) := by
  have HD := Lib.hid hD; have HE := Lib.hid hE; clear hD hE
  have KA := kp_drum ha; have KC := kp_drum hb; clear ha hb
  have hn0 : OwnC (w.alloc (.cells #[] 104)) w.heap.size (.slice (some ⟨w.heap.size, 0, none⟩) 0 0) (chOf put (plL (hasPin (lessD E D)) 24 0)) := by rw [plL_zero, chOf_nil]; exact OwnL.nil w w.heap.size (Nat.le_refl _)
  have HN0 := Lib.hid hn0; clear hn0
  go_enter Try.func115, Try.ntmps115
  go_wp2
  go_loopw [7, 8] (fun v i w' => Below w.heap.size w w' ∧ ∃ k : Nat, k ≤ 96 ∧ i = .int .i64 k ∧ OwnC w' w.heap.size v (chOf put (plL (hasPin (lessD E D)) 24 (k * 24)))) (fun _ i _ => 96 - (intOf i).toNat)
  case atStart => exact ⟨(Below.refl _ _).alloc (Nat.le_refl _) _, 0, by omega, rfl, HN0.out⟩
  case round =>
    clear HN0
    obtain ⟨hb, k, hk, rfl, hown⟩ := hrel
    have HOWN := Lib.hid hown; clear hown
    by_cases hlt : k < 96
    · have hk' : (k : Int) < 96 := by omega
      have c0 := (KA.at hb).cell k hlt
      have c1 := (KC.at hb).cell k hlt
      have hbit : bits .andNot .u32 (E k : Int) (D k : Int) = ((lessD E D k : Nat) : Int) := bits_andNot_u32 (HE.out k) (HD.out k)
      have hl32 : lessD E D k < 4294967296 := lessD_32 HE.out k
      go_wp2
      go_quiet (fail)
      go_wp2
      clear hbit c0 c1
      have hbq : Below w.heap.size w (wr.drewN nq) := below_drewN hb _
      have HOQ := Lib.hid (show OwnC (wr.drewN nq) w.heap.size _ _ from OwnL.below HOWN.out (below_drewN (Below.refl _ _) nq))
      generalize wr.drewN nq = V at hbq HOQ ⊢
      clear HOWN hb
      obtain ⟨x, hx⟩ : ∃ x, lessD E D k = x := ⟨_, rfl⟩
      rw [hx] at hl32 ⊢
      have HX := Lib.hid hx; clear hx
      go_loopw [7, 10] (fun v i w' => Below w.heap.size w w' ∧ ∃ t : Nat, t ≤ 24 ∧ i = .int .i64 t ∧ OwnC w' w.heap.size v (chOf put (plL (hasPin (lessD E D)) 24 (k * 24 + t)))) (fun _ i _ => 24 - (intOf i).toNat)
      case atStart => exact ⟨hbq, 0, by omega, rfl, HOQ.out⟩
      case round =>
        clear HOQ hbq
        obtain ⟨hb, t, ht, rfl, hown⟩ := hrel
        have HOWN := Lib.hid hown; clear hown
        by_cases hlt2 : t < 24
        · have ht' : (t : Int) < 24 := by omega
          have hw1 := u64_nat t (by omega)
          have hw2 : min t 32 = t := by omega
          have hbt := row_bit (x := x) (t := t)
          have hpm : hasPin (lessD E D) k t = decide (x / 2 ^ t % 2 = 1) := by rw [hasPin_mod, HX.out]
          have hsz := hb.size
          cases hp : hasPin (lessD E D) k t
          · rw [← hpm, hp] at hbt
            have hy := Lib.hid (plL_no (n := 24) hlt2 hp)
            clear hpm hp
            go_wp2
            go_roundw
            case rel => exact ⟨hb, t + 1, by omega, by go_num, by rw [← Nat.add_assoc, hy.out]; exact HOWN.out⟩
            case measure => simp [intOf]; omega
          · rw [← hpm, hp] at hbt
            have hy := Lib.hid (plL_yes (n := 24) hlt2 hp)
            have hlen := plL_len (hasPin (lessD E D)) 24 (k * 24 + t)
            have HLEN := Lib.hid (show (chOf put (plL (hasPin (lessD E D)) 24 (k * 24 + t))).length ≤ 3000 by rw [chOf_len]; omega)
            clear hpm hp hlen
            have hb1 := hb.alloc hsz (.cells #[.int .i16 (k : Int), .int .i8 (t : Int), .bool put] 104)
            go_wp2_with (at_builtin; refine append_changes rfl _ _ rfl w.heap.size _ (chOf put (plL (hasPin (lessD E D)) 24 (k * 24 + t))) rfl (OwnL.alloc HOWN.out _) ⟨wr.heap.size, 0, none⟩ 1 1 [((k : Int), (t : Int), put)] rfl rfl (one_cells (heap_alloc_new wr _)) (by have := HLEN.out; omega) (by simp; omega) ?_; intro v2 w2 hown2 hb2; have HO2 := Lib.hid hown2; have hb4 := hb1.trans hb2; clear hown2 hb2)
            go_roundw
            case rel => exact ⟨hb4, t + 1, by omega, by go_num, by rw [← Nat.add_assoc, hy.out, chOf_snoc]; exact HO2.out⟩
            case measure => simp [intOf]; omega
        · have ht24 : t = 24 := by omega
          subst ht24
          go_wp2
          go_roundw
          case rel => exact ⟨hb, k + 1, by omega, by go_num, by rw [Nat.add_mul, Nat.one_mul]; exact HOWN.out⟩
          case measure => simp [intOf]; omega
    · have hk96 : k = 96 := by omega
      subst hk96
      go_wp2
      go_ret
      exact ⟨_, rfl, hb, HOWN.out⟩
set_option maxRecDepth 100000 in
set_option maxHeartbeats 1000000 in
theorem specChangesBetween_any (s : Int) (a : Option Addr) (n c : Nat) (P R : Nat → Int) (D E : Nat → Nat) (w : World) (hs : -32768 ≤ s ∧ s ≤ 32767) (hn : n ≤ 1048576) (hP : I8 P) (hR : I8 R) (hh : HamAt w a n P R) (hD : D32 D) (hE : D32 E) :
    Calls Try.prog 50 #[.agg #[.int .i16 s, .slice a n c], .agg (dc D), .agg (dc E)] w fun e w' => ∃ v, e = .returned (.tuple #[v, .int .i64 (unl (ok2 s n P R D E) 1)]) ∧ Below w.heap.size w w' ∧ OwnC w' w.heap.size v (cbV s n P R D E) := by
  have HP := Lib.hid hP; have HR := Lib.hid hR; have HD := Lib.hid hD; have HE := Lib.hid hE; clear hP hR hD hE
  have KB := Kp.base w; have KH := kp_ham hh; clear hh
  replace KB := KB.alloc (.cells #[.int .i16 s, .slice a n c] 43)
  replace KH := KH.alloc (.cells #[.int .i16 s, .slice a n c] 43)
  have KF := kp_new1 w #[.int .i16 s, .slice a n c] 43 (g := w.heap.size) (by simp)
  replace KB := KB.alloc (.cells (dc D) 45)
  replace KH := KH.alloc (.cells (dc D) 45)
  replace KF := KF.alloc (.cells (dc D) 45)
  have KD := kp_newd (w.alloc (.cells #[.int .i16 s, .slice a n c] 43)) (D) 45 (g := w.heap.size + 1) (by simp)
  replace KB := KB.alloc (.cells (dc E) 45)
  replace KH := KH.alloc (.cells (dc E) 45)
  replace KF := KF.alloc (.cells (dc E) 45)
  replace KD := KD.alloc (.cells (dc E) 45)
  have KE := kp_newd ((w.alloc (.cells #[.int .i16 s, .slice a n c] 43)).alloc (.cells (dc D) 45)) (E) 45 (g := w.heap.size + 1 + 1) (by simp)
  have HZ := Lib.hid (show (((w.alloc (.cells #[.int .i16 s, .slice a n c] 43)).alloc (.cells (dc D) 45)).alloc (.cells (dc E) 45)).heap.size = w.heap.size + 1 + 1 + 1 by simp)
  go_enter Try.func50, Try.ntmps50
  go_wp2_with fail
  generalize (((w.alloc (.cells #[.int .i16 s, .slice a n c] 43)).alloc (.cells (dc D) 45)).alloc (.cells (dc E) 45)) = W at KB KH KF KD KE HZ ⊢
  clear HZ
  refine (l05Both_any w.heap.size (w.heap.size + 1) (w.heap.size + 1 + 1) s a n c P R (twoL D E) W (by omega) hs HP.out HR.out (row_lt KF.here) (row_cell 0 KF.here) (row_cell 1 KF.here) KH.here KD.here.lt KE.here.lt KD.here.cells KE.here.cells).mono ?_
  rw [← ok2_def]
  rintro e w1 ⟨rfl, hb1⟩
  replace KB := KB.on hb1
  replace KD := KD.on hb1
  replace KE := KE.on hb1
  clear hb1
  have hbs := KB.here.size
  cases hv : ok2 s n P R D E
  · have HV := Lib.hid hv; have HR1 := Lib.hid (cbV_no hv); clear hv
    rw [unl_false]
    have HN := Lib.hid (show OwnC (w1.alloc (.cells #[] 104)) w.heap.size (.slice (some ⟨w1.heap.size, 0, none⟩) 0 0) [] from OwnL.nil w1 w.heap.size hbs)
    go_wp2
    go_ret2
    exact ⟨_, by rw [HV.out, unl_false]; rfl, (KB.alloc _).here, by rw [HR1.out]; exact HN.out⟩
  · obtain ⟨hvf, hvd, hve⟩ := ok2_iff.1 hv
    obtain ⟨hS, hN, _⟩ := vFrame_iff.1 hvf
    have h1 := less_wide (E := E) hvd hS hN.2
    have h2 := less_wide (E := D) hve hS hN.2
    have HV := Lib.hid hv; have HR1 := Lib.hid (show cbV s n P R D E = _ by rw [cbV_def, mbV_yes hv, mbV_yes hv, ← h1, ← h2]); clear hv h1 h2 hvd hve hvf
    have hf1 := mbV_few (s := s) (n := n) (P := P) (R := R) (A := D) (B := E) (C := lessD D E)
    have hf2 := mbV_few (s := s) (n := n) (P := P) (R := R) (A := D) (B := E) (C := lessD E D)
    rw [unl_true]
    go_wp2_with fail
    refine (l05Changes_any (w.heap.size + 1 + 1) (w.heap.size + 1) _ _ E D false w1 HE.out HD.out KE.here KD.here).mono ?_
    rintro e w2 ⟨v, rfl, hb2, hv1⟩
    have hs2 := hb2.size
    replace KB := KB.on hb2
    replace KD := KD.on hb2
    replace KE := KE.on hb2
    go_wp2_with fail
    refine (l05Changes_any (w.heap.size + 1) (w.heap.size + 1 + 1) _ _ D E true w2 HD.out HE.out KD.here KE.here).mono ?_
    rintro e w3 ⟨u, rfl, hb3, hv2⟩
    have hs3 := hb3.size
    have HV1 := Lib.hid (OwnL.below hv1 hb3); have HV2 := Lib.hid hv2; clear hv1 hv2
    replace KB := KB.on hb3
    obtain ⟨b1, c1, rfl⟩ := OwnL.form HV1.out
    obtain ⟨b2, c2, rfl⟩ := OwnL.form HV2.out
    have hl1 := plL_len (hasPin (lessD D E)) 24 (96 * 24)
    have hl2 := plL_len (hasPin (lessD E D)) 24 (96 * 24)
    have HL := Lib.hid (show (chOf false (plL (hasPin (lessD D E)) 24 (96 * 24))).length + (chOf true (plL (hasPin (lessD E D)) 24 (96 * 24))).length ≤ 5000 by rw [chOf_len, chOf_len]; omega)
    clear hl1 hl2
    obtain ⟨n1, hn1⟩ : ∃ m, (chOf false (plL (hasPin (lessD D E)) 24 (96 * 24))).length = m := ⟨_, rfl⟩
    obtain ⟨n2, hn2⟩ : ∃ m, (chOf true (plL (hasPin (lessD E D)) 24 (96 * 24))).length = m := ⟨_, rfl⟩
    rw [hn1] at HV1 HL
    rw [hn2] at HV2 HL
    rw [hn1, hn2]
    have HN1 := Lib.hid hn1; have HN2 := Lib.hid hn2
    clear hn1 hn2
    go_wp2_with (at_builtin; refine append_ownC rfl _ _ rfl w1.heap.size w2.heap.size _ _ _ _ rfl HV1.out rfl HV2.out (by rw [HN1.out, HN2.out]; have := HL.out; omega) (by omega) ?_; intro v3 w4 hown4 hb4; have HO4 := Lib.hid hown4; have HB4 := Lib.hid hb4; clear hown4 hb4)
    go_ret2
    exact ⟨_, by rw [HV.out, unl_true]; rfl, KB.here.trans (HB4.out.mono hbs), by rw [HR1.out]; exact OwnL.mono HO4.out hbs⟩
set_option maxRecDepth 100000 in
set_option maxHeartbeats 1000000 in
theorem implChangesBetween_any (s : Int) (a : Option Addr) (n c : Nat) (P R : Nat → Int) (D E : Nat → Nat) (w : World) (hs : -32768 ≤ s ∧ s ≤ 32767) (hn : n ≤ 1048576) (hP : I8 P) (hR : I8 R) (hh : HamAt w a n P R) (hD : D32 D) (hE : D32 E) :
    Calls Try.prog 51 #[.agg #[.int .i16 s, .slice a n c], .agg (dc D), .agg (dc E)] w fun e w' => ∃ v, e = .returned (.tuple #[v, .int .i64 (unl (ok2 s n P R D E) 1)]) ∧ Below w.heap.size w w' ∧ OwnC w' w.heap.size v (cbV s n P R D E) := by
  have HP := Lib.hid hP; have HR := Lib.hid hR; have HD := Lib.hid hD; have HE := Lib.hid hE; clear hP hR hD hE
  have KB := Kp.base w; have KH := kp_ham hh; clear hh
  replace KB := KB.alloc (.cells #[.int .i16 s, .slice a n c] 43)
  replace KH := KH.alloc (.cells #[.int .i16 s, .slice a n c] 43)
  have KF := kp_new1 w #[.int .i16 s, .slice a n c] 43 (g := w.heap.size) (by simp)
  replace KB := KB.alloc (.cells (dc D) 45)
  replace KH := KH.alloc (.cells (dc D) 45)
  replace KF := KF.alloc (.cells (dc D) 45)
  have KD := kp_newd (w.alloc (.cells #[.int .i16 s, .slice a n c] 43)) (D) 45 (g := w.heap.size + 1) (by simp)
  replace KB := KB.alloc (.cells (dc E) 45)
  replace KH := KH.alloc (.cells (dc E) 45)
  replace KF := KF.alloc (.cells (dc E) 45)
  replace KD := KD.alloc (.cells (dc E) 45)
  have KE := kp_newd ((w.alloc (.cells #[.int .i16 s, .slice a n c] 43)).alloc (.cells (dc D) 45)) (E) 45 (g := w.heap.size + 1 + 1) (by simp)
  have HZ := Lib.hid (show (((w.alloc (.cells #[.int .i16 s, .slice a n c] 43)).alloc (.cells (dc D) 45)).alloc (.cells (dc E) 45)).heap.size = w.heap.size + 1 + 1 + 1 by simp)
  go_enter Try.func51, Try.ntmps51
  go_wp2_with (first | (with_reducible refine load_iframe rfl _ rfl w.heap.size rfl _ s a n c KF.here ?_) | (with_reducible refine load_drum rfl _ rfl (w.heap.size + 1) rfl _ D KD.here ?_) | (with_reducible refine load_drum rfl _ rfl (w.heap.size + 1 + 1) rfl _ E KE.here ?_))
  generalize (((w.alloc (.cells #[.int .i16 s, .slice a n c] 43)).alloc (.cells (dc D) 45)).alloc (.cells (dc E) 45)) = W at KB KH KF KD KE HZ ⊢
  clear HZ
  refine (implMovesBetween_any s a n c P R D E W hs hn HP.out HR.out KH.here HD.out HE.out).mono ?_
  rintro e w1 ⟨v, u, rfl, hb1, hv1, hv2, _⟩
  have hi1 := mbV_in (s := s) (n := n) (P := P) (R := R) (A := D) (B := E) (C := lessD D E)
  have hi2 := mbV_in (s := s) (n := n) (P := P) (R := R) (A := D) (B := E) (C := lessD E D)
  have hf1 := mbV_few (s := s) (n := n) (P := P) (R := R) (A := D) (B := E) (C := lessD D E)
  have hf2 := mbV_few (s := s) (n := n) (P := P) (R := R) (A := D) (B := E) (C := lessD E D)
  have HCB := Lib.hid (cbV_def s n P R D E)
  have HCN := Lib.hid (fun h => cbV_no (s := s) (n := n) (P := P) (R := R) (A := D) (B := E) h)
  obtain ⟨L1, hL1⟩ : ∃ l, mbV s n P R D E (lessD D E) = l := ⟨_, rfl⟩
  obtain ⟨L2, hL2⟩ : ∃ l, mbV s n P R D E (lessD E D) = l := ⟨_, rfl⟩
  rw [hL1] at hv1 hi1 hf1 HCB
  rw [hL2] at hv2 hi2 hf2 HCB
  clear hL1 hL2
  have HV1 := Lib.hid hv1; have HV2 := Lib.hid hv2; have HI1 := Lib.hid hi1; have HI2 := Lib.hid hi2; clear hv1 hv2 hi1 hi2
  replace KB := KB.on hb1
  clear hb1 KD KE KF KH
  have hbs := KB.here.size
  obtain ⟨b1, c1, rfl⟩ := OwnL.form HV1.out
  obtain ⟨b2, c2, rfl⟩ := OwnL.form HV2.out
  obtain ⟨n1, hn1⟩ : ∃ m, L1.length = m := ⟨_, rfl⟩
  obtain ⟨n2, hn2⟩ : ∃ m, L2.length = m := ⟨_, rfl⟩
  rw [hn1] at HV1 hf1
  rw [hn2] at HV2 hf2
  rw [hn1, hn2]
  have HN1 := Lib.hid hn1; have HN2 := Lib.hid hn2
  clear hn1 hn2
  cases hv : ok2 s n P R D E
  · have HV := Lib.hid hv; clear hv
    rw [unl_false]
    go_wp2
    go_ret2
    exact ⟨_, by rw [HV.out, unl_false]; rfl, KB.here, by rw [HCN.out HV.out]; exact OwnL.none0 _ _⟩
  · have HV := Lib.hid hv; clear hv
    rw [unl_true]
    have hb2 : Below w1.heap.size w1 ((w1.alloc (.cells #[] 104)).alloc (.cells #[.slice b1 n1 c1, .slice b2 n2 c2] 55)) := ((Below.refl _ _).alloc (Nat.le_refl _) _).alloc (by simp) _
    have HG := Lib.hid (show ((w1.alloc (.cells #[] 104)).alloc (.cells #[.slice b1 n1 c1, .slice b2 n2 c2] 55)).heap[w1.heap.size + 1]? = some (.cells #[.slice b1 n1 c1, .slice b2 n2 c2] 55 (0, 0)) by
      have h := heap_alloc_new (w1.alloc (.cells #[] 104)) (.cells #[.slice b1 n1 c1, .slice b2 n2 c2] 55)
      simpa using h)
    have HO0 := Lib.hid (OwnL.alloc (OwnL.nil (T := 104) (sz := 3) (enc := encC) w1 w1.heap.size (Nat.le_refl _)) (.cells #[.slice b1 n1 c1, .slice b2 n2 c2] 55))
    have HV1' := Lib.hid (OwnP.below HV1.out hb2); have HV2' := Lib.hid (OwnP.below HV2.out hb2)
    go_wp2_with fail
    refine (concatP_any (w1.heap.size + 1) _ _ _ _ L1 L2 _ (by rw [HN1.out, HN2.out]; omega) HG.out HV1'.out HV2'.out).mono ?_
    rintro e w2 ⟨r, rfl, hb3, hr⟩
    have hb4 := hb2.trans (hb3.mono hb2.size)
    have HO1 := Lib.hid (OwnL.below HO0.out hb3)
    obtain ⟨br, cr, rfl⟩ := OwnL.form hr
    have HRO := Lib.hid hr
    rw [List.length_append, HN1.out, HN2.out] at HRO ⊢
    clear hr HG HV1' HV2' HO0 HV1 HV2 hb3 hb2
    obtain ⟨N, hN⟩ : ∃ m, n1 + n2 = m := ⟨_, rfl⟩
    rw [hN] at HRO ⊢
    have hNb : N ≤ 5000 := by omega
    have HNN := Lib.hid hN; clear hN
    have hs4 := hb4.size
    go_wp2
    go_loopw [11, 31] (fun v i w' => Below w1.heap.size w1 w' ∧ w2.heap.size ≤ w'.heap.size ∧ KeepT 104 104 w2 w' ∧ ∃ k : Nat, k ≤ N ∧ i = .int .i64 k ∧ OwnC w' w1.heap.size v (cbL L1 L2 k)) (fun _ i _ => N - (intOf i).toNat)
    case atStart => exact ⟨hb4, Nat.le_refl _, KeepT.refl _ _ _, 0, by omega, rfl, by rw [cbL_zero]; exact HO1.out⟩
    case round =>
      clear HO1 hb4
      obtain ⟨hb, hs2, hkp, k, hk, rfl, hown⟩ := hrel
      have HOWN := Lib.hid hown; have HKP := Lib.hid hkp; clear hown hkp
      by_cases hlt : k < N
      · have hk' : (k : Int) < N := by omega
        have hro := own_keep HRO.out HKP.out (by decide) (by decide)
        have hread := OwnP.readAt (show OwnP wr _ (.slice br N cr) (L1 ++ L2) from hro)
        have hx := PairAt.get hread (by rw [List.length_append, HN1.out, HN2.out, HNN.out]; omega)
        obtain ⟨g, off, rfl, hg, hc⟩ := hx
        have hck := hc k (by rw [List.length_append, HN1.out, HN2.out, HNN.out]; exact hlt)
        have hmem : (L1 ++ L2).getD k (0, 0) ∈ L1 ++ L2 := by
          have h : k < (L1 ++ L2).length := by rw [List.length_append, HN1.out, HN2.out, HNN.out]; exact hlt
          simp [List.getD, List.getElem?_eq_getElem h]
        have hin : ∃ x y : Nat, x < 96 ∧ y < 24 ∧ (L1 ++ L2).getD k (0, 0) = ((x : Int), (y : Int)) := by
          rcases List.mem_append.1 hmem with h | h
          · exact HI1.out _ h
          · exact HI2.out _ h
        obtain ⟨x, y, hx96, hy24, hxy⟩ := hin
        simp only [hxy] at hck
        have c0 := hck.1; have c1 := hck.2
        have hsu := cbL_succ (l := L1) (m := L2) (i := k) (by rw [HN1.out, HN2.out, HNN.out]; exact hlt)
        rw [hxy, HN1.out] at hsu
        have hlen := cbL_len L1 L2 k
        have HS := Lib.hid hsu; have HLEN := Lib.hid (show (cbL L1 L2 k).length ≤ 5000 by have := HNN.out; omega)
        clear hread hc hck hmem hxy hsu hlen hro
        have hb1 := (hb.alloc hb.size (.cells #[.int .i64 (x : Int), .int .i64 (y : Int)] 129)).alloc (by have := hb.size; simp; omega) (.cells #[.int .i16 (x : Int), .int .i8 (y : Int), .bool (decide (n1 ≤ k))] 104)
        have HK1 := Lib.hid ((HKP.out.trans (keep_alloc _ _ wr (.cells #[.int .i64 (x : Int), .int .i64 (y : Int)] 129))).trans (keep_alloc _ _ _ (.cells #[.int .i16 (x : Int), .int .i8 (y : Int), .bool (decide (n1 ≤ k))] 104)))
        have hnew := heap_alloc_new (wr.alloc (.cells #[.int .i64 (x : Int), .int .i64 (y : Int)] 129)) (.cells #[.int .i16 (x : Int), .int .i8 (y : Int), .bool (decide (n1 ≤ k))] 104)
        rw [show (wr.alloc (.cells #[.int .i64 (x : Int), .int .i64 (y : Int)] 129)).heap.size = wr.heap.size + 1 by simp] at hnew
        have HNEW := Lib.hid hnew; clear hnew
        have hsb := hb.size
        go_wp2_with (at_builtin; go_loud (refine append_Lg Try.underlying24 infoChange3 rfl (by decide) (by decide) encC_len encC_one rfl _ _ rfl w1.heap.size _ (cbL L1 L2 k) rfl (OwnL.alloc (OwnL.alloc HOWN.out _) _) ⟨wr.heap.size + 1, 0, none⟩ 1 1 [((x : Int), (y : Int), decide (n1 ≤ k))] rfl rfl (one_cells HNEW.out) (by have := HLEN.out; omega) hb1.size ?_; intro v2 w4 hown2 hg2; have HO2 := Lib.hid (show OwnC w4 w1.heap.size v2 _ from hown2); have hlt2 := OwnL.lt (OwnL.alloc (OwnL.alloc HOWN.out (.cells #[.int .i64 (x : Int), .int .i64 (y : Int)] 129)) (.cells #[.int .i16 (x : Int), .int .i8 (y : Int), .bool (decide (n1 ≤ k))] 104)); have hb5 := hb1.trans (below_grown hg2 hb1.size (fun k' hk' => (hlt2 k' hk').1)); have HK2 := Lib.hid (HK1.out.trans (keep_grown (T2 := 104) (OwnL.alloc (OwnL.alloc HOWN.out _) _) hg2)); clear hown2 hg2 hlt2))
        go_roundw
        case rel => exact ⟨hb5, HK2.out.1, HK2.out, k + 1, by omega, by go_num, by rw [HS.out]; exact HO2.out⟩
        case measure => simp [intOf]; omega
      · have hkn : k = N := by omega
        subst hkn
        have hfull : cbL L1 L2 k = chOf false L1 ++ chOf true L2 := by rw [← HNN.out, ← HN1.out, ← HN2.out]; exact cbL_full L1 L2
        have HF := Lib.hid hfull; clear hfull
        go_wp2
        go_ret2
        exact ⟨_, by rw [HV.out, unl_true]; rfl, KB.at hb, by rw [HCB.out, ← HF.out]; exact OwnL.mono HOWN.out hbs⟩
end Go.Proofs.Ytmmneedmhmppoaa
