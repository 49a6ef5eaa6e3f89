/- StepsInDay, by the reference and by the program. No conditions. -/
import Derived.Test.YtlcfjeofphncgaaAp
import Derived.Test.YtlcfjeofphncgaaSt
import Derived.Test.YtlcfjeofphncgaaHeld2
import Derived.Test.YtlcfjeofphncgaaIx
import Derived.Outline
namespace Go.Proofs.Ytlcfjeofphncgaa
open Go.RowKit
set_option linter.unusedVariables false
set_option linter.unusedSimpArgs false

/-- the sections that the first k quarters play -/
def sdL (O : Nat → Int) : Nat → List Int
  | 0 => []
  | k + 1 => if 0 ≤ O k then sdL O k ++ [O k] else sdL O k
theorem sdL_zero (O : Nat → Int) : sdL O 0 = [] := rfl
theorem sdL_yes {O : Nat → Int} {k : Nat} (h : 0 ≤ O k) : sdL O (k + 1) = sdL O k ++ [O k] := if_pos h
theorem sdL_no {O : Nat → Int} {k : Nat} (h : ¬ 0 ≤ O k) : sdL O (k + 1) = sdL O k := if_neg h
theorem sdL_len (O : Nat → Int) (k : Nat) : (sdL O k).length ≤ k := by
  induction k with
  | zero => simp [sdL]
  | succ k ih =>
    by_cases h : 0 ≤ O k
    · rw [sdL_yes h, List.length_append]; simp; omega
    · rw [sdL_no h]; omega
theorem sdL_in {O : Nat → Int} {m : Nat} {k : Nat} (h : ∀ j, j < k → -1 ≤ O j ∧ O j ≤ (m : Int) - 1) : ∀ x ∈ sdL O k, 0 ≤ x ∧ x ≤ (m : Int) - 1 := by
  induction k with
  | zero => intro x hx; simp [sdL] at hx
  | succ k ih =>
    intro x hx
    by_cases h0 : 0 ≤ O k
    · rw [sdL_yes h0, List.mem_append] at hx
      rcases hx with hx | hx
      · exact ih (fun j hj => h j (by omega)) x hx
      · simp at hx; subst hx; exact ⟨h0, (h k (by omega)).2⟩
    · rw [sdL_no h0] at hx; exact ih (fun j hj => h j (by omega)) x hx
attribute [irreducible] sdL
/-- how far the drum turns for the first i sections of a list -/
def plTo (s : Int) (F S Z : Nat → Int) : Nat → Int
  | 0 => 0
  | i + 1 => plTo s F S Z i + stT s (F (Z i).toNat) (plTo s F S Z i % s) + S (Z i).toNat
theorem plTo_zero (s : Int) (F S Z : Nat → Int) : plTo s F S Z 0 = 0 := rfl
theorem plTo_succ (s : Int) (F S Z : Nat → Int) (i : Nat) : plTo s F S Z (i + 1) = plTo s F S Z i + stT s (F (Z i).toNat) (plTo s F S Z i % s) + S (Z i).toNat := rfl
theorem plTo_bound {s : Int} {F S Z : Nat → Int} {m : Nat} (hs : 2 ≤ s ∧ s ≤ 96) (h : ∀ k, k < m → 0 ≤ F k ∧ F k < s ∧ 1 ≤ S k ∧ F k + S k ≤ s) : ∀ i, (∀ j, j < i → 0 ≤ Z j ∧ Z j ≤ (m : Int) - 1) → 0 ≤ plTo s F S Z i ∧ plTo s F S Z i ≤ 192 * i := by
  intro i
  induction i with
  | zero => intro _; rw [plTo_zero]; omega
  | succ i ih =>
    intro hz
    have h1 := ih fun j hj => hz j (by omega)
    have h2 := hz i (by omega)
    have h3 := h (Z i).toNat (by omega)
    have h4 := stT_bound (s := s) (f := F (Z i).toNat) (t := plTo s F S Z i % s) (by omega)
    rw [plTo_succ]
    omega
theorem pl_mod (p f s x : Int) (hs : 0 < s) : (p + stT s f (p % s) + x) % s = (f + x) % s := by
  rw [stT_def]
  have h1 : p % s = p - s * (p / s) := Int.emod_def p s
  have h2 : (f - p % s + s) % s = f - p % s + s - s * ((f - p % s + s) / s) := Int.emod_def _ s
  rw [h2, h1]
  have e : p + (f - (p - s * (p / s)) + s - s * ((f - (p - s * (p / s)) + s) / s)) + x = f + x + s * (p / s + 1 - (f - (p - s * (p / s)) + s) / s) := by
    rw [Int.mul_sub, Int.mul_add, Int.mul_one]; omega
  rw [e, Int.add_mul_emod_self_left]
attribute [irreducible] plTo
def sdCode (s : Int) (n : Nat) (P R : Nat → Int) (m : Nat) (F S O : Nat → Int) : Int := if vProg s n P R m F S O then 0 else 1
def sdVal (s : Int) (n : Nat) (P R : Nat → Int) (m : Nat) (F S O : Nat → Int) : Int := if vProg s n P R m F S O then plTo s F S (fun i => (sdL O 48).getD i 0) (sdL O 48).length else 0
section
variable {s : Int} {n : Nat} {P R : Nat → Int} {m : Nat} {F S O : Nat → Int}
theorem sd_no (h : vProg s n P R m F S O = false) : sdVal s n P R m F S O = 0 ∧ sdCode s n P R m F S O = 1 := by unfold sdVal sdCode; rw [h]; exact ⟨rfl, rfl⟩
theorem sd_yes (h : vProg s n P R m F S O = true) : sdVal s n P R m F S O = plTo s F S (fun i => (sdL O 48).getD i 0) (sdL O 48).length ∧ sdCode s n P R m F S O = 0 := by unfold sdVal sdCode; rw [h]; exact ⟨rfl, rfl⟩
end
attribute [irreducible] sdCode sdVal
set_option maxRecDepth 100000 in
set_option maxHeartbeats 1000000 in
theorem playAll_any (s : Int) (a : Option Addr) (n c : Nat) (b : Option Addr) (m d : Nat) (F S : Nat → Int) (q : Option Addr) (l e0 : Nat) (Z : Nat → Int) (w : World) (hs : 2 ≤ s ∧ s ≤ 96) (hm : m ≤ 12) (hsec : ∀ k, k < m → 0 ≤ F k ∧ F k < s ∧ 1 ≤ S k ∧ F k + S k ≤ s) (hl : SecAt w b m F S) (hl48 : l ≤ 48) (hZ : ∀ i, i < l → 0 ≤ Z i ∧ Z i ≤ (m : Int) - 1) (hz : IntAt w q l Z) :
    Calls Try.prog 57 #[.agg #[.int .i16 s, .slice a n c], .slice b m d, .slice q l e0] w fun e w' => e = .returned (.int .i64 (plTo s F S Z l)) ∧ Below w.heap.size w w' := by
  have HSEC := Lib.hid hsec; have HZZ := Lib.hid hZ
  clear hsec hZ
  have KB := Kp.base w
  have KL := kp_sec hl; have KZ := kp_int hz; clear hl hz
  replace KB := KB.alloc (.cells #[.int .i16 s, .slice a n c] 27)
  replace KL := KL.alloc (.cells #[.int .i16 s, .slice a n c] 27)
  replace KZ := KZ.alloc (.cells #[.int .i16 s, .slice a n c] 27)
  have KF := kp_new1 w #[.int .i16 s, .slice a n c] 27 (g := w.heap.size) (by simp)
  have HZ := Lib.hid (show (w.alloc (.cells #[.int .i16 s, .slice a n c] 27)).heap.size = w.heap.size + 1 by simp)
  go_enter Try.func57, Try.ntmps57
  go_wp2
  generalize (w.alloc (.cells #[.int .i16 s, .slice a n c] 27)) = W at KB KL KZ KF HZ ⊢
  clear HZ
  go_loopw [7, 13] (fun t i w' => Below W.heap.size W w' ∧ ∃ k : Nat, k ≤ l ∧ i = .int .i64 k ∧ t = .int .i64 (plTo s F S Z k)) (fun _ i _ => l - (intOf i).toNat)
  case atStart => exact ⟨Below.refl _ _, 0, by omega, rfl, by rw [plTo_zero]⟩
  case round =>
    obtain ⟨hb, k, hk, rfl, rfl⟩ := hrel
    replace KB := KB.on hb
    replace KF := KF.on hb
    replace KL := KL.on hb
    replace KZ := KZ.on hb
    by_cases hlt : k < l
    · have hx := IntAt.get KZ.here (show 0 < l by omega)
      obtain ⟨gz, oz, rfl, hgz, hcz⟩ := hx
      have cz := hcz k hlt
      clear hcz
      have hzk := HZZ.out k hlt
      have hpb := plTo_bound hs HSEC.out k fun j hj => HZZ.out j (by omega)
      have hps := Lib.hid (plTo_succ s F S Z k)
      obtain ⟨x, hxz⟩ : ∃ x : Nat, Z k = x := ⟨(Z k).toNat, by omega⟩
      rw [hxz] at cz hzk hps
      rw [show ((x : Int)).toNat = x from Int.toNat_natCast x] at hps
      have hxm : x < m := by omega
      have hxm' : (x : Int) < m := by omega
      have hx := SecAt.get KL.here (show 0 < m by omega)
      obtain ⟨g, off, rfl, hg, hc⟩ := hx
      have c0 := (hc x hxm).1
      have c1 := (hc x hxm).2
      clear hc hxz
      have hfx := HSEC.out x hxm
      have d0 := row_cell 0 KF.here
      have d1 := row_cell 1 KF.here
      have hk' : (k : Int) < l := by omega
      obtain ⟨p, hp⟩ : ∃ p, plTo s F S Z k = p := ⟨_, rfl⟩
      rw [hp] at hpb hps ⊢
      clear hp
      have hmp : p.tmod s = p % s := Int.tmod_eq_emod_of_nonneg hpb.1
      have hm1 := Int.emod_nonneg p (show s ≠ 0 by omega)
      have hm2 := Int.emod_lt_of_pos p (show 0 < s by omega)
      obtain ⟨r, hr⟩ : ∃ r, p % s = r := ⟨_, rfl⟩
      rw [hr] at hmp hm1 hm2 hps
      have hst := stT_bound (s := s) (f := F x) (t := r) (by omega)
      obtain ⟨y, hy⟩ : ∃ y, stT s (F x) r = y := ⟨_, rfl⟩
      rw [hy] at hst hps
      have HY := Lib.hid hy; have HR := Lib.hid hr
      clear hy
      have q1 := i64_id (x := s) (by omega)
      have q2 := i64_id (x := S x) (by omega)
      have q3 := i64_id (x := y + S x) (by omega)
      have q4 := i64_id (x := p + (y + S x)) (by omega)
      have hs0 : ¬ s = 0 := by omega
      go_wp2
      have KS := kp_new wr #[.int .i16 (F x), .int .i16 (S x)] 56
      replace KB := KB.alloc (.cells #[.int .i16 (F x), .int .i16 (S x)] 56)
      replace KF := KF.alloc (.cells #[.int .i16 (F x), .int .i16 (S x)] 56)
      have hbV : Below W.heap.size W (wr.alloc (.cells #[.int .i16 (F x), .int .i16 (S x)] 56)) := hb.alloc hb.size _
      obtain ⟨gs, hgs⟩ : ∃ gs, wr.heap.size = gs := ⟨_, rfl⟩
      rw [hgs] at KS ⊢
      clear hgs c0 c1 d0 d1 cz
      generalize wr.alloc (.cells #[.int .i16 (F x), .int .i16 (S x)] 56) = V1 at KS KB KF hbV ⊢
      refine wp_region_below (B := V1.heap.size) (by kernel_rfl) (by kernel_rfl) (Below.refl _ _) ?_
      refine quiet_val rfl (.int .i64 p) (fun V hV => by simp [go_sem]) ?_
      refine quiet_val rfl (.agg #[.int .i16 s, .slice a n c]) (fun V hV => ex_load_iframe _ rfl (w.heap.size) rfl _ s a n c (KF.at hV)) ?_
      refine quiet_val rfl (.agg #[.int .i16 (F x), .int .i16 (S x)]) (fun V hV => by have d0 := row_cell 0 (KS.at hV); have d1 := row_cell 1 (KS.at hV); simp [go_sem, d0, d1]) ?_
      refine quiet_val rfl (.int .i64 p) (fun V hV => by simp [go_sem]) ?_
      refine quiet_val rfl (.pointer (some ⟨w.heap.size, 0, none⟩)) (fun V hV => by simp [go_sem]) ?_
      refine quiet_val rfl (.int .i16 s) (fun V hV => by have d0 := row_cell 0 (KF.at hV); simp [go_sem, d0]) ?_
      refine quiet_val rfl (.int .i64 s) (fun V hV => by simp [go_sem, q1]) ?_
      refine quiet_val rfl (.int .i64 r) (fun V hV => by simp [go_sem, hmp, hs0]) ?_
      refine quiet_call rfl 61 #[.agg #[.int .i16 s, .slice a n c], .agg #[.int .i16 (F x), .int .i16 (S x)], .int .i64 r] (.int .i64 y) (fun V => by simp [go_sem]) (fun V hV => (stepsTo_any s a n c (F x) (S x) r V hs (by omega) (by omega) (by omega)).mono fun e V' ⟨he, hb⟩ => ⟨by rw [he, HY.out], hV.trans (hb.mono hV.size)⟩) ?_
      refine quiet_val rfl (.pointer (some ⟨gs, 1, none⟩)) (fun V hV => by simp [go_sem]) ?_
      refine quiet_val rfl (.int .i16 (S x)) (fun V hV => by have d1 := row_cell 1 (KS.at hV); simp [go_sem, d1]) ?_
      refine quiet_val rfl (.int .i64 (S x)) (fun V hV => by simp [go_sem, q2]) ?_
      refine quiet_val rfl (.int .i64 (y + S x)) (fun V hV => by simp [go_sem, q3]) ?_
      refine quiet_val rfl (.int .i64 (p + (y + S x))) (fun V hV => by simp [go_sem, q4]) ?_
      refine quiet_val rfl (.int .i64 (p + (y + S x))) (fun V hV => by simp [go_sem]) ?_
      refine wpQuiet_nil ?_
      intro V hV
      simp only [Act.put, List.setIfInBounds_toArray, List.set_cons_zero, List.set_cons_succ]
      have HBE := Lib.hid (hbV.trans (hV.mono hbV.size))
      clear hbV hV
      go_wp2
      go_roundw
      case rel => exact ⟨HBE.out, k + 1, by omega, by go_num, by rw [hps]; congr 1; omega⟩
      case measure => simp [intOf]; omega
    · have hkl : k = l := by omega
      subst hkl
      go_wp2
      go_ret
      exact ⟨rfl, KB.here⟩
set_option maxRecDepth 100000 in
theorem l04End_any (gf : Nat) (s : Int) (a : Option Addr) (n c : Nat) (f l : Int) (w : World) (hs : 2 ≤ s ∧ s ≤ 96) (hf : 0 ≤ f ∧ f ≤ 32767) (hl : 0 ≤ l ∧ l ≤ 32767) (hg : w.heap[gf]? = some (.cells #[.int .i16 s, .slice a n c] 27 (0, 0))) :
    Calls Try.prog 103 #[.pointer (some ⟨gf, 0, none⟩), .agg #[.int .i16 f, .int .i16 l]] w fun e w' => e = .returned (.int .i64 ((f + l) % s)) ∧ Below w.heap.size w w' := by
  obtain ⟨r, hr⟩ : ∃ r, (f + l) % s = r := ⟨_, rfl⟩
  have hm : (f + l).tmod s = r := by rw [← hr]; exact Int.tmod_eq_emod_of_nonneg (by omega)
  rw [hr]
  clear hr
  have q1 := i64_id (x := f) (by omega)
  have q2 := i64_id (x := s) (by omega)
  have q3 := i64_id (x := l) (by omega)
  have q4 := i64_id (x := f + l) (by omega)
  have hs0 : ¬ s = 0 := by omega
  have d0 := row_cell 0 hg
  have hl' := row_lt hg
  clear hg
  go_enter Try.func103, Try.ntmps103
  go_wp2
  go_quiet (fail)
  go_wp2
  go_ret
  exact ⟨rfl, below_drewN ((Below.refl _ _).alloc (Nat.le_refl _) _) _⟩
set_option maxRecDepth 100000 in
set_option maxHeartbeats 1000000 in
theorem l04Steps_any (gf gp : Nat) (s : Int) (a : Option Addr) (n c : Nat) (b : Option Addr) (m d : Nat) (F S O : Nat → Int) (q : Option Addr) (l e0 : Nat) (Z : Nat → Int) (w : World) (hs : 2 ≤ s ∧ s ≤ 96) (hm : m ≤ 12) (hsec : ∀ k, k < m → 0 ≤ F k ∧ F k < s ∧ 1 ≤ S k ∧ F k + S k ≤ s) (hf : w.heap[gf]? = some (.cells #[.int .i16 s, .slice a n c] 27 (0, 0))) (hp : w.heap[gp]? = some (.cells (pc b m d O) 51 (0, 0))) (hl : SecAt w b m F S) (hl48 : l ≤ 48) (hZ : ∀ i, i < l → 0 ≤ Z i ∧ Z i ≤ (m : Int) - 1) (hz : IntAt w q l Z) :
    Calls Try.prog 85 #[.pointer (some ⟨gf, 0, none⟩), .pointer (some ⟨gp, 0, none⟩), .slice q l e0] w fun e w' => e = .returned (.int .i64 (plTo s F S Z l)) ∧ Below w.heap.size w w' := by
  have HSEC := Lib.hid hsec; have HZZ := Lib.hid hZ
  clear hsec hZ
  have KF := kp_row hf; have KP := kp_row hp
  have KL := kp_sec hl; have KZ := kp_int hz; clear hl hz hf hp
  go_enter Try.func85, Try.ntmps85
  go_wp2
  go_loopw [7, 8, 9] (fun u t i w' => Below w.heap.size w w' ∧ ∃ k : Nat, k ≤ l ∧ i = .int .i64 k ∧ t = .int .i64 (plTo s F S Z k) ∧ u = .int .i64 (plTo s F S Z k % s)) (fun _ _ i _ => l - (intOf i).toNat)
  case atStart => exact ⟨Below.refl _ _, 0, by omega, rfl, by rw [plTo_zero], by rw [plTo_zero]; simp⟩
  case round =>
    obtain ⟨hb, k, hk, rfl, rfl, rfl⟩ := hrel
    replace KF := KF.on hb
    replace KP := KP.on hb
    replace KL := KL.on hb
    replace KZ := KZ.on hb
    by_cases hlt : k < l
    · have hx := IntAt.get KZ.here (show 0 < l by omega)
      obtain ⟨gz, oz, rfl, hgz, hcz⟩ := hx
      have cz := hcz k hlt
      clear hcz
      have hzk := HZZ.out k hlt
      have hpb := plTo_bound hs HSEC.out k fun j hj => HZZ.out j (by omega)
      have hps := plTo_succ s F S Z k
      obtain ⟨x, hxz⟩ : ∃ x : Nat, Z k = x := ⟨(Z k).toNat, by omega⟩
      rw [hxz] at cz hzk hps
      rw [show ((x : Int)).toNat = x from Int.toNat_natCast x] at hps
      have hxm : x < m := by omega
      have hxm' : (x : Int) < m := by omega
      have hx := SecAt.get KL.here (show 0 < m by omega)
      obtain ⟨g, off, rfl, hg, hc⟩ := hx
      have c0 := (hc x hxm).1
      have c1 := (hc x hxm).2
      clear hc hxz
      have hfx := HSEC.out x hxm
      have p0 := row_cell 0 KP.here
      rw [pc_get0] at p0
      have hk' : (k : Int) < l := by omega
      have hmd := pl_mod (plTo s F S Z k) (F x) s (S x) (by omega)
      obtain ⟨p, hp⟩ : ∃ p, plTo s F S Z k = p := ⟨_, rfl⟩
      rw [hp] at hpb hps hmd ⊢
      clear hp
      have hm1 := Int.emod_nonneg p (show s ≠ 0 by omega)
      have hm2 := Int.emod_lt_of_pos p (show 0 < s by omega)
      obtain ⟨r, hr⟩ : ∃ r, p % s = r := ⟨_, rfl⟩
      rw [hr] at hm1 hm2 hps hmd
      rw [hr]
      have hst := stT_bound (s := s) (f := F x) (t := r) (by omega)
      obtain ⟨y, hy⟩ : ∃ y, stT s (F x) r = y := ⟨_, rfl⟩
      rw [hy] at hst hps hmd
      have HY := Lib.hid hy; have HPS := Lib.hid hps; have HMD := Lib.hid hmd
      clear hy hr hps hmd
      have q2 := i64_id (x := S x) (by omega)
      have q3 := i64_id (x := y + S x) (by omega)
      have q4 := i64_id (x := p + (y + S x)) (by omega)
      have C0 := Lib.hid c0; have C1 := Lib.hid c1; have CZ := Lib.hid cz
      clear c0 c1 cz
      go_wp2
      refine wp_region_S (fun V => Below wr.heap.size wr V) (by kernel_rfl) (Below.refl _ _).drew ?_
      refine take_val 0 (.pointer (some ⟨gp, 0, none⟩)) rfl (by kernel_rfl) (by kernel_rfl) (by kernel_rfl) (fun _ _ _ h => h) rfl (fun V hV => by simp [go_sem]) (Below.refl _ _).drew ?_
      simp only [List.getElem_toArray, List.getElem_cons_zero, List.getElem_cons_succ, Act.put, List.setIfInBounds_toArray, List.set_cons_zero, List.set_cons_succ]
      refine take_val 1 (.pointer (some ⟨gp, 0, none⟩)) rfl (by kernel_rfl) (by kernel_rfl) (by kernel_rfl) (fun _ _ _ h => h) rfl (fun V hV => by simp [go_sem]) (Below.refl _ _).drew ?_
      simp only [List.getElem_toArray, List.getElem_cons_zero, List.getElem_cons_succ, Act.put, List.setIfInBounds_toArray, List.set_cons_zero, List.set_cons_succ]
      refine take_val 2 (.pointer (some ⟨gp, 0, none⟩)) rfl (by kernel_rfl) (by kernel_rfl) (by kernel_rfl) (fun _ _ _ h => h) rfl (fun V hV => by simp [go_sem]) (Below.refl _ _).drew ?_
      simp only [List.getElem_toArray, List.getElem_cons_zero, List.getElem_cons_succ, Act.put, List.setIfInBounds_toArray, List.set_cons_zero, List.set_cons_succ]
      refine take_val 3 (.slice (some ⟨g, off, none⟩) m d) rfl (by kernel_rfl) (by kernel_rfl) (by kernel_rfl) (fun _ _ _ h => h) rfl (fun V hV => by have p0 := row_cell 0 (KP.at hV); rw [pc_get0] at p0; simp [go_sem, p0]) (Below.refl _ _).drew ?_
      simp only [List.getElem_toArray, List.getElem_cons_zero, List.getElem_cons_succ, Act.put, List.setIfInBounds_toArray, List.set_cons_zero, List.set_cons_succ]
      refine take_val 4 (.slice (some ⟨gz, oz, none⟩) l e0) rfl (by kernel_rfl) (by kernel_rfl) (by kernel_rfl) (fun _ _ _ h => h) rfl (fun V hV => by simp [go_sem]) (Below.refl _ _).drew ?_
      simp only [List.getElem_toArray, List.getElem_cons_zero, List.getElem_cons_succ, Act.put, List.setIfInBounds_toArray, List.set_cons_zero, List.set_cons_succ]
      refine take_val 5 (.int .i64 (k : Int)) rfl (by kernel_rfl) (by kernel_rfl) (by kernel_rfl) (fun _ _ _ h => h) rfl (fun V hV => by simp [go_sem]) (Below.refl _ _).drew ?_
      simp only [List.getElem_toArray, List.getElem_cons_zero, List.getElem_cons_succ, Act.put, List.setIfInBounds_toArray, List.set_cons_zero, List.set_cons_succ]
      refine take_val 6 (.pointer (some ⟨gz, oz + k, none⟩)) rfl (by kernel_rfl) (by kernel_rfl) (by kernel_rfl) (fun _ _ _ h => h) rfl (fun V hV => by simp [go_sem, hk', hlt]) (Below.refl _ _).drew ?_
      simp only [List.getElem_toArray, List.getElem_cons_zero, List.getElem_cons_succ, Act.put, List.setIfInBounds_toArray, List.set_cons_zero, List.set_cons_succ]
      refine take_val 7 (.int .i64 (x : Int)) rfl (by kernel_rfl) (by kernel_rfl) (by kernel_rfl) (fun _ _ _ h => h) rfl (fun V hV => by have cz := (hV.cell (p := ⟨gz, oz + k, none⟩) hgz).trans CZ.out; simp [go_sem, cz]) (Below.refl _ _).drew ?_
      simp only [List.getElem_toArray, List.getElem_cons_zero, List.getElem_cons_succ, Act.put, List.setIfInBounds_toArray, List.set_cons_zero, List.set_cons_succ]
      refine take_val 8 (.pointer (some ⟨g, off + x * 2, none⟩)) rfl (by kernel_rfl) (by kernel_rfl) (by kernel_rfl) (fun _ _ _ h => h) rfl (fun V hV => by simp [go_sem, hxm', hxm]) (Below.refl _ _).drew ?_
      simp only [List.getElem_toArray, List.getElem_cons_zero, List.getElem_cons_succ, Act.put, List.setIfInBounds_toArray, List.set_cons_zero, List.set_cons_succ]
      refine take_val 9 (.agg #[.int .i16 (F x), .int .i16 (S x)]) rfl (by kernel_rfl) (by kernel_rfl) (by kernel_rfl) (fun _ _ _ h => h) rfl (fun V hV => by have c0 := (hV.cell (p := ⟨g, off + x * 2, none⟩) hg).trans C0.out; have c1 := (hV.cell (p := ⟨g, off + x * 2 + 1, none⟩) hg).trans C1.out; simp [go_sem, c0, c1]) (Below.refl _ _).drew ?_
      simp only [List.getElem_toArray, List.getElem_cons_zero, List.getElem_cons_succ, Act.put, List.setIfInBounds_toArray, List.set_cons_zero, List.set_cons_succ]
      refine step_val 10 (.pointer (some ⟨wr.heap.size, 0, none⟩)) (wr.drew.alloc (.cells #[.int .i16 0, .int .i16 0] 56)) (by kernel_rfl) rfl rfl (by simp [go_sem]) ((Below.refl _ _).drew.alloc (Nat.le_refl _) _) ?_
      simp only [List.getElem_toArray, List.getElem_cons_zero, List.getElem_cons_succ, Act.put, List.setIfInBounds_toArray, List.set_cons_zero, List.set_cons_succ]
      refine step_skip 11 (wr.drew.alloc (.cells #[.int .i16 (F x), .int .i16 (S x)] 56)) (by kernel_rfl) rfl rfl (by simp [go_sem]) ((Below.refl _ _).drew.alloc (Nat.le_refl _) _) ?_
      simp only [List.getElem_toArray, List.getElem_cons_zero, List.getElem_cons_succ, Act.put, List.setIfInBounds_toArray, List.set_cons_zero, List.set_cons_succ]
      refine wpAnyH_done (by kernel_rfl) ?_ _
      have hd := below_drew wr
      replace KF := KF.on hd
      have KS := kp_new wr.drew #[.int .i16 (F x), .int .i16 (S x)] 56
      replace KF := KF.alloc (.cells #[.int .i16 (F x), .int .i16 (S x)] 56)
      have hbV : Below w.heap.size w (wr.drew.alloc (.cells #[.int .i16 (F x), .int .i16 (S x)] 56)) := hb.drew.alloc hb.size _
      rw [show wr.drew.heap.size = wr.heap.size from rfl] at KS
      obtain ⟨gs, hgs⟩ : ∃ gs, wr.heap.size = gs := ⟨_, rfl⟩
      rw [hgs] at KS ⊢
      clear hgs hd C0 C1 CZ
      generalize wr.drew.alloc (.cells #[.int .i16 (F x), .int .i16 (S x)] 56) = V1 at KS KF hbV ⊢
      go_wp2
      refine wp_region_below (B := V1.heap.size) (by kernel_rfl) (by kernel_rfl) (Below.refl _ _) ?_
      refine quiet_val rfl (.int .i64 p) (fun V hV => by simp [go_sem]) ?_
      refine quiet_val rfl (.pointer (some ⟨gf, 0, none⟩)) (fun V hV => by simp [go_sem]) ?_
      refine quiet_val rfl (.agg #[.int .i16 (F x), .int .i16 (S x)]) (fun V hV => by have d0 := row_cell 0 (KS.at hV); have d1 := row_cell 1 (KS.at hV); simp [go_sem, d0, d1]) ?_
      refine quiet_val rfl (.int .i64 r) (fun V hV => by simp [go_sem]) ?_
      refine quiet_call rfl 102 #[.pointer (some ⟨gf, 0, none⟩), .agg #[.int .i16 (F x), .int .i16 (S x)], .int .i64 r] (.int .i64 y) (fun V => by simp [go_sem]) (fun V hV => (l04To_any gf s a n c (F x) (S x) r V hs (by omega) (by omega) (by omega) (KF.at hV)).mono fun e V' ⟨he, hb⟩ => ⟨by rw [he, HY.out], hV.trans (hb.mono hV.size)⟩) ?_
      refine quiet_val rfl (.pointer (some ⟨gs, 1, none⟩)) (fun V hV => by simp [go_sem]) ?_
      refine quiet_val rfl (.int .i16 (S x)) (fun V hV => by have d1 := row_cell 1 (KS.at hV); simp [go_sem, d1]) ?_
      refine quiet_val rfl (.int .i64 (S x)) (fun V hV => by simp [go_sem, q2]) ?_
      refine quiet_val rfl (.int .i64 (y + S x)) (fun V hV => by simp [go_sem, q3]) ?_
      refine quiet_val rfl (.int .i64 (p + (y + S x))) (fun V hV => by simp [go_sem, q4]) ?_
      refine quiet_val rfl (.int .i64 (p + (y + S x))) (fun V hV => by simp [go_sem]) ?_
      refine wpQuiet_nil ?_
      intro V hV
      simp only [Act.put, List.setIfInBounds_toArray, List.set_cons_zero, List.set_cons_succ]
      have KS2 := KS.on hV; have KF2 := KF.on hV
      have d0 := row_cell 0 KS2.here; have d1 := row_cell 1 KS2.here
      have hbe := hbV.trans (hV.mono hbV.size)
      clear hbV hV
      go_wp2_with (go_at_call 103; refine (l04End_any gf s a n c (F x) (S x) _ hs (by omega) (by omega) KF2.here).mono ?_; rintro e w2 ⟨rfl, hb2⟩)
      go_roundw
      case rel => exact ⟨hbe.trans (hb2.mono hbe.size), k + 1, by omega, by go_num, by rw [HPS.out]; congr 1; omega, by rw [HPS.out, HMD.out]⟩
      case measure => simp [intOf]; omega
    · have hkl : k = l := by omega
      subst hkl
      go_wp2
      go_ret
      exact ⟨rfl, hb⟩
set_option maxRecDepth 100000 in
set_option maxHeartbeats 1000000 in
theorem implStepsInDay_any (s : Int) (a : Option Addr) (n c : Nat) (P R : Nat → Int) (b : Option Addr) (m d : Nat) (F S O : Nat → Int) (w : World) (hs : -32768 ≤ s ∧ s ≤ 32767) (hn : n ≤ 1048576) (hP : I8 P) (hR : I8 R) (hh : HamAt w a n P R) (hm : m ≤ 1048576) (hF : I16 F) (hS : I16 S) (hO : I8 O) (hl : SecAt w b m F S) :
    Calls Try.prog 26 #[.agg #[.int .i16 s, .slice a n c], .agg (pc b m d O)] w fun e w' => e = .returned (.tuple #[.int .i64 (sdVal s n P R m F S O), .int .i64 (sdCode s n P R m F S O)]) ∧ Below w.heap.size w w' := by
  have HP := Lib.hid hP; have HR := Lib.hid hR; have HF := Lib.hid hF; have HS := Lib.hid hS; have HO := Lib.hid hO
  clear hP hR hF hS hO
  have KB := Kp.base w
  have KH := kp_ham hh; have KL := kp_sec hl; clear hh hl
  replace KB := KB.alloc (.cells #[.int .i16 s, .slice a n c] 27)
  replace KH := KH.alloc (.cells #[.int .i16 s, .slice a n c] 27)
  replace KL := KL.alloc (.cells #[.int .i16 s, .slice a n c] 27)
  have KF := kp_new1 w #[.int .i16 s, .slice a n c] 27 (g := w.heap.size) (by simp)
  replace KB := KB.alloc (.cells (pc b m d O) 51)
  replace KH := KH.alloc (.cells (pc b m d O) 51)
  replace KL := KL.alloc (.cells (pc b m d O) 51)
  replace KF := KF.alloc (.cells (pc b m d O) 51)
  have KP := kp_new1 (w.alloc (.cells #[.int .i16 s, .slice a n c] 27)) (pc b m d O) 51 (g := w.heap.size + 1) (by simp)
  have HZ := Lib.hid (show ((w.alloc (.cells #[.int .i16 s, .slice a n c] 27)).alloc (.cells (pc b m d O) 51)).heap.size = w.heap.size + 1 + 1 by simp)
  go_enter Try.func26, Try.ntmps26
  go_wp2_with (first | (with_reducible refine load_iframe rfl _ rfl w.heap.size rfl _ s a n c KF.here ?_) | (with_reducible refine load_iprog rfl _ rfl (w.heap.size + 1) rfl _ b m d O KP.here ?_))
  generalize ((w.alloc (.cells #[.int .i16 s, .slice a n c] 27)).alloc (.cells (pc b m d O) 51)) = W at KB KH KL KF KP HZ ⊢
  clear HZ
  refine (programmeCode_any s a n c P R b m d F S O none 0 0 (fun _ => 0) none 0 0 (fun _ => 0) W hs hn HP.out HR.out KH.here hm HF.out HS.out HO.out KL.here (by omega) (IntAt.nil _ _) (by omega) (IntAt.nil _ _)).mono ?_
  rw [allIn_zero, allIn_zero, Bool.and_self]
  rintro e w1 ⟨rfl, hb1⟩
  replace KB := KB.on hb1
  replace KL := KL.on hb1
  replace KF := KF.on hb1
  replace KP := KP.on hb1
  clear hb1
  cases hv : vProg s n P R m F S O
  · rw [pcode_f]
    have hnv := Lib.hid (sd_no hv)
    clear hv
    go_wp2
    go_ret2
    exact ⟨by rw [hnv.out.1, hnv.out.2]; rfl, KB.here⟩
  · rw [pcode_tt]
    have hnv := Lib.hid (sd_yes hv)
    obtain ⟨hs2, hm2, hsec, hord⟩ := vProg_facts hv
    have HSEC := Lib.hid hsec; have HORD := Lib.hid hord; clear hsec hv hord
    go_wp2_with (with_reducible refine load_ord_mid rfl _ rfl (w.heap.size + 1) rfl _ b m d O (KP.alloc _).here ?_)
    have hown0 : OwnI (w1.alloc (.cells #[] 2)) w1.heap.size (.slice (some ⟨w1.heap.size, 0, none⟩) 0 0) (sdL O 0) := by
      rw [sdL_zero]
      exact ⟨rfl, .inr ⟨w1.heap.size, 0, #[], rfl, Nat.le_refl _, heap_alloc_new w1 _, Nat.le_refl _, by unfold maxLen; omega, rfl, rfl⟩⟩
    have HW0 := Lib.hid hown0; clear hown0
    go_loopw [7, 19] (fun v i w' => Below w1.heap.size w1 w' ∧ ∃ k : Nat, k ≤ 48 ∧ i = .int .i64 k ∧ OwnI w' w1.heap.size v (sdL O k)) (fun _ i _ => 48 - (intOf i).toNat)
    case atStart => exact ⟨(Below.refl _ _).alloc (Nat.le_refl _) _, 0, by omega, rfl, HW0.out⟩
    case round =>
      clear HW0
      obtain ⟨hb, k, hk, rfl, hown⟩ := hrel
      have HOWN := Lib.hid hown; clear hown
      replace KB := KB.on hb
      replace KL := KL.on hb
      replace KF := KF.on hb
      replace KP := KP.on hb
      by_cases hlt : k < 48
      · have hk' : (k : Int) < 48 := by omega
        have ho := HO.out k
        have q1 := i64_id (x := O k) (by omega)
        have hsz := hb.size
        have hix := index_ord O k hlt
        by_cases h0 : 0 ≤ O k
        · have hy := Lib.hid (sdL_yes h0)
          have hlen := sdL_len O k
          go_wp2_with (at_builtin; refine append_int rfl _ _ rfl w1.heap.size _ (sdL O k) rfl (HOWN.out.alloc _) wr.heap.size (O k) rfl (by simp) (by omega) (by simp; omega) ?_; intro v2 w2 hown2 hb2; have HO2 := Lib.hid hown2; have HB2 := Lib.hid hb2; clear hown2 hb2)
          go_roundw
          case rel => exact ⟨(hb.alloc hsz _).trans HB2.out, k + 1, by omega, by go_num, by rw [hy.out]; exact HO2.out⟩
          case measure => simp [intOf]; omega
        · have hy := Lib.hid (sdL_no h0)
          go_wp2
          go_roundw
          case rel => exact ⟨hb, k + 1, by omega, by go_num, by rw [hy.out]; exact HOWN.out⟩
          case measure => simp [intOf]; omega
      · have hk48 : k = 48 := by omega
        subst hk48
        obtain ⟨av, cv, rfl, hia⟩ := OwnI.at HOWN.out
        have hlen := sdL_len O 48
        have hin : ∀ i, i < (sdL O 48).length → 0 ≤ (fun i => (sdL O 48).getD i 0) i ∧ (fun i => (sdL O 48).getD i 0) i ≤ (m : Int) - 1 := fun i hi => by
          have := sdL_in HORD.out ((sdL O 48).getD i 0) (by simp [List.getD, List.getElem?_eq_getElem hi])
          exact this
        have HIA := Lib.hid hia; have HIN := Lib.hid hin; clear hia hin HOWN
        have p0 := row_cell 0 KP.here
        rw [pc_get0] at p0
        obtain ⟨ln, hln⟩ : ∃ ln, (sdL O 48).length = ln := ⟨_, rfl⟩
        obtain ⟨Z, hZ⟩ : ∃ Z : Nat → Int, (fun i => (sdL O 48).getD i 0) = Z := ⟨_, rfl⟩
        rw [hln, hZ] at HIA HIN hnv
        rw [hln] at hlen
        rw [hln]
        clear hln hZ
        go_wp2_with (first | (with_reducible refine load_iframe rfl _ rfl w.heap.size rfl _ s a n c KF.here ?_) | (go_at_call 57; refine (playAll_any s a n c b m d F S av ln cv Z _ hs2 hm2 HSEC.out KL.here hlen HIN.out HIA.out).mono ?_; rintro e w2 ⟨rfl, hb2⟩))
        go_ret2
        exact ⟨by rw [hnv.out.1, hnv.out.2]; rfl, KB.at hb2⟩
end Go.Proofs.Ytlcfjeofphncgaa
