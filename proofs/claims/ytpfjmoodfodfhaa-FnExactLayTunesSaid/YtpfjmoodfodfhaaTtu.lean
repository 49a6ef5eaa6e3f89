/- Lists of tunes that come in: sizes, copies, equality, marks. No conditions. No conditions. -/
import Derived.Test.YtpfjmoodfodfhaaTu
import Derived.Test.YtpfjmoodfodfhaaNote
import Derived.Test.YtpfjmoodfodfhaaOwn
import Derived.Test.YtpfjmoodfodfhaaOwnG
import Derived.Test.YtpfjmoodfodfhaaOwnN
import Derived.Test.YtpfjmoodfodfhaaMk1
import Derived.Outline
namespace Go.Proofs.Ytpfjmoodfodfhaa
open Go.RowKit
set_option linter.unusedVariables false
set_option linter.unusedSimpArgs false

/-! Lists of tunes that come in: sizes, copies, equality. No conditions. -/
/-- a slice that came in reads as m tunes -/
def TuneSIn (w : World) (b : Option Addr) (m : Nat) (aa : Nat → Option Addr) (N C : Nat → Nat) (A Q : Nat → Nat → Int) : Prop :=
  0 < m → ∃ ad, b = some ad ∧ ad.block < w.heap.size ∧ ∀ i, i < m → w.cell? (ad.add i) = some (.slice (aa i) (N i) (C i)) ∧ NoteIn w (aa i) (N i) (A i) (Q i)
section
variable {w w' : World} {b : Option Addr} {m : Nat} {aa : Nat → Option Addr} {N C : Nat → Nat} {A Q : Nat → Nat → Int}
theorem TuneSIn.get (h : TuneSIn w b m aa N C A Q) (hm : 0 < m) : ∃ ad, b = some ad ∧ ad.block < w.heap.size ∧ ∀ i, i < m → w.cell? (ad.add i) = some (.slice (aa i) (N i) (C i)) ∧ NoteIn w (aa i) (N i) (A i) (Q i) := h hm
theorem TuneSIn.below (h : TuneSIn w b m aa N C A Q) (hb : Below w.heap.size w w') : TuneSIn w' b m aa N C A Q := by
  intro hm
  obtain ⟨ad, rfl, hg, hc⟩ := h hm
  refine ⟨ad, rfl, Nat.lt_of_lt_of_le hg hb.size, fun i hi => ⟨?_, (hc i hi).2.below hb⟩⟩
  rw [hb.cell (p := ad.add i) (by rw [add_block]; exact hg)]
  exact (hc i hi).1
theorem kp_tunesIn (h : TuneSIn w b m aa N C A Q) : Kp w (fun V => TuneSIn V b m aa N C A Q) := Kp.mk fun _ hb => h.below hb
end
/-- the notes of k tunes -/
def sumN (N : Nat → Nat) : Nat → Nat
  | 0 => 0
  | k + 1 => sumN N k + N k
theorem sumN_zero (N : Nat → Nat) : sumN N 0 = 0 := rfl
theorem sumN_succ (N : Nat → Nat) (k : Nat) : sumN N (k + 1) = sumN N k + N k := rfl
theorem sumN_mono (N : Nat → Nat) {m : Nat} : ∀ k, k ≤ m → sumN N k ≤ sumN N m := by
  induction m with
  | zero => intro k hk; rw [show k = 0 by omega]; exact Nat.le_refl _
  | succ m ih =>
    intro k hk
    by_cases e : k = m + 1
    · rw [e]; exact Nat.le_refl _
    · have := ih k (by omega); rw [sumN_succ]; omega
theorem sumN_one (N : Nat → Nat) {m i : Nat} (h : i < m) : N i ≤ sumN N m := by
  have := sumN_mono N (m := m) (i + 1) (by omega)
  rw [sumN_succ] at this; omega
attribute [irreducible] sumN
set_option maxRecDepth 100000 in
theorem szTuneS_kp (b : Option Addr) (m d : Nat) (aa : Nat → Option Addr) (N C : Nat → Nat) (A Q : Nat → Nat → Int) (l : Int) (w : World) (hm : m ≤ 9223372036854775807) (hN : ∀ i, i < m → N i ≤ 9223372036854775807) (hl : 0 ≤ l ∧ l ≤ 1048576) (hh : TuneSIn w b m aa N C A Q) :
    Calls Try.prog 38 #[.slice b m d, .int .i64 l] w fun e w' => ∃ r : Int, e = .returned (.int .i64 r) ∧ (r < 0 ∨ (0 ≤ r ∧ r = l - m - sumN N m)) ∧ Below w.heap.size w w' := by
  have KT := kp_tunesIn hh; clear hh
  have HN := Lib.hid hN; clear hN
  by_cases h : l < m
  · have h1 : l - m < 0 := by omega
    have q1 := i64_id (x := l - m) (by omega)
    go_enter Try.func38, Try.ntmps38
    go_wp2
    go_ret
    exact ⟨_, rfl, .inl (by omega), Below.refl _ _⟩
  · have h1 : ¬ l - m < 0 := by omega
    have q1 := i64_id (x := l - m) (by omega)
    obtain ⟨l0, hl0⟩ : ∃ x, l - (m : Int) = x := ⟨_, rfl⟩
    have hlm : l0 ≤ l ∧ 0 ≤ l0 := by omega
    go_enter Try.func38, Try.ntmps38
    go_wp2
    go_loopw [1, 5] (fun x i w' => Below w.heap.size w w' ∧ ∃ k : Nat, k ≤ m ∧ i = .int .i64 k ∧ ∃ r : Int, x = .int .i64 r ∧ 0 ≤ r ∧ r = l - m - sumN N k) (fun _ i _ => m - (intOf i).toNat)
    case atStart => exact ⟨Below.refl _ _, 0, by omega, rfl, _, rfl, by omega, by rw [sumN_zero]; omega⟩
    case round =>
      obtain ⟨hb, k, hk, rfl, r, rfl, hr0, hr1⟩ := hrel
      have HR1 := Lib.hid hr1; have HSU := Lib.hid (sumN_succ N k)
      have hrl : r ≤ l := by omega
      clear hr1
      replace KT := KT.on hb
      have hszw := hb.size
      have HB := Lib.hid hb; clear hb
      by_cases hlt : k < m
      · have hk' : (k : Int) < m := by omega
        have hx := TuneSIn.get KT.here (show 0 < m by omega)
        obtain ⟨ad, rfl, hg, hc⟩ := hx
        have c0 := (hc k hlt).1
        have hnk := HN.out k hlt
        clear hc
        by_cases hs : r < N k
        · go_wp2_with (go_at_call 9; refine (szTune_kp _ _ _ _ _ hnk (by omega)).mono ?_; rw [szOf_lt hs]; rintro e w2 ⟨rfl, hb2⟩)
          go_ret
          exact ⟨_, rfl, .inl (by omega), HB.out.trans (hb2.mono hszw)⟩
        · have hrn : 0 ≤ r - (N k : Int) := by omega
          have q2 : ¬ r - (N k : Int) < 0 := by omega
          go_wp2_with (go_at_call 9; refine (szTune_kp _ _ _ _ _ hnk (by omega)).mono ?_; rw [szOf_ge (by omega)]; rintro e w2 ⟨rfl, hb2⟩)
          go_roundw
          case rel => exact ⟨HB.out.trans (hb2.mono hszw), k + 1, by omega, by go_num, _, rfl, by omega, by have := HR1.out; have := HSU.out; omega⟩
          case measure => simp [intOf]; omega
      · have hkm : k = m := by omega
        subst hkm
        go_wp2
        go_ret
        exact ⟨_, rfl, .inr ⟨hr0, HR1.out⟩, HB.out⟩
set_option maxRecDepth 100000 in
theorem eqTuneS_kp (b e0 : Option Addr) (m d d2 : Nat) (aa ab : Nat → Option Addr) (N C C2 : Nat → Nat) (A Q : Nat → Nat → Int) (w : World) (hm : m ≤ 1048576) (hN : ∀ i, i < m → N i ≤ 1048576) (ha : TuneSAt w b m aa N C A Q) (hb : TuneSAt w e0 m ab N C2 A Q) :
    Calls Try.prog 43 #[.slice b m d, .slice e0 m d2] w fun e w' => e = .returned (.bool true) ∧ Below w.heap.size w w' := by
  have KA := kp_tunes ha; have KB2 := kp_tunes hb; clear ha hb
  have HN := Lib.hid hN; clear hN
  go_enter Try.func43, Try.ntmps43
  go_wp2
  go_loopw [5] (fun i w' => Below w.heap.size w w' ∧ ∃ k : Nat, k ≤ m ∧ i = .int .i64 k) (fun i _ => m - (intOf i).toNat)
  case atStart => exact ⟨Below.refl _ _, 0, by omega, rfl⟩
  case round =>
    obtain ⟨hb, k, hk, rfl⟩ := hrel
    replace KA := KA.on hb
    replace KB2 := KB2.on hb
    have hszw := hb.size
    have HB := Lib.hid hb; clear hb
    by_cases hlt : k < m
    · have hk' : (k : Int) < m := by omega
      have hx := TuneSAt.get KA.here (show 0 < m by omega)
      obtain ⟨g, off, rfl, hg, hc⟩ := hx
      have hx2 := TuneSAt.get KB2.here (show 0 < m by omega)
      obtain ⟨g2, off2, rfl, hg2, hc2⟩ := hx2
      have KC0 := kp_cell (hc k hlt).1 hg
      have KC1 := kp_cell (hc2 k hlt).1 hg2
      have KN0 := kp_note (hc k hlt).2
      have KN1 := kp_note (hc2 k hlt).2
      have hnk := HN.out k hlt
      clear hc hc2
      go_wp2
      have hS0 := below_drew wr
      refine wp_region_S (fun V => Below wr.heap.size wr V) (by kernel_rfl) hS0 ?_
      refine take_val 0 (.slice (some ⟨g, off, none⟩) m d) rfl (by kernel_rfl) (by kernel_rfl) (by kernel_rfl) (fun _ _ _ h => h) rfl (fun V hV => by simp [go_sem]) hS0 ?_
      simp only [List.getElem_toArray, List.getElem_cons_zero, List.getElem_cons_succ, Act.put, List.setIfInBounds_toArray, List.set_cons_zero, List.set_cons_succ]
      refine take_val 1 (.int .i64 (k : Nat)) rfl (by kernel_rfl) (by kernel_rfl) (by kernel_rfl) (fun _ _ _ h => h) rfl (fun V hV => by simp [go_sem]) hS0 ?_
      simp only [List.getElem_toArray, List.getElem_cons_zero, List.getElem_cons_succ, Act.put, List.setIfInBounds_toArray, List.set_cons_zero, List.set_cons_succ]
      refine take_val 2 (.pointer (some ⟨g, off + k, none⟩)) rfl (by kernel_rfl) (by kernel_rfl) (by kernel_rfl) (fun _ _ _ h => h) rfl (fun V hV => by simp [go_sem, hk']) hS0 ?_
      simp only [List.getElem_toArray, List.getElem_cons_zero, List.getElem_cons_succ, Act.put, List.setIfInBounds_toArray, List.set_cons_zero, List.set_cons_succ]
      refine take_val 3 (.slice (aa k) (N k) (C k)) rfl (by kernel_rfl) (by kernel_rfl) (by kernel_rfl) (fun _ _ _ h => h) rfl (fun V hV => by have c := KC0.at hV; simp [go_sem, c]) hS0 ?_
      simp only [List.getElem_toArray, List.getElem_cons_zero, List.getElem_cons_succ, Act.put, List.setIfInBounds_toArray, List.set_cons_zero, List.set_cons_succ]
      refine take_val 4 (.slice (some ⟨g2, off2, none⟩) m d2) rfl (by kernel_rfl) (by kernel_rfl) (by kernel_rfl) (fun _ _ _ h => h) rfl (fun V hV => by simp [go_sem]) hS0 ?_
      simp only [List.getElem_toArray, List.getElem_cons_zero, List.getElem_cons_succ, Act.put, List.setIfInBounds_toArray, List.set_cons_zero, List.set_cons_succ]
      refine take_val 5 (.int .i64 (k : Nat)) rfl (by kernel_rfl) (by kernel_rfl) (by kernel_rfl) (fun _ _ _ h => h) rfl (fun V hV => by simp [go_sem]) hS0 ?_
      simp only [List.getElem_toArray, List.getElem_cons_zero, List.getElem_cons_succ, Act.put, List.setIfInBounds_toArray, List.set_cons_zero, List.set_cons_succ]
      refine take_val 6 (.pointer (some ⟨g2, off2 + k, none⟩)) rfl (by kernel_rfl) (by kernel_rfl) (by kernel_rfl) (fun _ _ _ h => h) rfl (fun V hV => by simp [go_sem, hk']) hS0 ?_
      simp only [List.getElem_toArray, List.getElem_cons_zero, List.getElem_cons_succ, Act.put, List.setIfInBounds_toArray, List.set_cons_zero, List.set_cons_succ]
      refine take_val 7 (.slice (ab k) (N k) (C2 k)) rfl (by kernel_rfl) (by kernel_rfl) (by kernel_rfl) (fun _ _ _ h => h) rfl (fun V hV => by have c := KC1.at hV; simp [go_sem, c]) hS0 ?_
      simp only [List.getElem_toArray, List.getElem_cons_zero, List.getElem_cons_succ, Act.put, List.setIfInBounds_toArray, List.set_cons_zero, List.set_cons_succ]
      refine step_call 8 14 #[.slice (aa k) (N k) (C k), .slice (ab k) (N k) (C2 k)] (by kernel_rfl) rfl rfl (by simp [go_sem]) ?_
      refine (eqTune_kp (aa k) (ab k) (N k) (C k) (C2 k) (A k) (Q k) _ (by omega) (KN0.at hS0) (KN1.at hS0)).mono ?_
      rintro e w3 ⟨rfl, hb3⟩
      refine ⟨_, rfl, hS0.trans (hb3.mono hS0.size), ?_⟩
      simp only [List.getElem_toArray, List.getElem_cons_zero, List.getElem_cons_succ, Act.put, List.setIfInBounds_toArray, List.set_cons_zero, List.set_cons_succ]
      have hS3 := hS0.trans (hb3.mono hS0.size)
      refine take_val 9 (.bool false) rfl (by kernel_rfl) (by kernel_rfl) (by kernel_rfl) (fun _ _ _ h => h) rfl (fun V hV => by simp [go_sem]) hS3 ?_
      simp only [List.getElem_toArray, List.getElem_cons_zero, List.getElem_cons_succ, Act.put, List.setIfInBounds_toArray, List.set_cons_zero, List.set_cons_succ]
      refine wpAnyH_done (by kernel_rfl) ?_ _
      have hbe := HB.out.trans (hS3.mono hszw)
      go_wp2
      go_roundw
      case rel => exact ⟨hbe, k + 1, by omega, by go_num⟩
      case measure => simp [intOf]; omega
    · have hk' : ¬ (k : Int) < m := by omega
      go_wp2
      go_ret
      exact ⟨rfl, HB.out⟩

/-! Lists of tunes that come in: copies, rows apart. No conditions. -/
/-- a tune as a list -/
def tnL (n : Nat) (A Q : Nat → Int) : List (Int × Int) := (List.range n).map fun x => (A x, Q x)
theorem tnL_len (n : Nat) (A Q : Nat → Int) : (tnL n A Q).length = n := by simp [tnL]
theorem tnL_get {n : Nat} {A Q : Nat → Int} {i : Nat} (h : i < n) : (tnL n A Q)[i]? = some (A i, Q i) := by simp [tnL, h]
attribute [irreducible] tnL
theorem ownN_of {w : World} {base n : Nat} {b : Option Addr} {xs : List Value} {A Q : Nat → Int} (h : w.ownsRow base 95 2 (.slice b n n) n xs) (hn : NoteAt w b n A Q) : OwnN w base (.slice b n n) (tnL n A Q) := by
  have e : xs = (tnL n A Q).flatMap encN := by
    apply List.ext_getElem?
    intro x
    have hlen := flat_len encN 2 encN_len (tnL n A Q)
    rw [tnL_len] at hlen
    by_cases hx : x < n * 2
    · rcases own_at h with ⟨_, h0⟩ | ⟨g, c, e, _, hg, hc⟩
      · omega
      · injection e with e1 e2 e3
        subst e1
        obtain ⟨g2, off, e4, _, hq⟩ := NoteAt.get hn (by omega)
        injection e4 with e4
        injection e4 with e5 e6
        subst e5; subst e6
        have h1 : x / 2 < n := by omega
        have h2 := hq (x / 2) h1
        rw [← hc x hx]
        rcases (by omega : x % 2 = 0 ∨ x % 2 = 1) with h3 | h3
        · have h4 := flat_get encN 2 encN_len (tnL n A Q) (x / 2) _ (tnL_get h1) 0 (by omega)
          have h5 : x / 2 * 2 + 0 = x := by omega
          rw [h5] at h4
          rw [h4]
          have h6 := h2.1
          rw [show 0 + x / 2 * 2 = x by omega] at h6
          rw [h6]; rfl
        · have h4 := flat_get encN 2 encN_len (tnL n A Q) (x / 2) _ (tnL_get h1) 1 (by omega)
          have h5 : x / 2 * 2 + 1 = x := by omega
          rw [h5] at h4
          rw [h4]
          have h6 := h2.2
          rw [show 0 + x / 2 * 2 + 1 = x by omega] at h6
          rw [h6]; rfl
    · rw [List.getElem?_eq_none (by have := h.1; omega), List.getElem?_eq_none (by omega)]
  unfold OwnN OwnL
  rw [tnL_len, ← e]
  exact h
theorem noteAt_of {w : World} {base n c : Nat} {b : Option Addr} {A Q : Nat → Int} (h : OwnN w base (.slice b n c) (tnL n A Q)) : NoteAt w b n A Q := fun hn => by
  unfold OwnN at h
  obtain ⟨g, rfl, _, hg, hc⟩ := OwnL.cells encN_len h (by rw [tnL_len]; exact hn)
  refine ⟨g, 0, rfl, hg, fun i hi => ?_⟩
  have h0 := hc i _ (tnL_get hi) 0 (by omega)
  have h1 := hc i _ (tnL_get hi) 1 (by omega)
  rw [Nat.zero_add]
  exact ⟨by rw [← Nat.add_zero (i * 2), h0]; rfl, by rw [h1]; rfl⟩
/-- v owns k tunes, each in a block of its own -/
def TX (w : World) (base : Nat) (v : Value) (k : Nat) (N : Nat → Nat) (A Q : Nat → Nat → Int) : Prop :=
  ∃ us : List Value, us.length = k ∧ w.ownsRow base 31 1 v k us ∧ (∀ (i : Nat) u, us[i]? = some u → ∃ b, u = .slice b (N i) (N i) ∧ OwnN w base u (tnL (N i) (A i) (Q i))) ∧
    ∀ (i j : Nat) u u' b, us[i]? = some u → us[j]? = some u' → u.ownBlock = some b → u'.ownBlock = some b → i = j
section
variable {w w' : World} {base : Nat} {v : Value} {k : Nat} {N : Nat → Nat} {A Q : Nat → Nat → Int}
theorem TX.below (h : TX w base v k N A Q) (hb : Below w.heap.size w w') : TX w' base v k N A Q := by
  obtain ⟨us, h1, h2, h3, h4⟩ := h
  exact ⟨us, h1, own_below h2 hb, fun i u hu => by obtain ⟨b, e, ho⟩ := h3 i u hu; exact ⟨b, e, OwnL.below ho hb⟩, h4⟩
theorem TX.at {b : Option Addr} {c : Nat} (h : TX w base (.slice b k c) k N A Q) : ∃ aa, TuneSAt w b k aa N N A Q := by
  obtain ⟨us, h1, h2, h3, _⟩ := h
  have ch : ∀ i, ∃ a : Option Addr, i < k → us[i]? = some (.slice a (N i) (N i)) ∧ NoteAt w a (N i) (A i) (Q i) := fun i => by
    by_cases hi : i < k
    · have hi' : i < us.length := by omega
      obtain ⟨a, e, ho⟩ := h3 i _ (List.getElem?_eq_getElem hi')
      rw [e] at ho
      exact ⟨a, fun _ => ⟨by rw [List.getElem?_eq_getElem hi', e], noteAt_of ho⟩⟩
    · exact ⟨none, fun h => absurd h hi⟩
  refine ⟨fun i => (ch i).choose, fun hk => ?_⟩
  rcases own_at h2 with ⟨_, h0⟩ | ⟨g, cap, e, _, hg, hc⟩
  · omega
  · injection e with e1 e2 e3
    refine ⟨g, 0, e1, hg, fun i hi => ?_⟩
    have := (ch i).choose_spec hi
    refine ⟨?_, this.2⟩
    rw [Nat.zero_add, hc i (by omega)]
    exact this.1
end
theorem infoTune : (Try.prog.info? 31).map (fun i => (i.zero, i.size, i.bytes)) = some (some (.slice none 0 0), 1, 24) := by kernel_rfl
set_option maxRecDepth 100000 in
set_option maxHeartbeats 2000000 in
theorem toTuneS_own (b : Option Addr) (m d : Nat) (aa : Nat → Option Addr) (N C : Nat → Nat) (A Q : Nat → Nat → Int) (w : World) (hm : m ≤ 1048576) (hN : ∀ i, i < m → N i ≤ 1048576) (hh : TuneSIn w b m aa N C A Q) :
    Calls Try.prog 40 #[.slice b m d] w fun e w' => ∃ b', e = .returned (.slice b' m m) ∧ Below w.heap.size w w' ∧ TX w' w.heap.size (.slice b' m m) m N A Q := by
  obtain ⟨i0, hi, hz0, hz1, hz2⟩ := info_parts infoTune
  obtain ⟨f0, hmk⟩ := run_make_n w 80 31 i0 _ Try.underlying80 hi hz0 1 24 m hz1 hz2 (by omega) (by omega)
  clear hi hz0 hz1 hz2
  rw [Nat.mul_one] at hmk
  have KT := kp_tunesIn hh; clear hh
  have HN := Lib.hid hN; clear hN
  have hb0 : Below w.heap.size w (w.alloc (.cells (cf m f0) 31)) := (Below.refl _ _).alloc (Nat.le_refl _) _
  have hk0 := BlkAt.new w 31 m f0
  have HB0 := Lib.hid hb0; have HK0 := Lib.hid hk0; clear hb0 hk0
  go_enter Try.func40, Try.ntmps40
  go_wp2
  go_loopw [4] (fun i w' => Below w.heap.size w w' ∧ ∃ k : Nat, k ≤ m ∧ i = .int .i64 k ∧ ∃ f, BlkAt w' 31 w.heap.size m f ∧ (∀ i, i < k → ∃ b, f i = .slice b (N i) (N i) ∧ OwnN w' w.heap.size (f i) (tnL (N i) (A i) (Q i))) ∧ ∀ i j x, i < k → j < k → (f i).ownBlock = some x → (f j).ownBlock = some x → i = j) (fun i _ => m - (intOf i).toNat)
  case atStart => exact ⟨HB0.out, 0, by omega, rfl, f0, HK0.out, fun i hi => absurd hi (by omega), fun i j x hi => absurd hi (by omega)⟩
  case round =>
    clear HB0 HK0 hmk
    obtain ⟨hb, k, hk, rfl, f, hB, hF, hD⟩ := hrel
    have HB := Lib.hid hB; have HF := Lib.hid hF; have HD := Lib.hid hD; clear hB hF hD
    replace KT := KT.on hb
    have hszw := hb.size
    have HBW := Lib.hid hb; clear hb
    by_cases hlt : k < m
    · have hk' : (k : Int) < m := by omega
      have hx := TuneSIn.get KT.here (show 0 < m by omega)
      obtain ⟨ad, rfl, hg, hc⟩ := hx
      have c0 := (hc k hlt).1
      have HNI := Lib.hid (hc k hlt).2
      clear hc
      have hnk := HN.out k hlt
      have hlb := HB.out.lt
      go_wp2_with (go_at_call 11; refine (toTune_own (aa k) (N k) (C k) (A k) (Q k) _ hnk HNI.out).mono ?_; rintro e w1 ⟨b1, rfl, hb1, hk1, xs1, hk2⟩; have HO1 := Lib.hid (ownN_of hk2.here hk1.here); have HBB1 := Lib.hid hb1; have HB1 := Lib.hid (HB.out.below hb1 hlb); have d0 := HB1.out.cell k (by omega); have e0 := HB1.out.frozen k; clear hb1 hk1 hk2)
      have hold : ∀ i, i < k → OwnN (w1.setCell ⟨w.heap.size, k, none⟩ (.slice b1 (N k) (N k))) w.heap.size (f i) (tnL (N i) (A i) (Q i)) := fun i hi => by
        obtain ⟨_, _, ho⟩ := HF.out i hi
        have ho1 : OwnN w1 w.heap.size (f i) (tnL (N i) (A i) (Q i)) := OwnL.below ho HBB1.out
        unfold OwnN OwnL at ho1 ⊢
        exact own_set ho1 HB1.out (by decide) _
      have hnew : OwnN (w1.setCell ⟨w.heap.size, k, none⟩ (.slice b1 (N k) (N k))) w.heap.size (.slice b1 (N k) (N k)) (tnL (N k) (A k) (Q k)) := by
        have ho1 : OwnN w1 w.heap.size (.slice b1 (N k) (N k)) (tnL (N k) (A k) (Q k)) := OwnL.mono HO1.out hszw
        unfold OwnN OwnL at ho1 ⊢
        exact own_set ho1 HB1.out (by decide) _
      have HOLD := Lib.hid hold; have HNEW := Lib.hid hnew; clear hold hnew
      have hlow : ∀ i x, i < k → (f i).ownBlock = some x → x < wr.heap.size := fun i x hi hx => by
        obtain ⟨_, _, ho⟩ := HF.out i hi
        exact (OwnL.lt ho x hx).2
      have hhigh : ∀ x, (Value.slice b1 (N k) (N k)).ownBlock = some x → wr.heap.size ≤ x := fun x hx => (OwnL.lt HO1.out x hx).1
      have HLOW := Lib.hid hlow; have HHIGH := Lib.hid hhigh; clear hlow hhigh
      go_roundw
      case rel =>
        refine ⟨(HBW.out.trans (HBB1.out.mono hszw)).setCell (Nat.le_refl _) _, k + 1, by omega, by go_num, _, HB1.out.setCell k _ (by omega), fun i hi => ?_, fun i j x hi hj h1 h2 => ?_⟩
        · by_cases e : i = k
          · subst e; rw [updV_same]; exact ⟨b1, rfl, HNEW.out⟩
          · rw [updV_other _ _ _ e]
            obtain ⟨b2, e2, _⟩ := HF.out i (by omega)
            exact ⟨b2, e2, HOLD.out i (by omega)⟩
        · by_cases e : i = k
          · by_cases e2 : j = k
            · omega
            · subst e
              rw [updV_same] at h1
              rw [updV_other _ _ _ e2] at h2
              have h3 := HLOW.out j x (by omega) h2
              have h4 := HHIGH.out x h1
              omega
          · by_cases e2 : j = k
            · subst e2
              rw [updV_same] at h2
              rw [updV_other _ _ _ e] at h1
              have h3 := HLOW.out i x (by omega) h1
              have h4 := HHIGH.out x h2
              omega
            · rw [updV_other _ _ _ e] at h1
              rw [updV_other _ _ _ e2] at h2
              exact HD.out i j x (by omega) (by omega) h1 h2
      case measure => simp [intOf]; omega
    · have hkm : k = m := by omega
      subst hkm
      have hown := own_blk (size := 1) (n := k) HB.out (by omega) (Nat.le_refl _) (by unfold maxLen; omega)
      have hxs : (cf k f).toList = mks f k := by
        apply List.ext_getElem?
        intro i
        rw [Array.getElem?_toList]
        by_cases hi : i < k
        · rw [cf_get _ _ _ (by omega), mks_get _ _ _ hi]
        · rw [Array.getElem?_eq_none (by rw [cf_size]; omega), List.getElem?_eq_none (by rw [mks_len]; omega)]
      rw [hxs] at hown
      have HOWN := Lib.hid hown; clear hown hxs
      go_wp2
      go_ret
      refine ⟨_, rfl, HBW.out, mks f k, mks_len _ _, HOWN.out, fun i u hu => ?_, fun i j u u' x hi hj h1 h2 => ?_⟩
      · have hik : i < k := by have := (List.getElem?_eq_some_iff.1 hu).1; rwa [mks_len] at this
        rw [mks_get _ _ _ hik] at hu
        have := Option.some.inj hu
        subst this
        obtain ⟨b2, e2, ho⟩ := HF.out i hik
        exact ⟨b2, e2, ho⟩
      · have hik : i < k := by have := (List.getElem?_eq_some_iff.1 hi).1; rwa [mks_len] at this
        have hjk : j < k := by have := (List.getElem?_eq_some_iff.1 hj).1; rwa [mks_len] at this
        rw [mks_get _ _ _ hik] at hi
        rw [mks_get _ _ _ hjk] at hj
        have e1 := Option.some.inj hi
        have e2 := Option.some.inj hj
        subst e1; subst e2
        exact HD.out i j x hik hjk h1 h2
theorem toTuneS_kp (b : Option Addr) (m d : Nat) (aa : Nat → Option Addr) (N C : Nat → Nat) (A Q : Nat → Nat → Int) (w : World) (hm : m ≤ 1048576) (hN : ∀ i, i < m → N i ≤ 1048576) (hh : TuneSIn w b m aa N C A Q) :
    Calls Try.prog 40 #[.slice b m d] w fun e w' => ∃ b' aa', e = .returned (.slice b' m m) ∧ Below w.heap.size w w' ∧ Kp w' (fun V => TuneSAt V b' m aa' N N A Q) :=
  (toTuneS_own b m d aa N C A Q w hm hN hh).mono fun _ _ ⟨b', he, hb, hk⟩ => by
    obtain ⟨aa', ht⟩ := hk.at
    exact ⟨b', aa', he, hb, kp_tunes ht⟩

/-! Lists of tunes: marks on all of them. No conditions. -/
/-- all blocks but those from lo up to hi are as they were -/
def Mid (lo hi : Nat) (w w' : World) : Prop := w'.os = w.os ∧ w'.tape = w.tape ∧ w'.output = w.output ∧ w.heap.size ≤ w'.heap.size ∧ ∀ x, x < w.heap.size → (x < lo ∨ hi ≤ x) → w'.heap[x]? = w.heap[x]?
section
variable {lo hi : Nat} {w w' w2 : World}
theorem Mid.refl (lo hi : Nat) (w : World) : Mid lo hi w w := ⟨rfl, rfl, rfl, Nat.le_refl _, fun _ _ _ => rfl⟩
theorem Mid.grown (h : Mid lo hi w w') {row : Option Nat} (hg : w'.grownBy w2 row) (hr : ∀ b, row = some b → lo ≤ b ∧ b < hi) : Mid lo hi w w2 :=
  ⟨hg.os.trans h.1, hg.tape.trans h.2.1, hg.output.trans h.2.2.1, Nat.le_trans h.2.2.2.1 hg.size, fun x hx hc => (hg.block x (Nat.lt_of_lt_of_le hx h.2.2.2.1) (fun e => by have := hr x e.symm; omega)).trans (h.2.2.2.2 x hx hc)⟩
theorem Mid.below (h : Mid lo hi w w') {B : Nat} (hB : B ≤ lo) (hw : B ≤ w.heap.size) : Below B w w' := ⟨h.1, h.2.1, h.2.2.1, h.2.2.2.1, fun x hx => h.2.2.2.2 x (by omega) (.inl (by omega))⟩
theorem KpB.mid {B : Nat} {P : World → Prop} (h : KpB B w P) (hm : Mid lo hi w w') (hB : B ≤ lo) : KpB B w' P := by
  unfold KpB at *
  exact ⟨Nat.le_trans h.1 hm.2.2.2.1, fun w'' h2 => h.2 w'' ((hm.below hB h.1).trans h2)⟩
theorem own_mid {base n sz : Nat} {e : TypeId} {v : Value} {xs : List Value} (h : w.ownsRow base e sz v n xs) (hm : Mid lo hi w w') (hb : hi ≤ base) : w'.ownsRow base e sz v n xs := by
  refine ⟨h.1, ?_⟩
  rcases h.2 with h0 | ⟨g, cap, cur, rfl, hg, hr, h2⟩
  · exact .inl h0
  · exact .inr ⟨g, cap, cur, rfl, hg, (hm.2.2.2.2 g (Array.getElem?_eq_some_iff.1 hr).1 (.inr (by omega))).trans hr, h2⟩
end
/-- v owns k tunes, each in a block of its own, all below top -/
def TXT (w : World) (base top : Nat) (v : Value) (k : Nat) (N : Nat → Nat) : Prop :=
  ∃ us : List Value, us.length = k ∧ w.ownsRow base 31 1 v k us ∧ (∀ (i : Nat) u, us[i]? = some u → ∃ xs, w.ownsRow base 95 2 u (N i) xs) ∧
    (∀ (i : Nat) u b, us[i]? = some u → u.ownBlock = some b → b < top) ∧ ∀ (i j : Nat) u u' b, us[i]? = some u → us[j]? = some u' → u.ownBlock = some b → u'.ownBlock = some b → i = j
section
variable {w w' : World} {base top : Nat} {v : Value} {k : Nat} {N : Nat → Nat} {A Q : Nat → Nat → Int}
theorem TX.marks (h : TX w base v k N A Q) : TXT w base w.heap.size v k N := by
  obtain ⟨us, h1, h2, h3, h4⟩ := h
  refine ⟨us, h1, h2, fun i u hu => ?_, fun i u b hu hb => ?_, h4⟩
  · obtain ⟨b, _, ho⟩ := h3 i u hu
    unfold OwnN OwnL at ho
    rw [tnL_len] at ho
    exact ⟨_, ho⟩
  · obtain ⟨_, _, ho⟩ := h3 i u hu
    exact (OwnL.lt ho b hb).2
theorem TXT.below (h : TXT w base top v k N) (hb : Below w.heap.size w w') : TXT w' base top v k N := by
  obtain ⟨us, h1, h2, h3, h4, h5⟩ := h
  exact ⟨us, h1, own_below h2 hb, fun i u hu => by obtain ⟨xs, ho⟩ := h3 i u hu; exact ⟨xs, own_below ho hb⟩, h4, h5⟩
theorem kp_TXT (h : TXT w base top v k N) : Kp w (fun V => TXT V base top v k N) := Kp.mk fun _ hb => h.below hb
theorem TXT.grown {row : Option Nat} (h : TXT w base top v k N) (hg : w.grownBy w' row) (hr : ∀ b, row = some b → b < base) : TXT w' base top v k N := by
  obtain ⟨us, h1, h2, h3, h4, h5⟩ := h
  exact ⟨us, h1, own_grown h2 hg hr, fun i u hu => by obtain ⟨xs, ho⟩ := h3 i u hu; exact ⟨xs, own_grown ho hg hr⟩, h4, h5⟩
end
set_option maxRecDepth 100000 in
set_option maxHeartbeats 2000000 in
theorem markTuneS_own (base top : Nat) (b : Option Addr) (m c : Nat) (N : Nat → Nat) (j : Nat) (w : World) (hm : m ≤ 1048576) (hs : sumN N m ≤ 1048576) (hj : j ≤ 900000000) (hh : TXT w base top (.slice b m c) m N) :
    Calls Try.prog 44 #[.slice b m c, .int .i64 (j : Int)] w fun e w' => e = .returned (.int .i64 ((j + 2 * sumN N m : Nat) : Int)) ∧ Mid base top w w' := by
  obtain ⟨us, hlen, hhdr, hrows, htop, hdis⟩ := hh
  have HT := Lib.hid htop; have HDI := Lib.hid hdis; have HHD := Lib.hid hhdr; have HRO := Lib.hid hrows; have HLEN := Lib.hid hlen
  clear htop hdis hhdr hrows hlen
  go_enter Try.func44, Try.ntmps44
  go_wp2
  go_loopw [1, 5] (fun t i w' => Mid base top w w' ∧ ∃ k : Nat, k ≤ m ∧ i = .int .i64 k ∧ t = .int .i64 ((j + 2 * sumN N k : Nat) : Int) ∧ w'.ownsRow base 31 1 (.slice b m c) m us ∧ ∀ (i : Nat) u, us[i]? = some u → ∃ xs, w'.ownsRow base 95 2 u (N i) xs) (fun _ i _ => m - (intOf i).toNat)
  case atStart => exact ⟨Mid.refl _ _ _, 0, by omega, rfl, by rw [sumN_zero]; rfl, HHD.out, HRO.out⟩
  case round =>
    clear HHD HRO
    obtain ⟨hM, k, hk, rfl, rfl, hhdr, hrows⟩ := hrel
    have HM := Lib.hid hM; have HHD := Lib.hid hhdr; have HRO := Lib.hid hrows; clear hM hhdr hrows
    have hsk := sumN_mono N (m := m) k hk
    obtain ⟨q, hq⟩ : ∃ q, j + 2 * sumN N k = q := ⟨_, rfl⟩
    have hqb : q ≤ 999999999 := by omega
    by_cases hlt : k < m
    · have hk' : (k : Int) < m := by omega
      have hnk := sumN_one N hlt
      have hul : k < us.length := by rw [HLEN.out]; exact hlt
      obtain ⟨u, hu⟩ : ∃ u, us[k]? = some u := ⟨_, List.getElem?_eq_getElem hul⟩
      have HU := Lib.hid hu
      obtain ⟨xs, hxs⟩ := HRO.out k u hu
      have HXS := Lib.hid hxs
      have hnext : j + 2 * sumN N (k + 1) = q + N k * 2 := by rw [sumN_succ]; omega
      have HNE := Lib.hid hnext; have HQ := Lib.hid hq
      rw [hq]
      clear hxs hnext hq hsk
      rcases own_at HHD.out with ⟨_, h0⟩ | ⟨g, cap, e, hgb, hgl, hgc⟩
      · omega
      · injection e with e1 e2 e3
        subst e1
        clear e2 e3
        have c0 := hgc k (by omega)
        rw [HU.out] at c0
        clear hgc hu
        go_wp2_with (go_at_call 15; refine (markTune_own base u (N k) xs q _ (by omega) (by omega) HXS.out).mono ?_; rintro e w1 ⟨rfl, hg1, ho1⟩; have HG1 := Lib.hid hg1; have HO1 := Lib.hid ho1; clear hg1 ho1)
        have hm1 := HM.out.grown HG1.out (fun b hb => ⟨(World.ownsRow.lt HXS.out b hb).1, HT.out k u b HU.out hb⟩)
        have hh1 := own_keep HHD.out (keep_grown (T2 := 95) HXS.out HG1.out) (by decide) (by decide)
        have hr1 : ∀ (i : Nat) u', us[i]? = some u' → ∃ xs, w1.ownsRow base 95 2 u' (N i) xs := fun i u' hu' => by
          by_cases e : i = k
          · subst e
            rw [HU.out] at hu'
            have := Option.some.inj hu'
            subst this
            exact ⟨_, HO1.out⟩
          · obtain ⟨ys, hy⟩ := HRO.out i u' hu'
            refine ⟨ys, World.ownsRow.kept hy HG1.out ?_⟩
            cases hv : u'.ownBlock with
            | none => exact .inl rfl
            | some b => exact .inr fun e2 => e (HDI.out i k u' u b hu' HU.out hv e2.symm)
        have HM1 := Lib.hid hm1; have HH1 := Lib.hid hh1; have HR1 := Lib.hid hr1
        clear hm1 hh1 hr1
        go_roundw
        case rel => exact ⟨HM1.out, k + 1, by omega, by go_num, by rw [HNE.out]; first | go_num | simp, HH1.out, HR1.out⟩
        case measure => simp [intOf]; omega
    · have hkm : k = m := by omega
      subst hkm
      go_wp2
      go_ret
      exact ⟨by rfl, HM.out⟩
end Go.Proofs.Ytpfjmoodfodfhaa
