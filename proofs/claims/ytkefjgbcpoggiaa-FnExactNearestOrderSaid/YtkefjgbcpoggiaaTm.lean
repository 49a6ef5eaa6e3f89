/- Tables of one's own whose rows lie apart: laid, marked, looked at again. No conditions. -/
import Derived.Test.YtkefjgbcpoggiaaTab
import Derived.Test.YtkefjgbcpoggiaaOwn
import Derived.Test.YtkefjgbcpoggiaaMk1
import Derived.Test.YtkefjgbcpoggiaaOwnI
import Derived.Outline
namespace Go.Proofs.Ytkefjgbcpoggiaa
open Go.RowKit
set_option linter.unusedVariables false
set_option linter.unusedSimpArgs false

/-- v owns k rows of m cells, in blocks from base on; the rows' blocks lie below top and are no two the same -/
def TabX (w : World) (base top : Nat) (v : Value) (k m : Nat) (X : Nat → List Value) : Prop :=
  ∃ us : List Value, us.length = k ∧ w.ownsRow base 38 1 v k us ∧ (∀ (i : Nat) u, us[i]? = some u → w.ownsRow base 2 1 u m (X i)) ∧
    (∀ (i : Nat) u, us[i]? = some u → ∀ b, u.ownBlock = some b → b < top) ∧ ∀ (i j : Nat) u u' b, us[i]? = some u → us[j]? = some u' → u.ownBlock = some b → u'.ownBlock = some b → i = j
section
variable {w w' : World} {base top : Nat} {v : Value} {k m : Nat} {X : Nat → List Value}
theorem TabX.below (h : TabX w base top v k m X) (hb : Below w.heap.size w w') : TabX w' base top v k m X := by
  obtain ⟨us, h1, h2, h3, h4, h5⟩ := h
  exact ⟨us, h1, own_below h2 hb, fun i u hu => own_below (h3 i u hu) hb, h4, h5⟩
theorem kp_tabX (h : TabX w base top v k m X) : Kp w (fun V => TabX V base top v k m X) := Kp.mk fun _ hb => h.below hb
theorem TabX.retop (h : TabX w base top v k m X) : TabX w base w.heap.size v k m X := by
  obtain ⟨us, h1, h2, h3, h4, h5⟩ := h
  exact ⟨us, h1, h2, h3, fun i u hu b hb => ((h3 i u hu).lt b hb).2, h5⟩
theorem TabX.upTop {top' : Nat} (h : TabX w base top v k m X) (ht : top ≤ top') : TabX w base top' v k m X := by
  obtain ⟨us, h1, h2, h3, h4, h5⟩ := h
  exact ⟨us, h1, h2, h3, fun i u hu b hb => Nat.lt_of_lt_of_le (h4 i u hu b hb) ht, h5⟩
theorem TabX.mono {base' : Nat} (h : TabX w base top v k m X) (hb : base' ≤ base) : TabX w base' top v k m X := by
  obtain ⟨us, h1, h2, h3, h4, h5⟩ := h
  exact ⟨us, h1, own_mono h2 hb, fun i u hu => own_mono (h3 i u hu) hb, h4, h5⟩
theorem TabX.grown {row : Option Nat} (h : TabX w base top v k m X) (hg : w.grownBy w' row) (hr : ∀ b, row = some b → b < base) : TabX w' base top v k m X := by
  obtain ⟨us, h1, h2, h3, h4, h5⟩ := h
  exact ⟨us, h1, own_grown h2 hg hr, fun i u hu => own_grown (h3 i u hu) hg hr, h4, h5⟩
theorem TabX.nil (w : World) (base top m : Nat) (X : Nat → List Value) (hb : base ≤ w.heap.size) : TabX (w.alloc (.cells #[] 38)) base top (.slice (some ⟨w.heap.size, 0, none⟩) 0 0) 0 m X :=
  ⟨[], rfl, ⟨rfl, .inr ⟨w.heap.size, 0, #[], rfl, hb, heap_alloc_new w _, Nat.le_refl _, by unfold maxLen; omega, rfl, rfl⟩⟩, fun i u h => by simp at h, fun i u h => by simp at h, fun i j u u' b h => by simp at h⟩
theorem TabX.none0 (w : World) (base top m : Nat) (X : Nat → List Value) : TabX w base top (.slice none 0 0) 0 m X :=
  ⟨[], rfl, World.ownsRow_nil _ _ _ _, fun i u h => by simp at h, fun i u h => by simp at h, fun i j u u' b h => by simp at h⟩
theorem TabX.form (h : TabX w base top v k m X) : ∃ b c, v = .slice b k c := by
  obtain ⟨us, h1, h2, _⟩ := h
  rcases h2.2 with ⟨rfl, rfl⟩ | ⟨g, cap, cur, rfl, _⟩
  · exact ⟨_, _, rfl⟩
  · exact ⟨_, _, rfl⟩
/-- the header's block and the rows' blocks are of different types -/
theorem hdr_apart {us : List Value} {u : Value} {xs : List Value} (h2 : w.ownsRow base 38 1 v k us) (hu : w.ownsRow base 2 1 u m xs) : ∀ b, v.ownBlock = some b → u.ownBlock ≠ some b := by
  intro b hb e
  rcases h2.2 with ⟨rfl, _⟩ | ⟨g, cap, cur, rfl, _, hr, _⟩
  · simp [Value.ownBlock] at hb
  · rcases hu.2 with ⟨rfl, _⟩ | ⟨g', cap', cur', rfl, _, hr', _⟩
    · simp [Value.ownBlock] at e
    · simp [Value.ownBlock] at hb e
      subst hb; subst e
      rw [hr] at hr'
      simp at hr'
end
section
variable {ops : Array Oper} {rest : List Oper} {o : Oper} {a : Act} {w : World} {Q : Exit → Act → World → Prop}
/-- a row is appended that lies apart from the others -/
theorem append_rowX (hgd : o.guard = none) (s x : Operand) (ho : o.op = .call { callee := .builtin .append, args := #[s, x], argTypes := #[179, 179] }) (base top : Nat) (v : Value) (k m : Nat) (X : Nat → List Value) (hs : a.eval s = v) (hown : TabX w base top v k m X)
    (g : Nat) (u : Value) (hx : a.eval x = .slice (some ⟨g, 0, none⟩) 1 1) (hc : w.cell? ⟨g, 0, none⟩ = some u) (hu : w.ownsRow top 2 1 u m (X k)) (hbt : base ≤ top) (hl : k ≤ 1000000) (hbase : base ≤ w.heap.size)
    (h : ∀ v' w', TabX w' base w'.heap.size v' (k + 1) m X → Below base w w' → wpList Try.prog ops Q rest (a.put o.dst v') w') : wpList Try.prog ops Q (o :: rest) a w := by
  obtain ⟨i0, hi, hz0, hz1, hz2⟩ := info_parts infoSl
  obtain ⟨us, hl1, hvs, hrs, htop, hdis⟩ := hown
  have huo : u.oneCell' = true := by rcases hu.2 with ⟨rfl, _⟩ | ⟨g, cap, cur, rfl, _⟩ <;> rfl
  refine wpList_append_own w hgd s x 179 ho base 38 i0 (.slice none 0 0) 1 24 Try.underlying179 hi hz0 hz1 hz2 rfl (by decide) v k _ hs hvs ⟨g, 0, none⟩ 1 1 [u] hx rfl ?_ ?_ ?_ ?_ hbase ?_
  · intro j u' hj
    match j, hj with
    | 0, hj => simp at hj; subst hj; simpa [Addr.add] using hc
  · intro u' hu'; simp at hu'; subst hu'; exact huo
  · unfold maxLen; omega
  · omega
  · intro v' w' hown' hgrow _
    have hu' := own_mono hu hbt
    refine h v' w' ?_ (Below.grown (Below.refl _ _) hgrow hbase fun b hb => (World.ownsRow.lt hvs b hb).1)
    have keep : ∀ u xs, w.ownsRow base 2 1 u m xs → w'.ownsRow base 2 1 u m xs := fun u xs hur => by
      refine World.ownsRow.kept hur hgrow ?_
      cases hv : u.ownBlock with
      | none => exact .inl rfl
      | some b => exact .inr fun e2 => hdr_apart hvs hur b e2.symm hv
    have hsz := hgrow.size
    have get : ∀ (i : Nat) x, (us ++ [u])[i]? = some x → (i < k ∧ us[i]? = some x) ∨ (i = k ∧ x = u) := by
      intro i x hi
      by_cases hlt : i < us.length
      · rw [List.getElem?_append_left hlt] at hi
        exact .inl ⟨by omega, hi⟩
      · rw [List.getElem?_append_right (by omega)] at hi
        have hi0 : i = us.length := by
          have := (List.getElem?_eq_some_iff.1 hi).1
          simp at this; omega
        subst hi0
        simp at hi
        exact .inr ⟨hl1, hi.symm⟩
    refine ⟨us ++ [u], by simp [hl1], hown', fun i x hi => ?_, fun i x hi b hb => ?_, fun i j x y b hi hj hb hb' => ?_⟩
    · rcases get i x hi with ⟨_, h1⟩ | ⟨rfl, rfl⟩
      · exact keep _ _ (hrs i x h1)
      · exact keep _ _ hu'
    · rcases get i x hi with ⟨_, h1⟩ | ⟨rfl, rfl⟩
      · have := ((hrs i x h1).lt b hb).2; omega
      · have := (hu.lt b hb).2; omega
    · rcases get i x hi with ⟨_, h1⟩ | ⟨rfl, rfl⟩ <;> rcases get j y hj with ⟨_, h2⟩ | ⟨rfl, rfl⟩
      · exact hdis i j x y b h1 h2 hb hb'
      · have h3 := htop i x h1 b hb
        have h4 := (hu.lt b hb').1
        omega
      · have h3 := htop j y h2 b hb'
        have h4 := (hu.lt b hb).1
        omega
      · rfl
end
/-- the rows of a table of costs -/
def ctX (L : Nat → Nat → Nat) (m : Nat) (i : Nat) : List Value := (rowL L i m).map (Value.int .i64)
theorem TabX.ownT {w : World} {base top : Nat} {v : Value} {m : Nat} {L : Nat → Nat → Nat} (h : TabX w base top v m m (ctX L m)) : OwnT w base v (tabL L m m) := by
  obtain ⟨us, h1, h2, h3, _⟩ := h
  refine ⟨us, by rw [tabL_len]; exact h1, by rw [tabL_len]; exact h2, fun i u r hu hr => ?_⟩
  have hi : i < m := by have := (List.getElem?_eq_some_iff.1 hu).1; omega
  rw [tabL_get L m m i hi] at hr
  injection hr with hr
  subst hr
  unfold OwnI
  rw [rowL_len]
  exact h3 i u hu
set_option maxRecDepth 100000 in
theorem costsX_any (b : Option Addr) (m d : Nat) (L : Nat → Nat → Nat) (w : World) (hm : m ≤ 8) (hL : L32 L) (hl : DrumsAt w b m L) :
    Calls Try.prog 141 #[.slice b m d] w fun e w' => ∃ v, e = .returned v ∧ Below w.heap.size w w' ∧ TabX w' w.heap.size w'.heap.size v m m (ctX L m) := by
  have HL := Lib.hid hL; clear hL
  have KB := Kp.base w
  have KL := kp_drums hl; clear hl
  have hb0 : Below w.heap.size w (w.alloc (.cells #[] 38)) := (Below.refl _ _).alloc (Nat.le_refl _) _
  have hn0 := TabX.nil w w.heap.size 0 m (ctX L m) (Nat.le_refl _)
  have HB0 := Lib.hid hb0; have HN0 := Lib.hid hn0; clear hb0 hn0
  go_enter Try.func141, Try.ntmps141
  go_wp2
  go_loopw [3, 12] (fun t i w' => Below w.heap.size w w' ∧ ∃ k : Nat, k ≤ m ∧ i = .int .i64 k ∧ TabX w' w.heap.size w'.heap.size t k m (ctX L m)) (fun _ i _ => m - (intOf i).toNat)
  case atStart => exact ⟨HB0.out, 0, by omega, rfl, HN0.out.retop⟩
  case round =>
    clear HB0 HN0
    obtain ⟨hb, k, hk, rfl, ht⟩ := hrel
    replace KB := KB.on hb
    replace KL := KL.on hb
    by_cases hlt : k < m
    · have hk' : (k : Int) < m := by omega
      have hx := DrumsAt.get KL.here (show 0 < m by omega)
      obtain ⟨g, off, rfl, hg, hc⟩ := hx
      have HC := Lib.hid (hc k hlt); clear hc
      have hsz := hb.size
      have KT := kp_tabX ht; clear ht
      obtain ⟨U, rfl⟩ : ∃ U, U = wr := ⟨wr, rfl⟩
      go_wp2_with (first | (with_reducible refine load_drum_mid rfl _ rfl g (off + k * 96) rfl (L k) HC.out ?_) | (with_reducible refine copy_drum rfl rfl rfl _ _ rfl (L k) rfl rfl ?_; intro V hb2 hz2 hg2; have KD := kp_drum hg2; have hbU := hb.trans (hb2.mono hsz); replace KL := KL.on hb2; replace KT := KT.on hb2; have hUV := hb2.size; clear hg2 HC hz2))
      have hszU := hbU.size
      have hn1 := OwnI.nil V V.heap.size (Nat.le_refl _)
      rw [← rowL_zero L k] at hn1
      have hb1 : Below V.heap.size V (V.alloc (.cells #[] 2)) := (Below.refl _ _).alloc (Nat.le_refl _) _
      have HB1 := Lib.hid hb1; have HN1 := Lib.hid hn1; clear hb1 hn1 hb2
      go_loopw [6, 19] (fun r i w' => Below V.heap.size V w' ∧ ∃ j : Nat, j ≤ m ∧ i = .int .i64 j ∧ OwnI w' V.heap.size r (rowL L k j)) (fun _ i _ => m - (intOf i).toNat)
      case atStart => exact ⟨HB1.out, 0, by omega, rfl, HN1.out⟩
      case round =>
        clear HB1 HN1
        obtain ⟨hb1, j, hj, rfl, hr⟩ := hrel
        have hsz1 := hb1.size
        replace KL := KL.on hb1
        replace KT := KT.on hb1
        replace KD := KD.on hb1
        by_cases hltj : j < m
        · have hx := DrumsAt.get KL.here (show 0 < m by omega)
          obtain ⟨g1, off1, e1, hg1, hc1⟩ := hx
          simp only [Option.some.injEq, Addr.mk.injEq, and_true] at e1
          obtain ⟨rfl, rfl⟩ := e1
          have HC1 := Lib.hid (hc1 j hltj); clear hc1
          have hlen := rowL_len L k j
          have hrs := Lib.hid (rowL_succ L k j)
          have hcn := Lib.hid (cN_def L k j)
          have HR := Lib.hid hr; clear hr
          have hD := KD.here
          go_wp2_with (first | (with_reducible refine load_drum_mid rfl _ rfl g (off + j * 96) rfl (L j) HC1.out ?_) | (with_reducible refine copy_drum rfl rfl rfl _ _ rfl (L j) rfl rfl ?_; intro V2 hb2 hz2 hg2; have hD2 := KD.at hb2; have HR2 := Lib.hid (HR.out.below hb2); have hb4 := hb1.trans (hb2.mono hsz1); have HG2 := Lib.hid hg2; clear hg2 hz2) | (with_reducible refine load_drum rfl _ rfl U.heap.size rfl _ (L k) hD2 ?_) | (with_reducible refine load_drum rfl _ rfl wr.heap.size rfl _ (L j) HG2.out ?_) | (go_at_call 197; refine (cost_any (L k) (L j) (HL.out k) (HL.out j) _).mono ?_; rintro e w2 ⟨rfl, hb5⟩; rw [← hcn.out]; have hb6 := hb4.trans (hb5.mono hb4.size); have hsz6 := hb6.size; have HR3 := Lib.hid (HR2.out.below hb5)) | (at_builtin; refine append_int rfl _ _ rfl V.heap.size _ (rowL L k j) rfl (HR3.out.alloc _) w2.heap.size (cN L k j) rfl (by simp) (by omega) (by simp; omega) ?_; intro v3 w3 hown3 hb7; have HO3 := Lib.hid hown3; have HB3 := Lib.hid hb7; clear hown3 hb7))
          go_roundw
          case rel => exact ⟨(hb6.alloc hsz6 _).trans HB3.out, j + 1, by omega, by go_num, by rw [hrs.out]; exact HO3.out⟩
          case measure => simp [intOf]; omega
        · have hjm : m = j := by omega
          subst hjm
          have hbw := hbU.trans (hb1.mono hszU)
          have hrow : (wr.alloc (.cells #[u6] 38)).ownsRow V.heap.size 2 1 u6 m (ctX L m k) := by
            have h := OwnI.alloc hr (.cells #[u6] 38)
            unfold OwnI at h
            rw [rowL_len] at h
            exact h
          have HR2 := Lib.hid hrow; clear hrow
          have HT2 := Lib.hid ((KT.alloc (.cells #[u6] 38)).here)
          obtain ⟨rb, rc, rfl, _⟩ := OwnI.at hr
          clear hr
          have hsz2 := hbw.size
          go_wp2_with (at_builtin; go_loud (refine append_rowX rfl _ _ rfl w.heap.size V.heap.size _ k m (ctX L m) rfl (HT2.out.upTop hUV) wr.heap.size _ rfl (by simp) HR2.out (by omega) (by omega) (by simp; omega) ?_; intro v2 w2 hown2 hb3; have HO2 := Lib.hid hown2; have HB2 := Lib.hid hb3; clear hown2 hb3))
          go_roundw
          case rel => exact ⟨(hbw.alloc hsz2 _).trans HB2.out, k + 1, by omega, by go_num, HO2.out⟩
          case measure => simp [intOf]; omega
    · have hkm : m = k := by omega
      subst hkm
      go_wp2
      go_ret
      exact ⟨_, rfl, hb, ht⟩
end Go.Proofs.Ytkefjgbcpoggiaa
