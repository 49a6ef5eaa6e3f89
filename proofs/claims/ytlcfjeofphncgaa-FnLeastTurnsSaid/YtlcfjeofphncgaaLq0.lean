/- LeastStepsOrder, by the reference. No conditions. -/
import Derived.Test.YtlcfjeofphncgaaLp
import Derived.Test.YtlcfjeofphncgaaVp
import Derived.Outline
namespace Go.Proofs.Ytlcfjeofphncgaa
open Go.RowKit
set_option linter.unusedVariables false
set_option linter.unusedSimpArgs false

set_option maxRecDepth 100000 in
theorem l00Has_any (q : Option Addr) (l d : Nat) (Z : Nat → Int) (x : Int) (w : World) (hl : l ≤ 1000000000) (hz : IntAt w q l Z) :
    Calls Try.prog 86 #[.slice q l d, .int .i64 x] w fun e w' => e = .returned (.bool (hasB Z l x)) ∧ w = w' := by
  have HZ := Lib.hid hz; clear hz
  go_enter Try.func86, Try.ntmps86
  go_wp2
  go_loop [5] (fun i => ∃ k : Nat, k ≤ l ∧ i = .int .i64 k ∧ ∀ j, j < k → ¬ Z j = x) (fun i => l - (intOf i).toNat)
  case atStart => exact ⟨0, by omega, rfl, fun j hj => absurd hj (by omega)⟩
  case round =>
    obtain ⟨k, hk, rfl, hno⟩ := hrel
    have HNO := Lib.hid hno; clear hno
    by_cases hlt : k < l
    · have hx := IntAt.get HZ.out (show 0 < l by omega)
      obtain ⟨g, off, rfl, hg, hc⟩ := hx
      have c0 := hc k hlt
      clear hc
      have hk' : (k : Int) < l := by omega
      by_cases h : Z k = x
      · subst h
        go_wp2
        go_ret
        exact ⟨ret_bool (hasB_true ⟨k, hlt, rfl⟩).symm, rfl⟩
      · go_wp2
        go_round
        case rel => exact ⟨k + 1, by omega, by go_num, fun j hj => if e : j = k then by subst e; exact h else HNO.out j (by omega)⟩
        case measure => simp [intOf]; omega
    · go_wp2
      go_ret
      exact ⟨ret_bool (hasB_false (fun ⟨j, hj, e⟩ => HNO.out j (by omega) e)).symm, rfl⟩
set_option maxRecDepth 100000 in
set_option maxHeartbeats 4000000 in
theorem l04Orders_0 (gf gp base : Nat) (s : Int) (a : Option Addr) (n c : Nat) (b : Option Addr) (m d : Nat) (F S O : Nat → Int) (hs : 2 ≤ s ∧ s ≤ 96) (hm : m ≤ 12) (hsec : ∀ k, k < m → 0 ≤ F k ∧ F k < s ∧ 1 ≤ S k ∧ F k + S k ≤ s)
    (l : List Int) (v u : Value) (st : List Int × Int) (W : World) (hlen : l.length = m) (hl : okL m l) (hst : goodS st) (hbW : base ≤ W.heap.size) (hv : OwnI W base v l) (hu : OwnI W base u st.1)
    (hf : W.heap[gf]? = some (.cells #[.int .i16 s, .slice a n c] 27 (0, 0))) (hp : W.heap[gp]? = some (.cells (pc b m d O) 51 (0, 0))) (hs4 : SecAt W b m F S) :
    Calls Try.prog 59 #[.pointer (some ⟨gf, 0, none⟩), .pointer (some ⟨gp, 0, none⟩), v, u, .int .i64 st.2] W fun e W' => ∃ x, e = .returned (.tuple #[x, .int .i64 (loU (loC s F S) l st).2]) ∧ Below W.heap.size W W' ∧ OwnI W' base x (loU (loC s F S) l st).1 := by
  have HSEC := Lib.hid hsec
  have HCB := Lib.hid (loC_bound hs hsec l hl (by omega))
  have HL := Lib.hid hl
  have KF := kp_row hf; have KP := kp_row hp; have KS := kp_sec hs4
  have KV := kp_OwnI hv; have KU := kp_OwnI hu
  obtain ⟨q, e0, rfl, hz⟩ := OwnI.at hv
  have KZ := kp_int hz
  clear hv hu hf hp hs4 hz hl hsec
  have HUY := Lib.hid (loU_yes (C := loC s F S) (l := l) (st := st))
  have HUN := Lib.hid (loU_no (C := loC s F S) (l := l) (st := st))
  have hcall := l04Steps_any gf gp s a n c b m d F S O q l.length e0 (fun i => l.getD i 0) W hs hm HSEC.out KF.here KP.here KS.here (by omega) HL.out KZ.here
  rw [← loC_def] at hcall
  have HCALL := Lib.hid hcall; clear hcall
  obtain ⟨x, hx⟩ : ∃ x, loC s F S l = x := ⟨_, rfl⟩
  rw [hx] at HUY HUN HCALL HCB
  clear hx HL HSEC
  obtain ⟨bl, lv⟩ := st
  have hst2 : -1 ≤ lv ∧ lv ≤ 100000 := ⟨hst.1, hst.2.1⟩
  have p0 := row_cell 0 KP.here
  rw [pc_get0] at p0
  have heq : ((l.length : Int) == (m : Int)) = true := by simp; omega
  have hl12 : l.length ≤ 12 := by omega
  have HLEN := Lib.hid hlen
  clear KF KP KS KZ hlen hst
  go_enter Try.func59, Try.ntmps59
  go_wp2_with fail
  refine HCALL.out.mono ?_
  rintro e w2 ⟨rfl, hb2⟩
  clear HCALL p0
  replace KV := KV.on hb2
  replace KU := KU.on hb2
  have hsz2 := hb2.size
  have HB2 := Lib.hid hb2; clear hb2
  by_cases hlt : lv < 0 ∨ x < lv
  · have HU := Lib.hid (HUY.out hlt)
    have HNEW := Lib.hid (OwnI.nil w2 w2.heap.size (Nat.le_refl _))
    have HVN := Lib.hid (KV.here.alloc (.cells #[] 2))
    have HB3 := Lib.hid (HB2.out.alloc hsz2 (.cells #[] 2))
    by_cases h0 : lv < 0
    · go_wp2_with (at_builtin; refine append_ownI rfl _ _ rfl w2.heap.size base (.slice (some ⟨w2.heap.size, 0, none⟩) 0 0) (.slice q l.length e0) [] l rfl HNEW.out rfl HVN.out (by simp; omega) (by simp) ?_; intro v3 w4 hown hb4; have HO4 := Lib.hid hown; have HB4 := Lib.hid hb4; clear hown hb4)
      go_ret2
      exact ⟨v3, by rw [HU.out]; rfl, HB3.out.trans (HB4.out.mono hsz2), by rw [HU.out]; exact HO4.out.mono (by omega)⟩
    · have h9 : x < lv := by omega
      go_wp2_with (at_builtin; refine append_ownI rfl _ _ rfl w2.heap.size base (.slice (some ⟨w2.heap.size, 0, none⟩) 0 0) (.slice q l.length e0) [] l rfl HNEW.out rfl HVN.out (by simp; omega) (by simp) ?_; intro v3 w4 hown hb4; have HO4 := Lib.hid hown; have HB4 := Lib.hid hb4; clear hown hb4)
      go_ret2
      exact ⟨v3, by rw [HU.out]; rfl, HB3.out.trans (HB4.out.mono hsz2), by rw [HU.out]; exact HO4.out.mono (by omega)⟩
  · have HU := Lib.hid (HUN.out hlt)
    have h0 : ¬ lv < 0 := by omega
    have h9 : ¬ x < lv := by omega
    go_wp2
    go_ret2
    exact ⟨u, by rw [HU.out]; rfl, HB2.out, by rw [HU.out]; exact KU.here⟩
end Go.Proofs.Ytlcfjeofphncgaa
