/- The union of drums, by the reference and by the program. No conditions. -/
import Derived.Test.YtpfjmoodfodfhaaLc
import Derived.Test.YtpfjmoodfodfhaaNew
import Derived.Outline
namespace Go.Proofs.Ytpfjmoodfodfhaa
open Go.RowKit
set_option linter.unusedVariables false
set_option linter.unusedSimpArgs false

/-- the pins that some of the first i drums have -/
def unionTo (L : Nat → Nat → Nat) : Nat → Nat → Nat
  | 0 => fun _ => 0
  | i + 1 => fun k => unionTo L i k ||| L i k
theorem unionTo_zero (L : Nat → Nat → Nat) : unionTo L 0 = fun _ => 0 := rfl
theorem unionTo_succ (L : Nat → Nat → Nat) (i : Nat) : unionTo L (i + 1) = fun k => unionTo L i k ||| L i k := rfl
theorem unionTo_32 {L : Nat → Nat → Nat} (h : L32 L) (i : Nat) : D32 (unionTo L i) := by
  induction i with
  | zero => intro j; rw [unionTo_zero]; simp
  | succ i ih => intro j; rw [unionTo_succ]; exact or_lt32 (ih j) (h i j)
attribute [irreducible] unionTo
/-- the union of m drums, if the code is OK -/
def uniRes (s : Int) (n : Nat) (P R : Nat → Int) (m : Nat) (L : Nat → Nat → Nat) : Nat → Nat := if lcode (okAll s n P R m L) m = 0 then unionTo L m else fun _ => 0
theorem uniRes_yes {s : Int} {n : Nat} {P R : Nat → Int} {m : Nat} {L : Nat → Nat → Nat} (h : lcode (okAll s n P R m L) m = 0) : uniRes s n P R m L = unionTo L m := if_pos h
theorem uniRes_no {s : Int} {n : Nat} {P R : Nat → Int} {m : Nat} {L : Nat → Nat → Nat} (h : ¬ lcode (okAll s n P R m L) m = 0) : uniRes s n P R m L = fun _ => 0 := if_neg h
attribute [irreducible] uniRes

set_option maxRecDepth 100000 in
theorem union_any (b : Option Addr) (m d : Nat) (L : Nat → Nat → Nat) (w : World) (hm : m ≤ 1048576) (hL : L32 L) (hl : DrumsAt w b m L) :
    Calls Try.prog 74 #[.slice b m d] w fun e w' => e = .returned (.agg (dc (unionTo L m))) ∧ Below w.heap.size w w' := by
  have HL := Lib.hid hL; clear hL
  have KB := Kp.base w
  have KL := kp_drums hl; clear hl
  have KLo := KL
  replace KB := KB.alloc (.cells (dc fun _ => 0) 71)
  replace KL := KL.alloc (.cells (dc fun _ => 0) 71)
  have K0 := kp_newd w (fun _ => 0) 71 (g := w.heap.size) (by simp)
  have HZ := Lib.hid (show (w.alloc (.cells (dc fun _ => 0) 71)).heap.size = w.heap.size + 1 by simp)
  go_enter Try.func74, Try.ntmps74
  go_wp2_with (first | (with_reducible refine new_drum rfl rfl rfl rfl rfl _ _ rfl rfl rfl ?_; intro W hb hz hg; replace KB := KB.on hb; replace K0 := K0.on hb; replace KL := KL.on hb; rw [HZ.out] at hz hg; have HG := Lib.hid hg; have HZ1 := Lib.hid hz; clear hb hz hg) | (with_reducible refine alloc_drum ?_ ?_ ?_; with_reducible rfl; with_reducible rfl))
  have HB1 := Lib.hid (show Below (w.heap.size + 1) W W from Below.refl _ _)
  have HR0 := Lib.hid K0.here
  have HBW := Lib.hid KB.here
  clear HZ K0 KB KL
  go_loopw [11] (fun i w' => Below (w.heap.size + 1) W w' ∧ ∃ k : Nat, k ≤ m ∧ i = .int .i64 k ∧ w.heap.size + 1 < w'.heap.size ∧ DrumAt w' 71 (w.heap.size + 1) (unionTo L k)) (fun i _ => m - (intOf i).toNat)
  case atStart => exact ⟨HB1.out, 0, by omega, rfl, by have := HZ1.out; omega, by rw [unionTo_zero]; exact HG.out⟩
  case round =>
    clear HB1 HG
    obtain ⟨hb, k, hk, rfl, hsz, hg⟩ := hrel
    have HG := Lib.hid hg; clear hg
    have hbw : Below w.heap.size w wr := HBW.out.trans (hb.mono (by omega))
    by_cases hlt : k < m
    · have hx := DrumsAt.get (KLo.at hbw) (show 0 < m by omega)
      obtain ⟨g, off, rfl, hg, hc⟩ := hx
      have HC := Lib.hid (hc k hlt); clear hc
      go_wp2_with (first | (with_reducible refine load_drum_mid rfl _ rfl g (off + k * 96) rfl (L k) HC.out ?_) | (with_reducible refine copy_drum rfl rfl rfl _ _ rfl (L k) rfl rfl ?_; intro V hb2 hz2 hg2; have HG2 := Lib.hid hg2; have HB2 := Lib.hid hb2; have HZ2 := Lib.hid hz2; clear hz2 hg2 hb2) | (with_reducible refine load_drum rfl _ rfl wr.heap.size rfl _ (L k) HG2.out ?_))
      have hz2 := HZ2.out
      have HA := Lib.hid (HG.out.below HB2.out hsz)
      have HBV := Lib.hid (hb.trans (HB2.out.mono (by omega)))
      clear HG HG2 HB2 hz2
      go_loopw [16] (fun i w' => Below (w.heap.size + 1) W w' ∧ ∃ j : Nat, j ≤ 96 ∧ i = .int .i64 j ∧ w.heap.size + 1 < w'.heap.size ∧ DrumAt w' 71 (w.heap.size + 1) (mixD (fun x => unionTo L k x ||| L k x) (unionTo L k) j)) (fun i _ => 96 - (intOf i).toNat)
      case atStart => exact ⟨HBV.out, 0, by omega, rfl, by have := HZ2.out; omega, by rw [mixD_zero]; exact HA.out⟩
      case round =>
        clear HBV HA
        obtain ⟨hb3, j, hj, rfl, hsz3, hg3⟩ := hrel
        have HG3 := Lib.hid hg3; clear hg3
        by_cases hlj : j < 96
        · have hix := index_drum (L k) j hlj
          have c0 := HG3.out.cell j hlj
          rw [mixD_at] at c0
          have hf := HG3.out.frozen j
          have hbit := bits_or_u32 (unionTo_32 HL.out k j) (HL.out k j)
          go_wp2
          go_roundw
          case rel =>
            have h3 := HG3.out.setCell j (unionTo L k j ||| L k j) hlj
            rw [mixD_upd (fun x => unionTo L k x ||| L k x)] at h3
            exact ⟨hb3.setCell (by simp) _, j + 1, by omega, by go_num, by simp; omega, h3⟩
          case measure => simp [intOf]; omega
        · have hj96 : j = 96 := by omega
          subst hj96
          have h3 := HG3.out.congr (mixD_full _ _)
          rw [← unionTo_succ] at h3
          have H3 := Lib.hid h3; clear h3
          go_wp2
          go_roundw
          case rel => exact ⟨hb3, k + 1, by omega, by go_num, hsz3, H3.out⟩
          case measure => simp [intOf]; omega
    · have hkm : k = m := by omega
      subst hkm
      have h0 := HR0.out.below hb (by omega)
      have h0' := DrumAt.setRow h0 (unionTo L k)
      have h1 := HG.out
      go_wp2_with (first | (with_reducible refine load_drum rfl _ rfl (w.heap.size + 1) rfl _ (unionTo L k) h1 ?_) | (with_reducible refine store_drum rfl _ _ rfl w.heap.size (unionTo L k) rfl rfl _ _ h0 ?_))
      refine bodyPost_ret (results_drum rfl _ _ w.heap.size _ (unionTo L k) rfl h0') rfl ⟨rfl, below_setRow hbw (Nat.le_refl _) _⟩
set_option maxRecDepth 100000 in
theorem l05Union_any (b : Option Addr) (m d : Nat) (L : Nat → Nat → Nat) (w : World) (hm : m ≤ 1048576) (hL : L32 L) (hl : DrumsAt w b m L) :
    Calls Try.prog 113 #[.slice b m d] w fun e w' => e = .returned (.agg (dc (unionTo L m))) ∧ Below w.heap.size w w' := by
  have HL := Lib.hid hL; clear hL
  have KB := Kp.base w
  have KL := kp_drums hl; clear hl
  have KLo := KL
  replace KB := KB.alloc (.cells (dc fun _ => 0) 71)
  replace KL := KL.alloc (.cells (dc fun _ => 0) 71)
  have K0 := kp_newd w (fun _ => 0) 71 (g := w.heap.size) (by simp)
  have HZ := Lib.hid (show (w.alloc (.cells (dc fun _ => 0) 71)).heap.size = w.heap.size + 1 by simp)
  go_enter Try.func113, Try.ntmps113
  go_wp2_with (first | (with_reducible refine new_drum rfl rfl rfl rfl rfl _ _ rfl rfl rfl ?_; intro W hb hz hg; replace KB := KB.on hb; replace K0 := K0.on hb; replace KL := KL.on hb; rw [HZ.out] at hz hg; have HG := Lib.hid hg; have HZ1 := Lib.hid hz; clear hb hz hg) | (with_reducible refine alloc_drum ?_ ?_ ?_; with_reducible rfl; with_reducible rfl))
  have HB1 := Lib.hid (show Below (w.heap.size + 1) W W from Below.refl _ _)
  have HR0 := Lib.hid K0.here
  have HBW := Lib.hid KB.here
  clear HZ K0 KB KL
  go_loopw [4] (fun i w' => Below (w.heap.size + 1) W w' ∧ ∃ k : Nat, k ≤ m ∧ i = .int .i64 k ∧ w.heap.size + 1 < w'.heap.size ∧ DrumAt w' 71 (w.heap.size + 1) (unionTo L k)) (fun i _ => m - (intOf i).toNat)
  case atStart => exact ⟨HB1.out, 0, by omega, rfl, by have := HZ1.out; omega, by rw [unionTo_zero]; exact HG.out⟩
  case round =>
    clear HB1 HG
    obtain ⟨hb, k, hk, rfl, hsz, hg⟩ := hrel
    have HA := Lib.hid hg; clear hg
    have hbw : Below w.heap.size w wr := HBW.out.trans (hb.mono (by omega))
    by_cases hlt : k < m
    · have hx := DrumsAt.get KLo.here (show 0 < m by omega)
      obtain ⟨g, off, rfl, hg, hc⟩ := hx
      have HC := Lib.hid (hc k hlt); clear hc
      have HBV := Lib.hid hb; clear hb
      go_wp2
      go_loopw [5] (fun i w' => Below (w.heap.size + 1) W w' ∧ ∃ j : Nat, j ≤ 96 ∧ i = .int .i64 j ∧ w.heap.size + 1 < w'.heap.size ∧ DrumAt w' 71 (w.heap.size + 1) (mixD (fun x => unionTo L k x ||| L k x) (unionTo L k) j)) (fun i _ => 96 - (intOf i).toNat)
      case atStart => exact ⟨HBV.out, 0, by omega, rfl, hsz, by rw [mixD_zero]; exact HA.out⟩
      case round =>
        clear HBV HA hbw
        obtain ⟨hb3, j, hj, rfl, hsz3, hg3⟩ := hrel
        have hbw : Below w.heap.size w wr := HBW.out.trans (hb3.mono (by omega))
        have HG3 := Lib.hid hg3; clear hg3
        by_cases hlj : j < 96
        · have c0 := HG3.out.cell j hlj
          rw [mixD_at] at c0
          have hf := HG3.out.frozen j
          have c1 := (HC.out.below hbw hg) j hlj
          have hbit := bits_or_u32 (unionTo_32 HL.out k j) (HL.out k j)
          have hk' : (k : Int) < m := by omega
          have hj' : (j : Int) < 96 := by omega
          go_wp2
          go_still_tail 12, (by kernel_rfl)
          go_wp2
          go_roundw
          case rel =>
            have h3 := HG3.out.setCell j (unionTo L k j ||| L k j) hlj
            rw [mixD_upd (fun x => unionTo L k x ||| L k x)] at h3
            exact ⟨(hb3.setCell (by simp) _).drew, j + 1, by omega, by go_num, by simp; omega, h3⟩
          case measure => simp [intOf]; omega
        · have hj96 : j = 96 := by omega
          subst hj96
          have h3 := HG3.out.congr (mixD_full _ _)
          rw [← unionTo_succ] at h3
          have H3 := Lib.hid h3; clear h3
          go_wp2
          go_roundw
          case rel => exact ⟨hb3, k + 1, by omega, by go_num, hsz3, H3.out⟩
          case measure => simp [intOf]; omega
    · have hkm : k = m := by omega
      subst hkm
      have h0 := HR0.out.below hb (by omega)
      have h0' := DrumAt.setRow h0 (unionTo L k)
      have h1 := HA.out
      go_wp2_with (first | (with_reducible refine load_drum rfl _ rfl (w.heap.size + 1) rfl _ (unionTo L k) h1 ?_) | (with_reducible refine store_drum rfl _ _ rfl w.heap.size (unionTo L k) rfl rfl _ _ h0 ?_))
      refine bodyPost_ret (results_drum rfl _ _ w.heap.size _ (unionTo L k) rfl h0') rfl ⟨rfl, below_setRow hbw (Nat.le_refl _) _⟩
end Go.Proofs.Ytpfjmoodfodfhaa
