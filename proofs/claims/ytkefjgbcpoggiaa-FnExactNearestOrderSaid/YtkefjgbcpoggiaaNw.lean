/- NearestOrder, by the reference and by the program. No conditions. -/
import Derived.Test.YtkefjgbcpoggiaaNr
import Derived.Test.YtkefjgbcpoggiaaTm
import Derived.Test.YtkefjgbcpoggiaaOc
import Derived.Test.YtkefjgbcpoggiaaShared
import Derived.Outline
namespace Go.Proofs.Ytkefjgbcpoggiaa
open Go.RowKit
set_option linter.unusedVariables false
set_option linter.unusedSimpArgs false

/-- the code -/
noncomputable def nrC (s : Int) (n : Nat) (P R : Nat → Int) (m : Nat) (L : Nat → Nat → Nat) (f : Int) : Int := if scode (okAll s n P R m L) m f = 0 then (if f < 0 then 2 else 0) else scode (okAll s n P R m L) m f
noncomputable def nrV (s : Int) (n : Nat) (P R : Nat → Int) (m : Nat) (L : Nat → Nat → Nat) (f : Int) : List Int := if scode (okAll s n P R m L) m f = 0 then (if f < 0 then [] else nrL (cN L) m f (m - 1)) else []
noncomputable def nrX (s : Int) (n : Nat) (P R : Nat → Int) (m : Nat) (L : Nat → Nat → Nat) (f : Int) : Int := if scode (okAll s n P R m L) m f = 0 then (if f < 0 then 0 else oSum (cN L) (fun i => (nrL (cN L) m f (m - 1)).getD i 0) (m - 1)) else 0
section
variable {s : Int} {n : Nat} {P R : Nat → Int} {m : Nat} {L : Nat → Nat → Nat} {f : Int}
theorem nr_bad {x : Int} (hx : scode (okAll s n P R m L) m f = x) (h : ¬ x = 0) : nrV s n P R m L f = [] ∧ nrX s n P R m L f = 0 ∧ nrC s n P R m L f = x := by unfold nrV nrX nrC; rw [hx, if_neg h, if_neg h, if_neg h]; exact ⟨rfl, rfl, rfl⟩
theorem nr_low (hx : scode (okAll s n P R m L) m f = 0) (h : f < 0) : nrV s n P R m L f = [] ∧ nrX s n P R m L f = 0 ∧ nrC s n P R m L f = 2 := by unfold nrV nrX nrC; rw [hx, if_pos rfl, if_pos rfl, if_pos rfl, if_pos h, if_pos h, if_pos h]; exact ⟨rfl, rfl, rfl⟩
theorem nr_yes (hx : scode (okAll s n P R m L) m f = 0) (h : ¬ f < 0) : nrV s n P R m L f = nrL (cN L) m f (m - 1) ∧ nrX s n P R m L f = oSum (cN L) (fun i => (nrL (cN L) m f (m - 1)).getD i 0) (m - 1) ∧ nrC s n P R m L f = 0 := by unfold nrV nrX nrC; rw [hx, if_pos rfl, if_pos rfl, if_pos rfl, if_neg h, if_neg h, if_neg h]; exact ⟨rfl, rfl, rfl⟩
theorem nrV_len : (nrV s n P R m L f).length ≤ 1000000 := by
  by_cases h0 : scode (okAll s n P R m L) m f = 0
  · by_cases h : f < 0
    · rw [(nr_low h0 h).1]; simp
    · rw [(nr_yes h0 h).1, nrL_len]; have := (scode_zero h0).1.2; omega
  · rw [(nr_bad rfl h0).1]; simp
end
attribute [irreducible] nrC nrV nrX
theorem OwnI.one1 (w : World) (base : Nat) (x : Int) (hb : base ≤ w.heap.size) : OwnI (w.alloc (.cells #[.int .i64 x] 2)) base (.slice (some ⟨w.heap.size, 0, none⟩) 1 1) [x] :=
  ⟨rfl, .inr ⟨w.heap.size, 1, #[.int .i64 x], rfl, hb, heap_alloc_new w _, Nat.le_refl _, by unfold maxLen; omega, rfl, rfl⟩⟩
/-- how long a slice value is -/
def slen : Value → Nat
  | .slice _ n _ => n
  | _ => 0
theorem slen_slice (b : Option Addr) (n c : Nat) : slen (.slice b n c) = n := rfl
attribute [irreducible] slen
set_option maxRecDepth 100000 in
set_option maxHeartbeats 1000000 in
theorem implNearestOrder_any (s : Int) (a : Option Addr) (n c : Nat) (P R : Nat → Int) (b : Option Addr) (m d : Nat) (L : Nat → Nat → Nat) (f : Int) (w : World) (hs : -32768 ≤ s ∧ s ≤ 32767) (hn : n ≤ 1048576) (hP : I8 P) (hR : I8 R) (hh : HamAt w a n P R) (hm : m ≤ 1048576) (hL : L32 L) (hl : DrumsAt w b m L) (hf : -9223372036854775808 ≤ f ∧ f ≤ 9223372036854775807) :
    Calls Try.prog 65 #[.agg #[.int .i16 s, .slice a n c], .slice b m d, .int .i64 f] w fun e w' => ∃ v, e = .returned (.tuple #[v, .int .i64 (nrX s n P R m L f), .int .i64 (nrC s n P R m L f)]) ∧ Below w.heap.size w w' ∧ OwnI w' w.heap.size v (nrV s n P R m L f) := by
  have HP := Lib.hid hP; have HR := Lib.hid hR; have HL := Lib.hid hL
  clear hP hR hL
  have KB := Kp.base w
  have KH := kp_ham hh; have KL := kp_drums hl; clear hh hl
  replace KB := KB.alloc (.cells #[.int .i16 s, .slice a n c] 27)
  replace KH := KH.alloc (.cells #[.int .i16 s, .slice a n c] 27)
  replace KL := KL.alloc (.cells #[.int .i16 s, .slice a n c] 27)
  have KF := kp_new1 w #[.int .i16 s, .slice a n c] 27 (g := w.heap.size) (by simp)
  have HZ := Lib.hid (show (w.alloc (.cells #[.int .i16 s, .slice a n c] 27)).heap.size = w.heap.size + 1 by simp)
  go_enter Try.func65, Try.ntmps65
  go_wp2_with (with_reducible refine load_iframe rfl _ rfl w.heap.size rfl _ s a n c KF.here ?_)
  generalize (w.alloc (.cells #[.int .i16 s, .slice a n c] 27)) = W at KB KH KL KF HZ ⊢
  clear HZ
  refine (startCode_any s a n c P R b m d L f W hs hn HP.out HR.out KH.here hm KL.here).mono ?_
  rintro e w1 ⟨rfl, hb1⟩
  replace KB := KB.on hb1
  replace KL := KL.on hb1
  clear hb1
  have hbs := KB.here.size
  obtain ⟨x, hx⟩ : ∃ x, scode (okAll s n P R m L) m f = x := ⟨_, rfl⟩
  rw [hx]
  by_cases h0 : x = 0
  · subst h0
    obtain ⟨⟨_, hm8⟩, hfr, hm0⟩ := scode_zero hx
    by_cases hlow : f < 0
    · have HR1 := Lib.hid (nr_low hx hlow); clear hx
      go_wp2
      go_ret3
      exact ⟨_, by rw [HR1.out.2.1, HR1.out.2.2]; rfl, KB.here, by rw [HR1.out.1]; exact OwnI.none0 _ _⟩
    · have HR1 := Lib.hid (nr_yes hx hlow); clear hx
      go_wp2_with fail
      refine (costs_any b m d L w1 hm8 HL.out KL.here).mono ?_
      rintro e w3 ⟨v, rfl, hb3, hv⟩
      replace KB := KB.on hb3
      replace KL := KL.on hb3
      have hbs3 := KB.here.size
      obtain ⟨tb, tc, rfl, htb⟩ := OwnT.at hv
      have KT := kp_tab htb; clear htb hv hb3
      have HO0 := Lib.hid (OwnI.one1 w3 w3.heap.size f (Nat.le_refl _))
      rw [← nrL_zero (C := cN L) (n := m)] at HO0
      go_wp2
      go_loopw [11] (fun v w' => Below w3.heap.size w3 w' ∧ ∃ k : Nat, k < m ∧ OwnI w' w3.heap.size v (nrL (cN L) m f k)) (fun v _ => m - slen v)
      case atStart => exact ⟨(Below.refl _ _).alloc (Nat.le_refl _) _, 0, hm0, HO0.out⟩
      case round =>
        clear HO0
        obtain ⟨hb, k, hk, hown⟩ := hrel
        replace KB := KB.on hb
        replace KT := KT.on hb
        have hsz := hb.size
        have hin := nrL_in (C := cN L) (n := m) ⟨by omega, hfr.2⟩ k hk
        have hlen := nrL_len (C := cN L) (n := m) (f := f) k
        have hnext := nrL_next (C := cN L) (n := m) (f := f) k
        have hsucc := nrL_succ (C := cN L) (n := m) (f := f) k
        obtain ⟨l, hl⟩ : ∃ l, nrL (cN L) m f k = l := ⟨_, rfl⟩
        rw [hl] at hown hin hlen hnext hsucc
        have HL1 := Lib.hid hl; have HSUCC := Lib.hid hsucc; have HNEXT := Lib.hid hnext; have HIN := Lib.hid hin; clear hl hsucc hnext hin
        obtain ⟨vb, vc, rfl, hz⟩ := OwnI.at hown
        have KO := kp_OwnI hown; clear hown
        rw [hlen] at KO hz ⊢
        have HLEN := Lib.hid hlen; clear hlen
        obtain ⟨q, hq⟩ : ∃ q, k + 1 = q := ⟨_, rfl⟩
        rw [hq] at KO hz ⊢
        have q1 : IntKind.i64.wrap ((q : Int) - 1) = k := by rw [i64_id (by omega)]; omega
        by_cases hlt : q < m
        · have hlt' : (q : Int) < m := by omega
          have hx := IntAt.get hz (show 0 < q by omega)
          obtain ⟨gz, oz, rfl, hgz, hcz⟩ := hx
          have cz := hcz k (by omega)
          have hzk := HIN.out k (Nat.le_refl _)
          obtain ⟨x, hxz⟩ : ∃ x : Nat, l.getD k 0 = x := ⟨(l.getD k 0).toNat, by omega⟩
          rw [hxz] at cz hzk
          have HX := Lib.hid hxz; clear hxz hcz hz
          have hxm : x < m := by omega
          have hxm' : (x : Int) < m := by omega
          have hx := TabAt.get KT.here (show 0 < m by omega)
          obtain ⟨g, off, rfl, hg, hc⟩ := hx
          obtain ⟨rb, rc, c0, hi⟩ := hc x hxm
          have KI := kp_int hi; clear hc hi
          go_wp2_with (go_at_call 99; refine (sizeDrum_any _ _ _ _ (by omega)).mono ?_; rintro e w5 ⟨rfl, rfl⟩)
          obtain ⟨U, rfl⟩ : ∃ U, U = wr := ⟨wr, rfl⟩
          go_loopw [13, 44] (fun best i w' => Below U.heap.size U w' ∧ ∃ j : Nat, j ≤ m ∧ i = .int .i64 j ∧ best = .int .i64 (nxS (cN L x) l j)) (fun _ i _ => m - (intOf i).toNat)
          case atStart => exact ⟨Below.refl _ _, 0, by omega, rfl, by rw [nxS_zero]⟩
          case round =>
            obtain ⟨hb1, j, hj, rfl, rfl⟩ := hrel
            have KI1 := KI.on hb1
            have KO1 := KO.on hb1
            have hbd := nxS_bound (C := cN L x) (l := l) j
            by_cases hltj : j < m
            · have hltj' : (j : Int) < m := by omega
              have hx := IntAt.get KI1.here (show 0 < m by omega)
              obtain ⟨gr, or, rfl, hgr, hcr⟩ := hx
              have c1 := hcr j hltj
              have hh := inL_has l j
              rw [HLEN.out, hq] at hh
              have KZ := KO1.imp (fun V h => OwnI.readAt h)
              rw [HLEN.out, hq] at KZ
              have hfree := nxS_free (C := cN L x) (l := l) j
              have hyes := nxS_yes (C := cN L x) (l := l) (i := j)
              have hinn := nxS_in (C := cN L x) (l := l) (i := j)
              have hfar := nxS_far (C := cN L x) (l := l) (i := j)
              obtain ⟨t, ht⟩ : ∃ t, nxS (cN L x) l j = t := ⟨_, rfl⟩
              rw [ht] at hbd hfree hyes hinn hfar ⊢
              have HY := Lib.hid hyes; have HI := Lib.hid hinn; have HF := Lib.hid hfar; have HT := Lib.hid ht
              clear hyes hinn hfar hfree ht
              have hcon : ∀ N : Nat, Calls Try.prog 142 #[.slice (some ⟨gz, oz, none⟩) q vc, .int .i64 (j : Int)] (wr.drewN N) fun e W' => e = .returned (.bool (inL l j)) ∧ wr.drewN N = W' := fun N => by
                rw [← hh]; exact sliceContains_any _ q vc (fun k => l.getD k 0) (j : Int) _ (by omega) (KZ.at (below_drewN (Below.refl _ _) N))
              clear hh hcr
              cases hin : inL l j
              · rw [hin] at hcon
                have HIN2 := Lib.hid hin; have HC := Lib.hid hcon; clear hin hcon
                by_cases h1 : t < 0
                · go_wp2
                  go_quiet ((go_at_call 142; exact q_same (HC.out _)))
                  go_wp2
                  go_roundw
                  case rel => exact ⟨below_drewN hb1 _, j + 1, by omega, by go_num, by rw [HY.out HIN2.out (.inl h1)]⟩
                  case measure => simp [intOf]; omega
                · obtain ⟨y, rfl⟩ : ∃ y : Nat, t = y := ⟨t.toNat, by omega⟩
                  have hym : y < m := by omega
                  have hym' : (y : Int) < m := by omega
                  have c2 := (show wr.cell? ⟨gr, or + y, none⟩ = some (.int .i64 (cN L x y)) from (IntAt.get KI1.here (show 0 < m by omega)).elim fun g1 h => by
                    obtain ⟨o1, e, _, h2⟩ := h
                    injection e with e
                    injection e with e1 e2
                    subst e1; subst e2
                    exact h2 y hym)
                  by_cases h2 : cN L x j < cN L x y
                  · go_wp2
                    go_quiet ((go_at_call 142; exact q_same (HC.out _)))
                    go_wp2
                    go_roundw
                    case rel => exact ⟨below_drewN hb1 _, j + 1, by omega, by go_num, by rw [HY.out HIN2.out (.inr (by simpa using h2))]⟩
                    case measure => simp [intOf]; omega
                  · go_wp2
                    go_quiet ((go_at_call 142; exact q_same (HC.out _)))
                    go_wp2
                    go_roundw
                    case rel => exact ⟨below_drewN hb1 _, j + 1, by omega, by go_num, by rw [HF.out (fun h => by rw [Int.toNat_natCast] at h; rcases h with h | h <;> omega)]⟩
                    case measure => simp [intOf]; omega
              · rw [hin] at hcon
                have HIN2 := Lib.hid hin; have HC := Lib.hid hcon; clear hin hcon
                go_wp2
                go_quiet ((go_at_call 142; exact q_same (HC.out _)))
                go_wp2
                go_roundw
                case rel => exact ⟨below_drewN hb1 _, j + 1, by omega, by go_num, by rw [HI.out HIN2.out]⟩
                case measure => simp [intOf]; omega
            · have hjm : m = j := by omega
              subst hjm
              have hn2 := HNEXT.out (by omega)
              have hs2 := HSUCC.out
              rw [HX.out, Int.toNat_natCast] at hn2 hs2
              obtain ⟨y, hy, hym, _⟩ := hn2
              rw [hy] at hs2 ⊢
              have HY := Lib.hid hs2; clear hy hs2
              have hb2 := hb.trans (hb1.mono hsz)
              have hsz2 := hb2.size
              have HO1 := Lib.hid KO1.here
              go_wp2_with (at_builtin; refine append_int rfl _ _ rfl w3.heap.size _ l rfl (HO1.out.alloc _) wr.heap.size (y : Int) rfl (by simp) (by rw [HLEN.out]; omega) (by simp; omega) ?_; intro v2 w7 hown2 hb4; have HO3 := Lib.hid hown2; have HB3 := Lib.hid hb4; clear hown2 hb4)
              go_roundw
              case rel => exact ⟨(hb2.alloc hsz2 _).trans HB3.out, k + 1, by omega, by rw [HY.out]; exact HO3.out⟩
              case measure =>
                obtain ⟨b2, c2, rfl, _⟩ := OwnI.at HO3.out
                have := HLEN.out
                simp [slen_slice]; omega
        · have hqm : q = m := by omega
          subst hqm
          obtain rfl : k = q - 1 := by omega
          have HZI := Lib.hid (show ∀ i, i < q → 0 ≤ l.getD i 0 ∧ l.getD i 0 ≤ (q : Int) - 1 from fun i hi => HIN.out i (by omega))
          have hX := HR1.out.2.1
          rw [HL1.out] at hX
          have HXX := Lib.hid hX; clear hX
          go_wp2_with fail
          refine (sum_impl.orderCost_any tb q tc L vb q vc (fun i => l.getD i 0) wr hm8 hm8 HZI.out KT.here hz).mono ?_
          rw [← HXX.out]
          rintro e w4 ⟨rfl, hb4⟩
          replace KB := KB.on hb4
          replace KO := KO.on hb4
          go_wp2
          go_ret3
          refine ⟨.slice vb q vc, ?_, KB.here, ?_⟩
          · rw [HR1.out.2.2]; rfl
          · rw [HR1.out.1, HL1.out]; exact KO.here.mono hbs3
  · have HR1 := Lib.hid (nr_bad hx h0); clear hx
    go_wp2
    go_ret3
    exact ⟨_, by rw [HR1.out.2.1, HR1.out.2.2]; rfl, KB.here, by rw [HR1.out.1]; exact OwnI.none0 _ _⟩
theorem bits_xor_i64 {a b : Nat} (ha : a < 256) (hb : b < 256) : bits .xor .i64 (a : Int) (b : Int) = ((a ^^^ b : Nat) : Int) := by
  show IntKind.i64.wrap ((BitVec.ofInt 64 (a : Int) ^^^ BitVec.ofInt 64 (b : Int)).toNat : Int) = _
  rw [BitVec.ofInt_natCast, BitVec.ofInt_natCast, BitVec.toNat_xor, BitVec.toNat_ofNat, BitVec.toNat_ofNat, Nat.mod_eq_of_lt (by omega), Nat.mod_eq_of_lt (by omega)]
  have : a ^^^ b < 256 := Nat.xor_lt_two_pow (n := 8) ha hb
  exact i64_id (by omega)
theorem pow_le8 {x : Nat} (h : x ≤ 8) : 2 ^ x ≤ 256 ∧ 0 < 2 ^ x := ⟨Nat.pow_le_pow_right (by omega : 0 < 2) (by omega : x ≤ 8), Nat.two_pow_pos x⟩
theorem w64_pow8 {x : Nat} (h : x ≤ 8) : wrap64 ((2 : Int) ^ x) = ((2 ^ x : Nat) : Int) := by
  have hp := (pow_le8 h).1
  have e : (2 : Int) ^ x = ((2 ^ x : Nat) : Int) := by rw [Int.natCast_pow]; rfl
  rw [e]
  clear e
  generalize 2 ^ x = b at hp ⊢
  unfold wrap64
  omega
theorem pow_cast (x : Nat) : (2 : Int) ^ x = ((2 ^ x : Nat) : Int) := by rw [Int.natCast_pow]; rfl
theorem left_start {m z : Nat} (hm : m ≤ 8) (hz : z < m) : bits .xor .i64 (wrap64 (wrap64 ((2 : Int) ^ m) - 1)) (wrap64 ((2 : Int) ^ z)) = (((2 ^ m - 1) ^^^ 2 ^ z : Nat) : Int) ∧ (2 ^ m - 1) ^^^ 2 ^ z < 256 := by
  have h1 := pow_le8 hm
  have h2 : 2 ^ z ≤ 128 := Nat.pow_le_pow_right (by omega : 0 < 2) (by omega : z ≤ 7)
  have e : wrap64 (wrap64 ((2 : Int) ^ m) - 1) = ((2 ^ m - 1 : Nat) : Int) := by rw [w64_pow8 hm, Int.natCast_sub h1.2]; generalize 2 ^ m = b at h1; unfold wrap64; omega
  rw [e, w64_pow8 (x := z) (by omega)]
  exact ⟨bits_xor_i64 (by omega) (by omega), Nat.xor_lt_two_pow (n := 8) (by omega) (by omega)⟩
theorem left_next {S y : Nat} (hS : S < 256) (hy : y < 8) : bits .xor .i64 (S : Int) (wrap64 ((2 : Int) ^ y)) = ((S ^^^ 2 ^ y : Nat) : Int) ∧ S ^^^ 2 ^ y < 256 := by
  have h2 : 2 ^ y ≤ 128 := Nat.pow_le_pow_right (by omega : 0 < 2) (by omega : y ≤ 7)
  rw [w64_pow8 (by omega)]
  exact ⟨bits_xor_i64 hS (by omega), Nat.xor_lt_two_pow (n := 8) hS (by omega)⟩
set_option maxRecDepth 100000 in
set_option maxHeartbeats 1000000 in
theorem specNearestOrder_any (s : Int) (a : Option Addr) (n c : Nat) (P R : Nat → Int) (b : Option Addr) (m d : Nat) (L : Nat → Nat → Nat) (f : Int) (w : World) (hs : -32768 ≤ s ∧ s ≤ 32767) (hn : n ≤ 1048576) (hP : I8 P) (hR : I8 R) (hh : HamAt w a n P R) (hm : m ≤ 1048576) (hL : L32 L) (hl : DrumsAt w b m L) (hf : -9223372036854775808 ≤ f ∧ f ≤ 9223372036854775807) :
    Calls Try.prog 64 #[.agg #[.int .i16 s, .slice a n c], .slice b m d, .int .i64 f] w fun e w' => ∃ v, e = .returned (.tuple #[v, .int .i64 (nrX s n P R m L f), .int .i64 (nrC s n P R m L f)]) ∧ Below w.heap.size w w' ∧ OwnI w' w.heap.size v (nrV s n P R m L f) := by
  have HP := Lib.hid hP; have HR := Lib.hid hR; have HL := Lib.hid hL
  clear hP hR hL
  have KB := Kp.base w
  have KH := kp_ham hh; have KL := kp_drums hl; clear hh hl
  replace KB := KB.alloc (.cells #[.int .i16 s, .slice a n c] 27)
  replace KH := KH.alloc (.cells #[.int .i16 s, .slice a n c] 27)
  replace KL := KL.alloc (.cells #[.int .i16 s, .slice a n c] 27)
  have KF := kp_new1 w #[.int .i16 s, .slice a n c] 27 (g := w.heap.size) (by simp)
  have HZ := Lib.hid (show (w.alloc (.cells #[.int .i16 s, .slice a n c] 27)).heap.size = w.heap.size + 1 by simp)
  go_enter Try.func64, Try.ntmps64
  go_wp2_with fail
  generalize (w.alloc (.cells #[.int .i16 s, .slice a n c] 27)) = W at KB KH KL KF HZ ⊢
  clear HZ
  refine (l05First_any w.heap.size s a n c P R b m d L f W hs hn HP.out HR.out KF.here KH.here hm KL.here).mono ?_
  rintro e w1 ⟨rfl, hb1⟩
  replace KB := KB.on hb1
  replace KL := KL.on hb1
  clear hb1
  have hbs := KB.here.size
  obtain ⟨x, hx⟩ : ∃ x, scode (okAll s n P R m L) m f = x := ⟨_, rfl⟩
  rw [hx]
  by_cases h0 : x = 0
  · subst h0
    obtain ⟨⟨_, hm8⟩, hfr, hm0⟩ := scode_zero hx
    by_cases hlow : f < 0
    · have HR1 := Lib.hid (nr_low hx hlow); clear hx
      have HN := Lib.hid (OwnI.nil w1 w.heap.size hbs)
      go_wp2
      go_ret3
      exact ⟨_, by rw [HR1.out.2.1, HR1.out.2.2]; rfl, (KB.alloc _).here, by rw [HR1.out.1]; exact HN.out⟩
    · have HR1 := Lib.hid (nr_yes hx hlow); clear hx
      obtain ⟨z, rfl⟩ : ∃ z : Nat, f = z := ⟨f.toNat, by omega⟩
      go_wp2_with fail
      refine (l05Table_any b m d L w1 hm8 HL.out KL.here).mono ?_
      rintro e w3 ⟨v, rfl, hb3, hv⟩
      replace KB := KB.on hb3
      replace KL := KL.on hb3
      have hbs3 := KB.here.size
      obtain ⟨tb, tc, rfl, htb⟩ := OwnT.at hv
      have KT := kp_tab htb; clear htb hv hb3
      have HO0 := Lib.hid (OwnI.one1 w3 w3.heap.size (z : Int) (Nat.le_refl _))
      rw [← nrL_zero (C := cN L) (n := m)] at HO0
      have hw1 := u64_nat m (by omega)
      have hw2 : min m 64 = m := by omega
      have hw3 := u64_nat z (by omega)
      have hw4 : min z 64 = z := by omega
      have hzm : z < m := by omega
      have hst := left_start hm8 hzm
      have HS0 := Lib.hid (leftS_first hzm)
      rw [← nrL_zero (C := cN L) (n := m)] at HS0
      go_wp2
      go_loopw [11, 12] (fun v t w' => Below w3.heap.size w3 w' ∧ ∃ k S : Nat, k < m ∧ OwnI w' w3.heap.size v (nrL (cN L) m z k) ∧ t = .int .i64 S ∧ S < 256 ∧ LeftS m S (nrL (cN L) m z k)) (fun v _ _ => m - slen v)
      case atStart => exact ⟨(Below.refl _ _).alloc (Nat.le_refl _) _, 0, (2 ^ m - 1) ^^^ 2 ^ z, hm0, HO0.out, rfl, hst.2, HS0.out⟩
      case round =>
        clear HO0 HS0 hst hw1 hw2 hw3 hw4
        obtain ⟨hb, k, S, hk, hown, rfl, hS8, hleft⟩ := hrel
        replace KB := KB.on hb
        replace KT := KT.on hb
        have hsz := hb.size
        have hin := nrL_in (C := cN L) (n := m) ⟨by omega, hfr.2⟩ k hk
        have hlen := nrL_len (C := cN L) (n := m) (f := z) k
        have hnext := nrL_next (C := cN L) (n := m) (f := z) k
        have hsucc := nrL_succ (C := cN L) (n := m) (f := z) k
        have hzero := left_zero (C := cN L) (f := (z : Int)) hk
        have hsome := left_some (C := cN L) (f := (z : Int)) ⟨by omega, hfr.2⟩ hk (S := S)
        obtain ⟨l, hl⟩ : ∃ l, nrL (cN L) m z k = l := ⟨_, rfl⟩
        rw [hl] at hown hin hlen hnext hsucc hleft hzero hsome
        have HL1 := Lib.hid hl; have HSUCC := Lib.hid hsucc; have HNEXT := Lib.hid hnext; have HIN := Lib.hid hin; have HLEFT := Lib.hid hleft; clear hl hsucc hnext hin hleft
        obtain ⟨vb, vc, rfl, hz⟩ := OwnI.at hown
        have KO := kp_OwnI hown; clear hown
        rw [hlen] at KO hz ⊢
        have HLEN := Lib.hid hlen; clear hlen
        obtain ⟨q, hq⟩ : ∃ q, k + 1 = q := ⟨_, rfl⟩
        rw [hq] at KO hz ⊢
        have q1 : IntKind.i64.wrap ((q : Int) - 1) = k := by rw [i64_id (by omega)]; omega
        by_cases hS0 : S = 0
        · subst hS0
          have hqm : q = m := by have := hzero HLEFT.out; omega
          clear hzero hsome
          subst hqm
          obtain rfl : k = q - 1 := by omega
          have HZI := Lib.hid (show ∀ i, i < q → 0 ≤ l.getD i 0 ∧ l.getD i 0 ≤ (q : Int) - 1 from fun i hi => HIN.out i (by omega))
          have hX := HR1.out.2.1
          rw [HL1.out] at hX
          have HXX := Lib.hid hX; clear hX
          go_wp2_with fail
          refine (sum_spec.l05Sum_any tb q tc L vb q vc (fun i => l.getD i 0) wr hm8 hm8 HZI.out KT.here hz).mono ?_
          rw [← HXX.out]
          rintro e w4 ⟨rfl, hb4⟩
          replace KB := KB.on hb4
          replace KO := KO.on hb4
          go_wp2
          go_ret3
          refine ⟨.slice vb q vc, ?_, KB.here, ?_⟩
          · rw [HR1.out.2.2]; rfl
          · rw [HR1.out.1, HL1.out]; exact KO.here.mono hbs3
        · have hlt : q < m := by have := hsome HLEFT.out hS0; omega
          clear hzero hsome
          have hS0' : ((S : Int) != 0) = true := by simp; omega
          have hlt' : (q : Int) < m := by omega
          have hx := IntAt.get hz (show 0 < q by omega)
          obtain ⟨gz, oz, rfl, hgz, hcz⟩ := hx
          have cz := hcz k (by omega)
          have hzk := HIN.out k (Nat.le_refl _)
          obtain ⟨x, hxz⟩ : ∃ x : Nat, l.getD k 0 = x := ⟨(l.getD k 0).toNat, by omega⟩
          rw [hxz] at cz hzk
          have HX := Lib.hid hxz; clear hxz hcz hz
          have hxm : x < m := by omega
          have hxm' : (x : Int) < m := by omega
          go_wp2
          obtain ⟨U, rfl⟩ : ∃ U, U = wr := ⟨wr, rfl⟩
          go_loopw [14, 15] (fun best i w' => Below U.heap.size U w' ∧ ∃ j : Nat, j ≤ m ∧ i = .int .i64 j ∧ best = .int .i64 (nxS (cN L x) l j)) (fun _ i _ => m - (intOf i).toNat)
          case atStart => exact ⟨Below.refl _ _, 0, by omega, rfl, by rw [nxS_zero]⟩
          case round =>
            obtain ⟨hb1, j, hj, rfl, rfl⟩ := hrel
            have KT1 := KT.on hb1
            have KO1 := KO.on hb1
            have hbd := nxS_bound (C := cN L x) (l := l) j
            by_cases hltj : j < m
            · have hltj' : (j : Int) < m := by omega
              have hx := TabAt.get KT1.here (show 0 < m by omega)
              obtain ⟨g, off, rfl, hg, hc⟩ := hx
              obtain ⟨rb, rc, c0, hi⟩ := hc x hxm
              have hx := IntAt.get hi (show 0 < m by omega)
              obtain ⟨gr, or, rfl, hgr, hcr⟩ := hx
              have c1 := hcr j hltj
              have HCR := Lib.hid hcr
              clear hc hi hcr
              have hw1 := u64_nat j (by omega)
              have hw2 : min j 64 = j := by omega
              have hbt := seen_bit (S := S) (x := j)
              have hlj := HLEFT.out j
              rw [decide_eq_true hltj, Bool.true_and] at hlj
              rw [hlj] at hbt
              clear hlj
              have hyes := nxS_yes (C := cN L x) (l := l) (i := j)
              have hinn := nxS_in (C := cN L x) (l := l) (i := j)
              have hfar := nxS_far (C := cN L x) (l := l) (i := j)
              obtain ⟨t, ht⟩ : ∃ t, nxS (cN L x) l j = t := ⟨_, rfl⟩
              rw [ht] at hbd hyes hinn hfar ⊢
              have HY := Lib.hid hyes; have HI := Lib.hid hinn; have HF := Lib.hid hfar; have HT := Lib.hid ht
              clear hyes hinn hfar ht
              cases hin : inL l j
              · rw [hin] at hbt
                have HIN2 := Lib.hid hin; clear hin
                by_cases h1 : t < 0
                · go_wp2
                  go_quiet (fail)
                  go_wp2
                  go_roundw
                  case rel => exact ⟨below_drewN hb1 _, j + 1, by omega, by go_num, by rw [HY.out HIN2.out (.inl h1)]⟩
                  case measure => simp [intOf]; omega
                · obtain ⟨y, rfl⟩ : ∃ y : Nat, t = y := ⟨t.toNat, by omega⟩
                  have hym : y < m := by omega
                  have hym' : (y : Int) < m := by omega
                  have c2 := HCR.out y hym
                  by_cases h2 : cN L x j < cN L x y
                  · go_wp2
                    go_quiet (fail)
                    go_wp2
                    go_roundw
                    case rel => exact ⟨below_drewN hb1 _, j + 1, by omega, by go_num, by rw [HY.out HIN2.out (.inr (by simpa using h2))]⟩
                    case measure => simp [intOf]; omega
                  · go_wp2
                    go_quiet (fail)
                    go_wp2
                    go_roundw
                    case rel => exact ⟨below_drewN hb1 _, j + 1, by omega, by go_num, by rw [HF.out (fun h => by rw [Int.toNat_natCast] at h; rcases h with h | h <;> omega)]⟩
                    case measure => simp [intOf]; omega
              · rw [hin] at hbt
                have HIN2 := Lib.hid hin; clear hin
                go_wp2
                go_quiet (fail)
                go_wp2
                go_roundw
                case rel => exact ⟨below_drewN hb1 _, j + 1, by omega, by go_num, by rw [HI.out HIN2.out]⟩
                case measure => simp [intOf]; omega
            · have hjm : m = j := by omega
              subst hjm
              have hn2 := HNEXT.out (by omega)
              have hs2 := HSUCC.out
              rw [HX.out, Int.toNat_natCast] at hn2 hs2
              obtain ⟨y, hy, hym, hfree⟩ := hn2
              rw [hy] at hs2 ⊢
              have HY := Lib.hid hs2; have HFREE := Lib.hid hfree; clear hy hs2 hfree
              have hb2 := hb.trans (hb1.mono hsz)
              have hsz2 := hb2.size
              have HO1 := Lib.hid KO1.here
              have hw1 := u64_nat y (by omega)
              have hw2 : min y 64 = y := by omega
              have hnx := left_next hS8 (show y < 8 by omega)
              have HLN := Lib.hid (leftS_next HLEFT.out hym HFREE.out)
              go_wp2_with (at_builtin; refine append_int rfl _ _ rfl w3.heap.size _ l rfl (HO1.out.alloc _) wr.heap.size (y : Int) rfl (by simp) (by rw [HLEN.out]; omega) (by simp; omega) ?_; intro v2 w7 hown2 hb4; have HO3 := Lib.hid hown2; have HB3 := Lib.hid hb4; clear hown2 hb4)
              go_roundw
              case rel => exact ⟨(hb2.alloc hsz2 _).trans HB3.out, k + 1, S ^^^ 2 ^ y, by omega, by rw [HY.out]; exact HO3.out, rfl, hnx.2, by rw [HY.out]; exact HLN.out⟩
              case measure =>
                obtain ⟨b2, c2, rfl, _⟩ := OwnI.at HO3.out
                have := HLEN.out
                simp [slen_slice]; omega
  · have HR1 := Lib.hid (nr_bad hx h0); clear hx
    have HN := Lib.hid (OwnI.nil w1 w.heap.size hbs)
    go_wp2
    go_ret3
    exact ⟨_, by rw [HR1.out.2.1, HR1.out.2.2]; rfl, (KB.alloc _).here, by rw [HR1.out.1]; exact HN.out⟩
end Go.Proofs.Ytkefjgbcpoggiaa
