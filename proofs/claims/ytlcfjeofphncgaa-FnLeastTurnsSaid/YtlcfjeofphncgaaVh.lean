/- FnLeastTurns: what is drawn, as data; equal lists; bounds. No conditions. -/
import Derived.Test.YtlcfjeofphncgaaVg
import Derived.Test.YtlcfjeofphncgaaVa
import Derived.Test.YtlcfjeofphncgaaLq
import Derived.Test.YtlcfjeofphncgaaSt
import Derived.Outline
namespace Go.Proofs.Ytlcfjeofphncgaa
open Go.RowKit
set_option linter.unusedVariables false
set_option linter.unusedSimpArgs false

theorem BytIn.mono {w : World} {N M : Nat} {a : Option Addr} {n : Nat} {B : Nat → Int} (h : BytIn w N a n B) (hm : N ≤ M) : BytIn w M a n B := fun hn => by
  obtain ⟨ad, e, h1, h2⟩ := h hn
  exact ⟨ad, e, Nat.lt_of_lt_of_le h1 hm, h2⟩
/-- a frame that is drawn, by its data -/
theorem dataFrame_22_any (a : Option Addr) (n c : Nat) (B : Nat → Int) (w : World) (hn : n ≤ 1000000000000) (hu : U8 B) (hb : BytIn w w.heap.size a n B) :
    Calls Try.prog 22 #[.slice a n c] w fun e w' => ∃ s b m d P R, e = .returned (.agg #[.int .i16 s, .slice b m d]) ∧ (4 ≤ s ∧ s ≤ 17) ∧ (1 ≤ m ∧ m ≤ 5) ∧ I8 P ∧ I8 R ∧ vFrame s m P R = true ∧ HamAt w' b m P R ∧ Below w.heap.size w w' := by
  refine (drawFrame_22_any a n c B w hn hu hb).mono ?_
  rintro e w' ⟨⟨s, b, d, L, rfl, hs, hl, hd, ho⟩, hb⟩
  exact ⟨s, b, L.length, d, _, _, rfl, hs, hl, hd.i8.1, hd.i8.2, hd.frame hs hl, OwnH.readAt ho, hb⟩
/-- a frame that is drawn, by its data -/
theorem dataFrame_6_any (a : Option Addr) (n c : Nat) (B : Nat → Int) (w : World) (hn : n ≤ 1000000000000) (hu : U8 B) (hb : BytIn w w.heap.size a n B) :
    Calls Try.prog 6 #[.slice a n c] w fun e w' => ∃ s b m d P R, e = .returned (.agg #[.int .i16 s, .slice b m d]) ∧ (4 ≤ s ∧ s ≤ 17) ∧ (1 ≤ m ∧ m ≤ 5) ∧ I8 P ∧ I8 R ∧ vFrame s m P R = true ∧ HamAt w' b m P R ∧ Below w.heap.size w w' := by
  refine (drawFrame_6_any a n c B w hn hu hb).mono ?_
  rintro e w' ⟨⟨s, b, d, L, rfl, hs, hl, hd, ho⟩, hb⟩
  exact ⟨s, b, L.length, d, _, _, rfl, hs, hl, hd.i8.1, hd.i8.2, hd.frame hs hl, OwnH.readAt ho, hb⟩
/-- a programme that is drawn, by its data -/
theorem dataProgramme_any (a : Option Addr) (n c : Nat) (B : Nat → Int) (s : Int) (fa : Option Addr) (fn fc : Nat) (w : World) (hn : n ≤ 1000000000000) (hu : U8 B) (hb : BytIn w w.heap.size a n B) (hss : 4 ≤ s ∧ s ≤ 17) :
    Calls Try.prog 23 #[.slice a n c, .agg #[.int .i16 s, .slice fa fn fc]] w fun e w' => ∃ b m d F T O, e = .returned (.agg (pc b m d O)) ∧ m ≤ 5 ∧ I16 F ∧ I16 T ∧ I8 O ∧ vSecs s m F T = true ∧ vOrd m O = true ∧ SecAt w' b m F T ∧ Below w.heap.size w w' := by
  refine (p6Programme_any a n c B s fa fn fc w hn hu hb hss).mono ?_
  rintro e w' ⟨⟨b, d, L, O, e2, rfl, hl, hd, hod, ho⟩, hb⟩
  exact ⟨b, L.length, d, _, _, O, rfl, hl, (hd.i16 (by omega)).1, (hd.i16 (by omega)).2, hod.i8, hd.secs hl, hod.ord, OwnS.readAt ho, hb⟩
theorem f6big_any (a : Option Addr) (n c : Nat) (w : World) (h : (n : Int) ≤ 4096) : Calls Try.prog 21 #[.slice a n c] w fun e w' => e = .returned (.bool false) ∧ w = w' := by
  have h : ¬ (4096 : Int) < n := by omega
  go_enter Try.func21, Try.ntmps21
  go_wp2
  go_ret
  exact ⟨rfl, rfl⟩
set_option maxRecDepth 100000 in
theorem l00Same_any (a b : Option Addr) (n c d : Nat) (Z : Nat → Int) (w : World) (hn : n ≤ 1000000000) (ha : IntAt w a n Z) (hb : IntAt w b n Z) :
    Calls Try.prog 45 #[.slice a n c, .slice b n d] w fun e w' => e = .returned (.bool true) ∧ Below w.heap.size w w' := by
  have KA := kp_int ha; have KB := kp_int hb; clear ha hb
  have hnn : ((n : Int) != (n : Int)) = false := by simp
  go_enter Try.func45, Try.ntmps45
  go_wp2
  go_loopw [5] (fun i w' => Below w.heap.size w w' ∧ ∃ k : Nat, k ≤ n ∧ i = .int .i64 k) (fun i _ => n - (intOf i).toNat)
  case atStart => exact ⟨Below.refl _ _, 0, by omega, rfl⟩
  case round =>
    clear hnn
    obtain ⟨hb, k, hk, rfl⟩ := hrel
    replace KA := KA.on hb
    replace KB := KB.on hb
    by_cases hlt : k < n
    · have hk' : (k : Int) < n := by omega
      obtain ⟨g, off, rfl, hg, hc⟩ := IntAt.get KA.here (show 0 < n by omega)
      obtain ⟨g2, off2, rfl, hg2, hc2⟩ := IntAt.get KB.here (show 0 < n by omega)
      have c0 := hc k hlt
      have c1 := hc2 k hlt
      clear hc hc2
      have hne : (Z k != Z k) = false := by simp
      have q1 := i64_id (x := (k : Int) + 1) (by omega)
      go_wp2
      go_quiet (fail)
      go_wp2
      go_roundw
      case rel => exact ⟨below_drewN hb _, k + 1, by omega, by go_num⟩
      case measure => simp [intOf]; omega
    · go_wp2
      go_ret
      exact ⟨rfl, hb⟩
set_option maxRecDepth 100000 in
theorem same_27_any (a b : Option Addr) (n c d : Nat) (Z : Nat → Int) (w : World) (hn : n ≤ 1000000000) (ha : IntAt w a n Z) (hb : IntAt w b n Z) :
    Calls Try.prog 27 #[.slice a n c, .slice b n d] w fun e w' => e = .returned (.bool true) ∧ Below w.heap.size w w' := by
  go_enter Try.func27, Try.ntmps27
  go_wp2_with (go_at_call 45; refine (l00Same_any a b n c d Z _ hn ha hb).mono ?_; rintro e w2 ⟨rfl, hb2⟩)
  go_ret
  exact ⟨rfl, hb2⟩
set_option maxRecDepth 100000 in
theorem same_15_any (a b : Option Addr) (n c d : Nat) (Z : Nat → Int) (w : World) (hn : n ≤ 1000000000) (ha : IntAt w a n Z) (hb : IntAt w b n Z) :
    Calls Try.prog 15 #[.slice a n c, .slice b n d] w fun e w' => e = .returned (.bool true) ∧ Below w.heap.size w w' := by
  go_enter Try.func15, Try.ntmps15
  go_wp2_with (go_at_call 45; refine (l00Same_any a b n c d Z _ hn ha hb).mono ?_; rintro e w2 ⟨rfl, hb2⟩)
  go_ret
  exact ⟨rfl, hb2⟩
section
variable {s : Int} {m : Nat} {F T O : Nat → Int}
theorem sdL_okS {k : Nat} (h : ∀ j, j < k → -1 ≤ O j ∧ O j ≤ (m : Int) - 1) : ∀ i, i < (sdL O k).length → 0 ≤ (sdL O k).getD i 0 ∧ (sdL O k).getD i 0 ≤ (m : Int) - 1 := by
  intro i hi
  rw [List.getD, List.getElem?_eq_getElem hi]
  exact sdL_in h _ (List.getElem_mem hi)
theorem dyT_bound (hs : 2 ≤ s ∧ s ≤ 96) (hsec : ∀ k, k < m → 0 ≤ F k ∧ F k < s ∧ 1 ≤ T k ∧ F k + T k ≤ s) (hord : ∀ k, k < 48 → -1 ≤ O k ∧ O k ≤ (m : Int) - 1) {k : Nat} (hk : k ≤ 48) : 0 ≤ dyT s F T O k ∧ dyT s F T O k ≤ 10000 := by
  have h1 := plTo_bound (Z := fun i => (sdL O k).getD i 0) hs hsec (sdL O k).length (sdL_okS fun j hj => hord j (by omega))
  have h2 := sdL_len O k
  rw [← dyT_def] at h1
  omega
theorem rtT_bound (hs : 2 ≤ s ∧ s ≤ 96) (hsec : ∀ k, k < m → 0 ≤ F k ∧ F k < s ∧ 1 ≤ T k ∧ F k + T k ≤ s) {l : List Int} (hl : l.length = m) (hm : m ≤ 12) (hok : okL m l) {j k : Nat} (hk : k ≤ m) : 0 ≤ rtT s F T l j k ∧ rtT s F T l j k ≤ 10000 := by
  have h1 := plTo_bound (Z := fun i => l.getD ((i + j) % l.length) 0) hs hsec k fun i hi => hok _ (Nat.mod_lt _ (by omega))
  rw [← rtT_def] at h1
  omega
theorem st_hit (f t : Int) (hf : 0 ≤ f ∧ f < s) : (t + stT s f t) % s = f := by
  rw [stT_def, Int.add_emod_emod, show t + (f - t + s) = f + s by omega, Int.add_emod_right]
  exact Int.emod_eq_of_lt hf.1 hf.2
end
end Go.Proofs.Ytlcfjeofphncgaa
