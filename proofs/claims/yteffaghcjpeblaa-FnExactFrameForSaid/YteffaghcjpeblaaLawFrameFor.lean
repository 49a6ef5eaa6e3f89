/- The law FnExactFrameFor: the walk, printed by lawgen.py. No conditions. -/
import Derived.Test.YteffaghcjpeblaaKp
import Derived.Test.YteffaghcjpeblaaFi
import Derived.Test.YteffaghcjpeblaaMk1
import Derived.Test.YteffaghcjpeblaaInt
import Derived.Test.YteffaghcjpeblaaNote
import Derived.Outline
namespace Go.Proofs.Yteffaghcjpeblaa
open Go.RowKit
set_option linter.unusedVariables false
set_option linter.unusedSimpArgs false

set_option maxRecDepth 100000 in
set_option maxHeartbeats 4000000 in
theorem lawFrameFor (x0 : Int) (x1 : Int) (a2 : Option Addr) (n2 c2 : Nat) (A2 P2 : Nat → Int) (w : World) (hx0 : -9223372036854775808 ≤ x0 ∧ x0 ≤ 9223372036854775807) (hx1 : -9223372036854775808 ≤ x1 ∧ x1 ≤ 9223372036854775807) (hn2 : n2 ≤ 9223372036854775807) (hA2 : I16 A2) (hP2 : I8 P2) (hh2 : NoteIn w a2 n2 A2 P2) :
    Calls Try.prog 3 #[.int .i64 x0, .int .i64 x1, .slice a2 n2 c2] w fun e w' => e = .returned (.bool true) ∧ Below w.heap.size w w' := by
  have HA2 := Lib.hid hA2; clear hA2
  have HP2 := Lib.hid hP2; clear hP2
  have KB := Kp.base w
  have KH2 := kp_noteIn hh2; clear hh2
  go_enter Try.func3, Try.ntmps3
  go_wp2_with fail
  refine (szTune_kp a2 n2 c2 (1048576) _ (by omega) (by omega)).mono ?_
  rintro e w2 ⟨rfl, hb1⟩
  replace KB := KB.on hb1
  replace KH2 := KH2.on hb1
  by_cases hlw2 : (1048576 : Int) < n2
  · rw [szOf_lt hlw2]
    go_wp2_with fail
    go_ret
    exact ⟨rfl, KB.here⟩
  rw [szOf_ge (by omega)]
  go_wp2_with fail
  refine (toTune_kp a2 n2 c2 A2 P2 _ (by omega) (KH2.here)).mono ?_
  rintro e w4 ⟨b5, rfl, hb3, KX6⟩
  replace KB := KB.on hb3
  replace KH2 := KH2.on hb3
  go_wp2_with fail
  obtain ⟨r0, hr0⟩ : ∃ r, r = ffL x0 x1 n2 A2 P2 := ⟨_, rfl⟩
  obtain ⟨r1, hr1⟩ : ∃ r, r = ffC x0 x1 n2 A2 P2 := ⟨_, rfl⟩
  obtain ⟨rs0, hrs0⟩ : ∃ s, s = ffS x0 x1 n2 A2 P2 := ⟨_, rfl⟩
  have hlr0 : r0.length ≤ 1000000 := by rw [hr0]; apply ffL_len
  refine (specFrameFor_any x0 x1 b5 n2 n2 A2 P2 _ hx0 hx1 (by omega) HA2.out HP2.out (KX6.here)).mono ?_
  rw [← hr0, ← hr1, ← hrs0]
  rintro e w8 ⟨v9, rfl, hb7, ho10⟩
  have HR_0 := Lib.hid hr0; clear hr0
  have HR_1 := Lib.hid hr1; clear hr1
  have HRS_0 := Lib.hid hrs0; clear hrs0
  obtain ⟨b11, c12, rfl, hz13⟩ := OwnH.at ho10
  have KW14 := kp_ham hz13; clear hz13 ho10
  replace KB := KB.on hb7
  replace KH2 := KH2.on hb7
  replace KX6 := KX6.on hb7
  replace KB := KB.alloc (.cells #[.int .i16 rs0, .slice b11 r0.length c12] 27)
  replace KH2 := KH2.alloc (.cells #[.int .i16 rs0, .slice b11 r0.length c12] 27)
  replace KX6 := KX6.alloc (.cells #[.int .i16 rs0, .slice b11 r0.length c12] 27)
  replace KW14 := KW14.alloc (.cells #[.int .i16 rs0, .slice b11 r0.length c12] 27)
  have KR16 := kp_new1 w8 #[.int .i16 rs0, .slice b11 r0.length c12] 27 (g := w8.heap.size) rfl
  go_wp2_with (first | (with_reducible refine load_iframe rfl _ rfl (w8.heap.size) rfl _ rs0 b11 r0.length c12 KR16.here ?_) | (with_reducible refine load_Gf (ex_load_iframe _ rfl (w8.heap.size) rfl _ rs0 b11 r0.length c12 KR16.here) rfl ?_))
  generalize (w8.alloc (.cells #[.int .i16 rs0, .slice b11 r0.length c12] 27)) = w17 at KB KH2 KX6 KW14 KR16 ⊢
  replace KB := KB.fix
  replace KH2 := KH2.fix
  replace KX6 := KX6.fix
  replace KW14 := KW14.fix
  replace KR16 := KR16.fix
  refine (toTune_own a2 n2 c2 A2 P2 _ (by omega) (KH2.here)).mono ?_
  rintro e w19 ⟨b20, rfl, hb18, KX21, xs25, KO22⟩
  have hlt23 := (KO22.here).lt; have hsz24 := hb18.size
  replace KB := KB.on hb18
  replace KH2 := KH2.on hb18
  replace KX6 := KX6.on hb18
  replace KW14 := KW14.on hb18
  replace KR16 := KR16.on hb18
  go_wp2_with (first | (with_reducible refine load_iframe rfl _ rfl (w8.heap.size) rfl _ rs0 b11 r0.length c12 KR16.here ?_) | (with_reducible refine load_Gf (ex_load_iframe _ rfl (w8.heap.size) rfl _ rs0 b11 r0.length c12 KR16.here) rfl ?_))
  refine (implFrameFor_any x0 x1 b20 n2 n2 A2 P2 _ hx0 hx1 (by omega) HA2.out HP2.out (KX21.here)).mono ?_
  rw [← HR_0.out, ← HR_1.out, ← HRS_0.out]
  rintro e w27 ⟨v28, rfl, hb26, ho29⟩
  obtain ⟨b30, c31, rfl, hz32⟩ := OwnH.at ho29
  have hlt34 := ho29.lt; have KG33 := kp_OwnH ho29; clear hz32
  clear ho29
  have hsz35 := hb26.size
  have hsz36 := hb26.size
  replace KB := KB.on hb26
  replace KH2 := KH2.on hb26
  replace KX6 := KX6.on hb26
  replace KW14 := KW14.on hb26
  replace KR16 := KR16.on hb26
  replace KX21 := KX21.on hb26
  replace KO22 := KO22.on hb26
  replace KB := KB.alloc (.cells #[.int .i16 rs0, .slice b30 r0.length c31] 27)
  replace KH2 := KH2.alloc (.cells #[.int .i16 rs0, .slice b30 r0.length c31] 27)
  replace KX6 := KX6.alloc (.cells #[.int .i16 rs0, .slice b30 r0.length c31] 27)
  replace KW14 := KW14.alloc (.cells #[.int .i16 rs0, .slice b30 r0.length c31] 27)
  replace KR16 := KR16.alloc (.cells #[.int .i16 rs0, .slice b30 r0.length c31] 27)
  replace KX21 := KX21.alloc (.cells #[.int .i16 rs0, .slice b30 r0.length c31] 27)
  replace KO22 := KO22.alloc (.cells #[.int .i16 rs0, .slice b30 r0.length c31] 27)
  replace KG33 := KG33.alloc (.cells #[.int .i16 rs0, .slice b30 r0.length c31] 27)
  have KR38 := kp_new1 w27 #[.int .i16 rs0, .slice b30 r0.length c31] 27 (g := w27.heap.size) rfl
  go_wp2_with (first | (with_reducible refine load_iframe rfl _ rfl (w8.heap.size) rfl _ rs0 b11 r0.length c12 KR16.here ?_) | (with_reducible refine load_Gf (ex_load_iframe _ rfl (w8.heap.size) rfl _ rs0 b11 r0.length c12 KR16.here) rfl ?_) | (with_reducible refine load_iframe rfl _ rfl (w27.heap.size) rfl _ rs0 b30 r0.length c31 KR38.here ?_) | (with_reducible refine load_Gf (ex_load_iframe _ rfl (w27.heap.size) rfl _ rs0 b30 r0.length c31 KR38.here) rfl ?_))
  generalize (w27.alloc (.cells #[.int .i16 rs0, .slice b30 r0.length c31] 27)) = w39 at KB KH2 KX6 KW14 KR16 KX21 KO22 KG33 KR38 ⊢
  refine (eqFrame_kp rs0 b30 b11 r0.length c31 c12 (fun i => (r0.getD i (0, 0)).1) (fun i => (r0.getD i (0, 0)).2) _ (by omega) (KG33.here).readAt (KW14.here)).mono ?_
  rintro e w41 ⟨rfl, hb40⟩
  replace KB := KB.on hb40
  replace KH2 := KH2.on hb40
  replace KX6 := KX6.on hb40
  replace KW14 := KW14.on hb40
  replace KR16 := KR16.on hb40
  replace KX21 := KX21.on hb40
  replace KO22 := KO22.on hb40
  replace KG33 := KG33.on hb40
  replace KR38 := KR38.on hb40
  go_wp2_with (first | (with_reducible refine load_iframe rfl _ rfl (w8.heap.size) rfl _ rs0 b11 r0.length c12 KR16.here ?_) | (with_reducible refine load_Gf (ex_load_iframe _ rfl (w8.heap.size) rfl _ rs0 b11 r0.length c12 KR16.here) rfl ?_) | (with_reducible refine load_iframe rfl _ rfl (w27.heap.size) rfl _ rs0 b30 r0.length c31 KR38.here ?_) | (with_reducible refine load_Gf (ex_load_iframe _ rfl (w27.heap.size) rfl _ rs0 b30 r0.length c31 KR38.here) rfl ?_))
  refine (toTune_kp a2 n2 c2 A2 P2 _ (by omega) (KH2.here)).mono ?_
  rintro e w43 ⟨b44, rfl, hb42, KX45⟩
  replace KB := KB.on hb42
  replace KH2 := KH2.on hb42
  replace KX6 := KX6.on hb42
  replace KW14 := KW14.on hb42
  replace KR16 := KR16.on hb42
  replace KX21 := KX21.on hb42
  replace KO22 := KO22.on hb42
  replace KG33 := KG33.on hb42
  replace KR38 := KR38.on hb42
  go_wp2_with (first | (with_reducible refine load_iframe rfl _ rfl (w8.heap.size) rfl _ rs0 b11 r0.length c12 KR16.here ?_) | (with_reducible refine load_Gf (ex_load_iframe _ rfl (w8.heap.size) rfl _ rs0 b11 r0.length c12 KR16.here) rfl ?_) | (with_reducible refine load_iframe rfl _ rfl (w27.heap.size) rfl _ rs0 b30 r0.length c31 KR38.here ?_) | (with_reducible refine load_Gf (ex_load_iframe _ rfl (w27.heap.size) rfl _ rs0 b30 r0.length c31 KR38.here) rfl ?_))
  refine (eqTune_kp _ _ n2 n2 n2 A2 P2 _ (by omega) (KX21.here) (KX45.here)).mono ?_
  rintro e w47 ⟨rfl, hb46⟩
  replace KB := KB.on hb46
  replace KH2 := KH2.on hb46
  replace KX6 := KX6.on hb46
  replace KW14 := KW14.on hb46
  replace KR16 := KR16.on hb46
  replace KX21 := KX21.on hb46
  replace KO22 := KO22.on hb46
  replace KG33 := KG33.on hb46
  replace KR38 := KR38.on hb46
  replace KX45 := KX45.on hb46
  go_wp2_with (first | (with_reducible refine load_iframe rfl _ rfl (w8.heap.size) rfl _ rs0 b11 r0.length c12 KR16.here ?_) | (with_reducible refine load_Gf (ex_load_iframe _ rfl (w8.heap.size) rfl _ rs0 b11 r0.length c12 KR16.here) rfl ?_) | (with_reducible refine load_iframe rfl _ rfl (w27.heap.size) rfl _ rs0 b30 r0.length c31 KR38.here ?_) | (with_reducible refine load_Gf (ex_load_iframe _ rfl (w27.heap.size) rfl _ rs0 b30 r0.length c31 KR38.here) rfl ?_))
  refine (markTune_own w17.heap.size _ n2 _ 1 _ (by omega) (by omega) (KO22.here)).mono ?_
  rintro e w49 ⟨rfl, hg50, _⟩
  obtain ⟨q52, hq52⟩ : ∃ q : Nat, 1 + n2 * 2 = q := ⟨_, rfl⟩
  rw [hq52]; have hq52b : q52 ≤ 110000000 := by omega
  clear hq52
  replace KB := KB.grown hg50 (fun k hk => by have := hlt23 k hk; omega)
  replace KH2 := KH2.grown hg50 (fun k hk => by have := hlt23 k hk; omega)
  replace KX6 := KX6.grown hg50 (fun k hk => by have := hlt23 k hk; omega)
  replace KW14 := KW14.grown hg50 (fun k hk => by have := hlt23 k hk; omega)
  replace KR16 := KR16.grown hg50 (fun k hk => by have := hlt23 k hk; omega)
  have hr := own_grown (KG33.here) hg50 (fun k hk => by have := hlt23 k hk; omega); replace KG33 := kp_OwnH hr; clear hr
  have hr := row_grown (KR38.here) hg50 (fun k hk => by have := hlt23 k hk; omega); replace KR38 := kp_row hr; clear hr
  clear KX21 KO22 KX45
  clear hg50
  go_wp2_with (first | (with_reducible refine load_iframe rfl _ rfl (w8.heap.size) rfl _ rs0 b11 r0.length c12 KR16.here ?_) | (with_reducible refine load_Gf (ex_load_iframe _ rfl (w8.heap.size) rfl _ rs0 b11 r0.length c12 KR16.here) rfl ?_) | (with_reducible refine load_iframe rfl _ rfl (w27.heap.size) rfl _ rs0 b30 r0.length c31 KR38.here ?_) | (with_reducible refine load_Gf (ex_load_iframe _ rfl (w27.heap.size) rfl _ rs0 b30 r0.length c31 KR38.here) rfl ?_))
  refine (eqFrame_kp rs0 b30 b11 r0.length c31 c12 (fun i => (r0.getD i (0, 0)).1) (fun i => (r0.getD i (0, 0)).2) _ (by omega) (KG33.here).readAt (KW14.here)).mono ?_
  rintro e w54 ⟨rfl, hb53⟩
  replace KB := KB.on hb53
  replace KH2 := KH2.on hb53
  replace KX6 := KX6.on hb53
  replace KW14 := KW14.on hb53
  replace KR16 := KR16.on hb53
  replace KG33 := KG33.on hb53
  replace KR38 := KR38.on hb53
  go_wp2_with (first | (with_reducible refine load_iframe rfl _ rfl (w8.heap.size) rfl _ rs0 b11 r0.length c12 KR16.here ?_) | (with_reducible refine load_Gf (ex_load_iframe _ rfl (w8.heap.size) rfl _ rs0 b11 r0.length c12 KR16.here) rfl ?_) | (with_reducible refine load_iframe rfl _ rfl (w27.heap.size) rfl _ rs0 b30 r0.length c31 KR38.here ?_) | (with_reducible refine load_Gf (ex_load_iframe _ rfl (w27.heap.size) rfl _ rs0 b30 r0.length c31 KR38.here) rfl ?_))
  refine (markFrame_own w19.heap.size rs0 b30 r0.length c31 _ 1 _ (by omega) (by omega) (KG33.here)).mono ?_
  rintro e w56 ⟨rfl, hg57, ho58⟩
  obtain ⟨q59, hq59⟩ : ∃ q : Nat, 1 + r0.length * 2 = q := ⟨_, rfl⟩
  rw [hq59]; have HQ60 := Lib.hid hq59; have hq59b : q59 ≤ 5000000 := by omega
  clear hq59
  replace KB := KB.grown hg57 (fun k hk => by have := hlt34 k hk; omega)
  replace KH2 := KH2.grown hg57 (fun k hk => by have := hlt34 k hk; omega)
  replace KX6 := KX6.grown hg57 (fun k hk => by have := hlt34 k hk; omega)
  replace KW14 := KW14.grown hg57 (fun k hk => by have := hlt34 k hk; omega)
  replace KR16 := KR16.grown hg57 (fun k hk => by have := hlt34 k hk; omega)
  have hr := row_grown (KR38.here) hg57 (fun k hk => by have := hlt34 k hk; omega); replace KR38 := kp_row hr; clear hr
  have KG33m := kp_ownR ho58; clear ho58 hg57
  go_wp2_with (first | (with_reducible refine load_iframe rfl _ rfl (w8.heap.size) rfl _ rs0 b11 r0.length c12 KR16.here ?_) | (with_reducible refine load_Gf (ex_load_iframe _ rfl (w8.heap.size) rfl _ rs0 b11 r0.length c12 KR16.here) rfl ?_) | (with_reducible refine load_iframe rfl _ rfl (w27.heap.size) rfl _ rs0 b30 r0.length c31 KR38.here ?_) | (with_reducible refine load_Gf (ex_load_iframe _ rfl (w27.heap.size) rfl _ rs0 b30 r0.length c31 KR38.here) rfl ?_))
  refine (heldFrame_own w19.heap.size rs0 b30 r0.length c31 1 _ (by omega) (by omega) (KG33m.here)).mono ?_
  rintro e w62 ⟨rfl, hb61⟩
  rw [HQ60.out]
  replace KB := KB.on hb61
  replace KH2 := KH2.on hb61
  replace KX6 := KX6.on hb61
  replace KW14 := KW14.on hb61
  replace KR16 := KR16.on hb61
  replace KR38 := KR38.on hb61
  replace KG33m := KG33m.on hb61
  go_wp2_with (first | (with_reducible refine load_iframe rfl _ rfl (w8.heap.size) rfl _ rs0 b11 r0.length c12 KR16.here ?_) | (with_reducible refine load_Gf (ex_load_iframe _ rfl (w8.heap.size) rfl _ rs0 b11 r0.length c12 KR16.here) rfl ?_) | (with_reducible refine load_iframe rfl _ rfl (w27.heap.size) rfl _ rs0 b30 r0.length c31 KR38.here ?_) | (with_reducible refine load_Gf (ex_load_iframe _ rfl (w27.heap.size) rfl _ rs0 b30 r0.length c31 KR38.here) rfl ?_))
  refine (toTune_kp a2 n2 c2 A2 P2 _ (by omega) (KH2.here)).mono ?_
  rintro e w64 ⟨b65, rfl, hb63, KX66⟩
  replace KB := KB.on hb63
  replace KH2 := KH2.on hb63
  replace KX6 := KX6.on hb63
  replace KW14 := KW14.on hb63
  replace KR16 := KR16.on hb63
  replace KR38 := KR38.on hb63
  replace KG33m := KG33m.on hb63
  go_wp2_with (first | (with_reducible refine load_iframe rfl _ rfl (w8.heap.size) rfl _ rs0 b11 r0.length c12 KR16.here ?_) | (with_reducible refine load_Gf (ex_load_iframe _ rfl (w8.heap.size) rfl _ rs0 b11 r0.length c12 KR16.here) rfl ?_) | (with_reducible refine load_iframe rfl _ rfl (w27.heap.size) rfl _ rs0 b30 r0.length c31 KR38.here ?_) | (with_reducible refine load_Gf (ex_load_iframe _ rfl (w27.heap.size) rfl _ rs0 b30 r0.length c31 KR38.here) rfl ?_))
  refine (implFrameFor_any x0 x1 b65 n2 n2 A2 P2 _ hx0 hx1 (by omega) HA2.out HP2.out (KX66.here)).mono ?_
  rw [← HR_0.out, ← HR_1.out, ← HRS_0.out]
  rintro e w68 ⟨v69, rfl, hb67, ho70⟩
  obtain ⟨b71, c72, rfl, hz73⟩ := OwnH.at ho70
  have KW74 := kp_ham hz73; clear hz73 ho70
  replace KB := KB.on hb67
  replace KH2 := KH2.on hb67
  replace KX6 := KX6.on hb67
  replace KW14 := KW14.on hb67
  replace KR16 := KR16.on hb67
  replace KR38 := KR38.on hb67
  replace KG33m := KG33m.on hb67
  replace KX66 := KX66.on hb67
  replace KB := KB.alloc (.cells #[.int .i16 rs0, .slice b71 r0.length c72] 27)
  replace KH2 := KH2.alloc (.cells #[.int .i16 rs0, .slice b71 r0.length c72] 27)
  replace KX6 := KX6.alloc (.cells #[.int .i16 rs0, .slice b71 r0.length c72] 27)
  replace KW14 := KW14.alloc (.cells #[.int .i16 rs0, .slice b71 r0.length c72] 27)
  replace KR16 := KR16.alloc (.cells #[.int .i16 rs0, .slice b71 r0.length c72] 27)
  replace KR38 := KR38.alloc (.cells #[.int .i16 rs0, .slice b71 r0.length c72] 27)
  replace KG33m := KG33m.alloc (.cells #[.int .i16 rs0, .slice b71 r0.length c72] 27)
  replace KX66 := KX66.alloc (.cells #[.int .i16 rs0, .slice b71 r0.length c72] 27)
  replace KW74 := KW74.alloc (.cells #[.int .i16 rs0, .slice b71 r0.length c72] 27)
  have KR76 := kp_new1 w68 #[.int .i16 rs0, .slice b71 r0.length c72] 27 (g := w68.heap.size) rfl
  go_wp2_with (first | (with_reducible refine load_iframe rfl _ rfl (w8.heap.size) rfl _ rs0 b11 r0.length c12 KR16.here ?_) | (with_reducible refine load_Gf (ex_load_iframe _ rfl (w8.heap.size) rfl _ rs0 b11 r0.length c12 KR16.here) rfl ?_) | (with_reducible refine load_iframe rfl _ rfl (w27.heap.size) rfl _ rs0 b30 r0.length c31 KR38.here ?_) | (with_reducible refine load_Gf (ex_load_iframe _ rfl (w27.heap.size) rfl _ rs0 b30 r0.length c31 KR38.here) rfl ?_) | (with_reducible refine load_iframe rfl _ rfl (w68.heap.size) rfl _ rs0 b71 r0.length c72 KR76.here ?_) | (with_reducible refine load_Gf (ex_load_iframe _ rfl (w68.heap.size) rfl _ rs0 b71 r0.length c72 KR76.here) rfl ?_))
  generalize (w68.alloc (.cells #[.int .i16 rs0, .slice b71 r0.length c72] 27)) = w77 at KB KH2 KX6 KW14 KR16 KR38 KG33m KX66 KW74 KR76 ⊢
  refine (eqFrame_kp rs0 b71 b11 r0.length c72 c12 (fun i => (r0.getD i (0, 0)).1) (fun i => (r0.getD i (0, 0)).2) _ (by omega) (KW74.here) (KW14.here)).mono ?_
  rintro e w79 ⟨rfl, hb78⟩
  replace KB := KB.on hb78
  replace KH2 := KH2.on hb78
  replace KX6 := KX6.on hb78
  replace KW14 := KW14.on hb78
  replace KR16 := KR16.on hb78
  replace KR38 := KR38.on hb78
  replace KG33m := KG33m.on hb78
  replace KX66 := KX66.on hb78
  replace KW74 := KW74.on hb78
  replace KR76 := KR76.on hb78
  go_wp2_with (first | (with_reducible refine load_iframe rfl _ rfl (w8.heap.size) rfl _ rs0 b11 r0.length c12 KR16.here ?_) | (with_reducible refine load_Gf (ex_load_iframe _ rfl (w8.heap.size) rfl _ rs0 b11 r0.length c12 KR16.here) rfl ?_) | (with_reducible refine load_iframe rfl _ rfl (w27.heap.size) rfl _ rs0 b30 r0.length c31 KR38.here ?_) | (with_reducible refine load_Gf (ex_load_iframe _ rfl (w27.heap.size) rfl _ rs0 b30 r0.length c31 KR38.here) rfl ?_) | (with_reducible refine load_iframe rfl _ rfl (w68.heap.size) rfl _ rs0 b71 r0.length c72 KR76.here ?_) | (with_reducible refine load_Gf (ex_load_iframe _ rfl (w68.heap.size) rfl _ rs0 b71 r0.length c72 KR76.here) rfl ?_))
  refine (heldFrame_own w19.heap.size rs0 b30 r0.length c31 1 _ (by omega) (by omega) (KG33m.here)).mono ?_
  rintro e w81 ⟨rfl, hb80⟩
  rw [HQ60.out]
  replace KB := KB.on hb80
  replace KH2 := KH2.on hb80
  replace KX6 := KX6.on hb80
  replace KW14 := KW14.on hb80
  replace KR16 := KR16.on hb80
  replace KR38 := KR38.on hb80
  replace KG33m := KG33m.on hb80
  replace KX66 := KX66.on hb80
  replace KW74 := KW74.on hb80
  replace KR76 := KR76.on hb80
  go_wp2_with fail
  go_ret
  exact ⟨rfl, KB.here⟩
end Go.Proofs.Yteffaghcjpeblaa
