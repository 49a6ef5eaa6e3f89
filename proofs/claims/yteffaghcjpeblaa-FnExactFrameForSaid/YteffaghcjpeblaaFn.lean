/- How many hammers are needed: the program's search. No conditions. -/
import Derived.Test.YteffaghcjpeblaaFs
import Derived.Outline
namespace Go.Proofs.Yteffaghcjpeblaa
open Go.RowKit
set_option linter.unusedVariables false
set_option linter.unusedSimpArgs false

/-- what the two closures see -/
structure SeesF (ga gn gf gs gr : Nat) (va : Value) (s r : Int) (W : World) : Prop where
  a : W.heap[ga]? = some (.cells #[va] 54 (0, 0))
  s : W.heap[gs]? = some (.cells #[.int .i64 s] 2 (0, 0))
  r : W.heap[gr]? = some (.cells #[.int .i64 r] 2 (0, 0))
  n : W.heap[gn]? = some (.cells #[.func (.func 48) #[] #[.pointer (some ⟨gs, 0, none⟩), .pointer (some ⟨gr, 0, none⟩)]] 51 (0, 0))
  f : W.heap[gf]? = some (.cells #[.func (.func 49) #[] #[.pointer (some ⟨ga, 0, none⟩), .pointer (some ⟨gn, 0, none⟩), .pointer (some ⟨gf, 0, none⟩)]] 83 (0, 0))
theorem SeesF.kp {ga gn gf gs gr : Nat} {va : Value} {s r : Int} {W : World} (h : SeesF ga gn gf gs gr va s r W) : Kp W (SeesF ga gn gf gs gr va s r) := Kp.mk fun _ hb =>
  ⟨(kp_row h.a).at hb, (kp_row h.s).at hb, (kp_row h.r).at hb, (kp_row h.n).at hb, (kp_row h.f).at hb⟩
set_option maxRecDepth 100000 in
theorem near1_any (gs gr : Nat) (a b s r : Int) (w : World) (hs : 2 ≤ s ∧ s ≤ 96) (ha : 0 ≤ a ∧ a < s) (hb : 0 ≤ b ∧ b < s) (hgs : w.heap[gs]? = some (.cells #[.int .i64 s] 2 (0, 0))) (hgr : w.heap[gr]? = some (.cells #[.int .i64 r] 2 (0, 0))) :
    Calls Try.prog 48 #[.int .i64 a, .int .i64 b, .pointer (some ⟨gs, 0, none⟩), .pointer (some ⟨gr, 0, none⟩)] w fun e w' => e = .returned (.bool (nrB s r a b)) ∧ Below w.heap.size w w' := by
  have p0 := row_cell 0 hgs
  have p1 := row_cell 0 hgr
  have hc0 := row_lt hgs
  have hc1 := row_lt hgr
  have h1 := tmod_x ha hb
  have h2 := tmod_x hb ha
  have hL := nrB_l (s := s) (r := r) (a := a) (b := b)
  have hR := nrB_r (s := s) (r := r) (a := a) (b := b)
  obtain ⟨x, hx⟩ : ∃ x, (b - a + s) % s = x := ⟨_, rfl⟩
  obtain ⟨y, hy⟩ : ∃ x, (a - b + s) % s = x := ⟨_, rfl⟩
  rw [hx] at h1 hL hR
  rw [hy] at h2 hR
  obtain ⟨e1, b1⟩ := h1
  obtain ⟨e2, b2⟩ := h2
  have q1 := i64_id (x := b - a) (by omega)
  have q2 := i64_id (x := b - a + s) (by omega)
  have q3 := i64_id (x := x) (by omega)
  have q4 := i64_id (x := a - b) (by omega)
  have q5 := i64_id (x := a - b + s) (by omega)
  have q6 := i64_id (x := y) (by omega)
  have hs0 : ¬ s = 0 := by omega
  clear hx hy
  by_cases h : x < r
  · have HH := Lib.hid (hL h)
    clear hL hR
    go_enter Try.func48, Try.ntmps48
    go_wp2
    go_quiet (fail)
    go_wp2
    go_ret
    exact ⟨ret_bool HH.out.symm, below_drewN (Below.refl _ _) _⟩
  · have HH := Lib.hid (hR h)
    clear hL hR
    by_cases h3 : y < r
    all_goals
      go_enter Try.func48, Try.ntmps48
      go_wp2
      go_quiet (fail)
      go_wp2
      go_ret
      exact ⟨ret_bool (by rw [HH.out]; first | (simp [h3]; done) | (simp [h3]; omega) | (simp; omega)), below_drewN (Below.refl _ _) _⟩
set_option maxRecDepth 100000 in
set_option maxHeartbeats 8000000 in
theorem fits_any (ga gn gf gs gr base : Nat) (s r : Int) (ats : List Int) (va : Value) (most : Nat) (hs : 2 ≤ s ∧ s ≤ 96) (hl : ats.length ≤ 14) (hats : inS s ats) (hmost : most ≤ 14) (f : Nat) :
    ∀ (given : List Int) (v : Value) (used : Nat) (W : World), given.length + f = ats.length → used ≤ most → base ≤ W.heap.size → SeesF ga gn gf gs gr va s r W → OwnI W base va ats → OwnI W base v given →
    Calls Try.prog 49 #[v, .int .i64 (used : Int), .int .i64 (most : Int), .pointer (some ⟨ga, 0, none⟩), .pointer (some ⟨gn, 0, none⟩), .pointer (some ⟨gf, 0, none⟩)] W fun e W' => e = .returned (.bool (spl s r ats most f given used)) ∧ Below W.heap.size W W' := by
  have HATS := Lib.hid hats; clear hats
  induction f with
  | zero =>
    intro given v used W hlen hu hbW hse hva hv
    obtain ⟨b, c, rfl, _⟩ := OwnI.at hv
    obtain ⟨q, c', rfl, _⟩ := OwnI.at hva
    have p0 := row_cell 0 hse.a
    clear hva hv hse
    have hgl : given.length = ats.length := by omega
    rw [hgl, spl_zero]
    go_enter Try.func49, Try.ntmps49
    go_wp2
    go_ret
    exact ⟨rfl, Below.refl _ _⟩
  | succ f ih =>
    have HIH := Lib.hid ih; clear ih
    intro given v used W hlen hu hbW hse hva hv
    have KVA := kp_OwnI hva; have KV := kp_OwnI hv; have KSE := hse.kp
    have KB := Kp.base W
    obtain ⟨g, c, rfl, hz⟩ := OwnI.at hv
    obtain ⟨ga', c', rfl, hgab, hga, hca⟩ := hva.pos_form (by omega)
    clear hva hv hse
    have KCG := kp_int hz
    have KCA := kp_cells hga hca
    clear hz hca
    rw [spl_succ]
    obtain ⟨n, hn⟩ : ∃ n, given.length = n := ⟨_, rfl⟩
    obtain ⟨m, hm⟩ : ∃ n, ats.length = n := ⟨_, rfl⟩
    have HN := Lib.hid hn
    have HM := Lib.hid hm
    rw [hn] at hlen KCG KV ⊢
    rw [hm] at hlen hl KCA KSE KVA HIH
    clear hn hm
    have hnm : n < m := by omega
    have hne : ((n : Int) == (m : Int)) = false := beq_false_of_ne (by omega)
    have p0 := row_cell 0 KSE.here.a
    by_cases hmn : (used : Int) + 1 ≤ most
    all_goals
      go_enter Try.func49, Try.ntmps49
      go_wp2
      clear p0
      go_loopw [25] (fun i w' => Below W.heap.size W w' ∧ ∃ h : Nat, h ≤ tryN used most ∧ i = .int .i64 h ∧ ∀ y, y < h → tryB s r ats most f given used y = false) (fun i _ => 20 - (intOf i).toNat)
      case atStart => exact ⟨Below.refl _ _, 0, by omega, rfl, fun y hy => by omega⟩
      case round =>
        obtain ⟨hb, h, hh, rfl, hno⟩ := hrel
        replace KVA := KVA.on hb
        replace KV := KV.on hb
        replace KSE := KSE.on hb
        replace KCG := KCG.on hb
        replace KCA := KCA.on hb
        replace KB := KB.on hb
        have HNO := Lib.hid hno; clear hno
        have hbw : base ≤ wr.heap.size := Nat.le_trans hbW hb.size
        have ht := tryN_lt (used := used) (most := most) (h := h)
        have h14 : h ≤ 15 := by have := tryN_lt (used := used) (most := most) (h := h - 1); omega
        by_cases hlt : h < tryN used most
        · obtain ⟨h1, h2⟩ := ht.1 hlt
          have h1' : (h : Int) < used + 1 := by omega
          have h2' : (h : Int) < most := by omega
          clear ht
          have HB := Lib.hid hb; clear hb
          go_wp2
          obtain ⟨U, rfl⟩ : ∃ U, U = wr := ⟨wr, rfl⟩
          go_loopw [12, 30] (fun b i w' => Below U.heap.size U w' ∧ ∃ k : Nat, k ≤ n ∧ i = .int .i64 k ∧ ∃ bb : Bool, b = .bool bb ∧ (bb = false → ∀ j, j < k → inWay s r ats given (h : Int) j = false) ∧ (bb = true → okG s r ats given (h : Int) = false)) (fun _ i _ => 20 - (intOf i).toNat)
          case atStart => exact ⟨Below.refl _ _, 0, by omega, rfl, false, rfl, fun _ j hj => by omega, fun e => by cases e⟩
          case round =>
            obtain ⟨hb, k, hk, rfl, bb, rfl, hK0, hK1⟩ := hrel
            have HK0 := Lib.hid hK0; have HK1 := Lib.hid hK1; clear hK0 hK1
            have HB2 := Lib.hid hb
            replace KVA := KVA.on hb
            replace KV := KV.on hb
            replace KSE := KSE.on hb
            replace KCG := KCG.on hb
            replace KCA := KCA.on hb
            replace KB := KB.on hb
            have hbw2 : base ≤ wr.heap.size := Nat.le_trans hbw hb.size
            clear hb
            by_cases hlt2 : k < n
            · have hk' : (k : Int) < n := by omega
              have hkm : (k : Int) < m := by omega
              have hnm' : (n : Int) < m := by omega
              obtain ⟨gg, off, rfl, hgg, hcg⟩ := IntAt.get KCG.here (by omega)
              have cg := hcg k hlt2
              clear hcg
              have HCG := Lib.hid cg
              obtain ⟨x0, hx0⟩ : ∃ x, given.getD k 0 = x := ⟨_, rfl⟩
              simp only [hx0] at cg
              go_wp2
              clear cg
              obtain ⟨V0, rfl⟩ : ∃ U, U = wr := ⟨wr, rfl⟩
              have hS0 := below_drew V0
              refine wp_region_S (fun V => Below V0.heap.size V0 V) (by kernel_rfl) hS0 ?_
              refine take_val 0 (.bool bb) rfl (by kernel_rfl) (by kernel_rfl) (by kernel_rfl) (fun _ _ _ h => h) rfl (fun V hV => by simp [go_sem]) hS0 ?_
              simp only [List.getElem_toArray, List.getElem_cons_zero, List.getElem_cons_succ, Act.put, List.setIfInBounds_toArray, List.set_cons_zero, List.set_cons_succ]
              refine take_val 1 (.bool bb) rfl (by kernel_rfl) (by kernel_rfl) (by kernel_rfl) (fun _ _ _ h => h) rfl (fun V hV => by simp [go_sem]) hS0 ?_
              simp only [List.getElem_toArray, List.getElem_cons_zero, List.getElem_cons_succ, Act.put, List.setIfInBounds_toArray, List.set_cons_zero, List.set_cons_succ]
              cases bb
              · have HK := Lib.hid (HK0.out rfl)
                refine take_val 2 (.int .i64 x0) rfl (by kernel_rfl) (by kernel_rfl) (by kernel_rfl) (fun _ _ _ h => h) rfl (fun V hV => by simp [go_sem]) hS0 ?_
                simp only [List.getElem_toArray, List.getElem_cons_zero, List.getElem_cons_succ, Act.put, List.setIfInBounds_toArray, List.set_cons_zero, List.set_cons_succ]
                refine take_val 3 (.int .i64 (h : Int)) rfl (by kernel_rfl) (by kernel_rfl) (by kernel_rfl) (fun _ _ _ h => h) rfl (fun V hV => by simp [go_sem]) hS0 ?_
                simp only [List.getElem_toArray, List.getElem_cons_zero, List.getElem_cons_succ, Act.put, List.setIfInBounds_toArray, List.set_cons_zero, List.set_cons_succ]
                by_cases hg : x0 = (h : Int)
                · have HW := Lib.hid (inWay_yes (s := s) (r := r) (ats := ats) (hx0.trans hg))
                  refine take_val 4 (.bool true) rfl (by kernel_rfl) (by kernel_rfl) (by kernel_rfl) (fun _ _ _ h => h) rfl (fun V hV => by simp [go_sem, hg]) hS0 ?_
                  simp only [List.getElem_toArray, List.getElem_cons_zero, List.getElem_cons_succ, Act.put, List.setIfInBounds_toArray, List.set_cons_zero, List.set_cons_succ]
                  refine take_val 5 (.bool true) rfl (by kernel_rfl) (by kernel_rfl) (by kernel_rfl) (fun _ _ _ h => h) rfl (fun V hV => by simp [go_sem]) hS0 ?_
                  simp only [List.getElem_toArray, List.getElem_cons_zero, List.getElem_cons_succ, Act.put, List.setIfInBounds_toArray, List.set_cons_zero, List.set_cons_succ]
                  refine take_val 6 (.func (.func 48) #[] #[.pointer (some ⟨gs, 0, none⟩), .pointer (some ⟨gr, 0, none⟩)]) rfl (by kernel_rfl) (by kernel_rfl) (by kernel_rfl) (fun _ _ _ h => h) rfl (fun V hV => by have h := row_cell 0 (KSE.at hV).n; simp [go_sem, h]) hS0 ?_
                  simp only [List.getElem_toArray, List.getElem_cons_zero, List.getElem_cons_succ, Act.put, List.setIfInBounds_toArray, List.set_cons_zero, List.set_cons_succ]
                  refine take_val 7 (.slice (some ⟨ga', 0, none⟩) m c') rfl (by kernel_rfl) (by kernel_rfl) (by kernel_rfl) (fun _ _ _ h => h) rfl (fun V hV => by have h := row_cell 0 (KSE.at hV).a; simp [go_sem, h]) hS0 ?_
                  simp only [List.getElem_toArray, List.getElem_cons_zero, List.getElem_cons_succ, Act.put, List.setIfInBounds_toArray, List.set_cons_zero, List.set_cons_succ]
                  refine take_val 8 (.int .i64 (k : Int)) rfl (by kernel_rfl) (by kernel_rfl) (by kernel_rfl) (fun _ _ _ h => h) rfl (fun V hV => by simp [go_sem]) hS0 ?_
                  simp only [List.getElem_toArray, List.getElem_cons_zero, List.getElem_cons_succ, Act.put, List.setIfInBounds_toArray, List.set_cons_zero, List.set_cons_succ]
                  refine take_val 9 (.pointer (some ⟨ga', k, none⟩)) rfl (by kernel_rfl) (by kernel_rfl) (by kernel_rfl) (fun _ _ _ h => h) rfl (fun V hV => by simp [go_sem, hkm]) hS0 ?_
                  simp only [List.getElem_toArray, List.getElem_cons_zero, List.getElem_cons_succ, Act.put, List.setIfInBounds_toArray, List.set_cons_zero, List.set_cons_succ]
                  refine take_val 10 (.int .i64 (ats.getD k 0)) rfl (by kernel_rfl) (by kernel_rfl) (by kernel_rfl) (fun _ _ _ h => h) rfl (fun V hV => by have h := KCA.at hV k (by omega); simp [go_sem, h]) hS0 ?_
                  simp only [List.getElem_toArray, List.getElem_cons_zero, List.getElem_cons_succ, Act.put, List.setIfInBounds_toArray, List.set_cons_zero, List.set_cons_succ]
                  refine take_val 11 (.slice (some ⟨ga', 0, none⟩) m c') rfl (by kernel_rfl) (by kernel_rfl) (by kernel_rfl) (fun _ _ _ h => h) rfl (fun V hV => by have h := row_cell 0 (KSE.at hV).a; simp [go_sem, h]) hS0 ?_
                  simp only [List.getElem_toArray, List.getElem_cons_zero, List.getElem_cons_succ, Act.put, List.setIfInBounds_toArray, List.set_cons_zero, List.set_cons_succ]
                  refine take_val 12 (.int .i64 (n : Int)) rfl (by kernel_rfl) (by kernel_rfl) (by kernel_rfl) (fun _ _ _ h => h) rfl (fun V hV => by simp [go_sem]) hS0 ?_
                  simp only [List.getElem_toArray, List.getElem_cons_zero, List.getElem_cons_succ, Act.put, List.setIfInBounds_toArray, List.set_cons_zero, List.set_cons_succ]
                  refine take_val 13 (.pointer (some ⟨ga', n, none⟩)) rfl (by kernel_rfl) (by kernel_rfl) (by kernel_rfl) (fun _ _ _ h => h) rfl (fun V hV => by simp [go_sem, hnm']) hS0 ?_
                  simp only [List.getElem_toArray, List.getElem_cons_zero, List.getElem_cons_succ, Act.put, List.setIfInBounds_toArray, List.set_cons_zero, List.set_cons_succ]
                  refine take_val 14 (.int .i64 (ats.getD n 0)) rfl (by kernel_rfl) (by kernel_rfl) (by kernel_rfl) (fun _ _ _ h => h) rfl (fun V hV => by have h := KCA.at hV n hnm; simp [go_sem, h]) hS0 ?_
                  simp only [List.getElem_toArray, List.getElem_cons_zero, List.getElem_cons_succ, Act.put, List.setIfInBounds_toArray, List.set_cons_zero, List.set_cons_succ]
                  have hcon := near1_any gs gr (ats.getD k 0) (ats.getD n 0) s r V0.drew hs (HATS.out k (by have := HM.out; omega)) (HATS.out n (by have := HM.out; omega)) (KSE.at hS0).s (KSE.at hS0).r
                  rw [HN.out] at HW
                  rw [← HW.out] at hcon
                  cases hiw : inWay s r ats given (h : Int) k
                  · rw [hiw] at hcon
                    refine step_call 15 48 #[.int .i64 (ats.getD k 0), .int .i64 (ats.getD n 0), .pointer (some ⟨gs, 0, none⟩), .pointer (some ⟨gr, 0, none⟩)] (by kernel_rfl) rfl rfl (by simp [go_sem]) ?_
                    refine (hcon).mono ?_
                    rintro e V2 ⟨rfl, hb7⟩
                    refine ⟨_, rfl, hS0.trans (hb7.mono hS0.size), ?_⟩
                    simp only [List.getElem_toArray, List.getElem_cons_zero, List.getElem_cons_succ, Act.put, List.setIfInBounds_toArray, List.set_cons_zero, List.set_cons_succ]
                    have hS7 := hS0.trans (hb7.mono hS0.size)
                    refine take_val 16 (.bool false) rfl (by kernel_rfl) (by kernel_rfl) (by kernel_rfl) (fun _ _ _ h => h) rfl (fun V hV => by simp [go_sem]) hS7 ?_
                    simp only [List.getElem_toArray, List.getElem_cons_zero, List.getElem_cons_succ, Act.put, List.setIfInBounds_toArray, List.set_cons_zero, List.set_cons_succ]
                    refine take_val 17 (.bool false) rfl (by kernel_rfl) (by kernel_rfl) (by kernel_rfl) (fun _ _ _ h => h) rfl (fun V hV => by simp [go_sem]) hS7 ?_
                    simp only [List.getElem_toArray, List.getElem_cons_zero, List.getElem_cons_succ, Act.put, List.setIfInBounds_toArray, List.set_cons_zero, List.set_cons_succ]
                    refine take_val 18 (.bool false) rfl (by kernel_rfl) (by kernel_rfl) (by kernel_rfl) (fun _ _ _ h => h) rfl (fun V hV => by simp [go_sem]) hS7 ?_
                    simp only [List.getElem_toArray, List.getElem_cons_zero, List.getElem_cons_succ, Act.put, List.setIfInBounds_toArray, List.set_cons_zero, List.set_cons_succ]
                    refine wpAnyH_done (by kernel_rfl) ?_ _
                    have HBE := Lib.hid (HB2.out.trans (hS7.mono HB2.out.size))
                    clear hS0 hcon hS7 hb7
                    go_wp2
                    go_roundw
                    case rel => exact ⟨HBE.out, k + 1, by omega, by go_num, false, rfl, fun _ j hj => if e : j = k then e ▸ hiw else HK.out j (by omega), fun e => by cases e⟩
                    case measure => simp [intOf]; omega
                  · rw [hiw] at hcon
                    have HBAD := Lib.hid (okG_bad (by have := HN.out; omega) hiw)
                    refine step_call 15 48 #[.int .i64 (ats.getD k 0), .int .i64 (ats.getD n 0), .pointer (some ⟨gs, 0, none⟩), .pointer (some ⟨gr, 0, none⟩)] (by kernel_rfl) rfl rfl (by simp [go_sem]) ?_
                    refine (hcon).mono ?_
                    rintro e V2 ⟨rfl, hb7⟩
                    refine ⟨_, rfl, hS0.trans (hb7.mono hS0.size), ?_⟩
                    simp only [List.getElem_toArray, List.getElem_cons_zero, List.getElem_cons_succ, Act.put, List.setIfInBounds_toArray, List.set_cons_zero, List.set_cons_succ]
                    have hS7 := hS0.trans (hb7.mono hS0.size)
                    refine take_val 16 (.bool true) rfl (by kernel_rfl) (by kernel_rfl) (by kernel_rfl) (fun _ _ _ h => h) rfl (fun V hV => by simp [go_sem]) hS7 ?_
                    simp only [List.getElem_toArray, List.getElem_cons_zero, List.getElem_cons_succ, Act.put, List.setIfInBounds_toArray, List.set_cons_zero, List.set_cons_succ]
                    refine take_val 17 (.bool true) rfl (by kernel_rfl) (by kernel_rfl) (by kernel_rfl) (fun _ _ _ h => h) rfl (fun V hV => by simp [go_sem]) hS7 ?_
                    simp only [List.getElem_toArray, List.getElem_cons_zero, List.getElem_cons_succ, Act.put, List.setIfInBounds_toArray, List.set_cons_zero, List.set_cons_succ]
                    refine take_val 18 (.bool true) rfl (by kernel_rfl) (by kernel_rfl) (by kernel_rfl) (fun _ _ _ h => h) rfl (fun V hV => by simp [go_sem]) hS7 ?_
                    simp only [List.getElem_toArray, List.getElem_cons_zero, List.getElem_cons_succ, Act.put, List.setIfInBounds_toArray, List.set_cons_zero, List.set_cons_succ]
                    refine wpAnyH_done (by kernel_rfl) ?_ _
                    have HBE := Lib.hid (HB2.out.trans (hS7.mono HB2.out.size))
                    clear hS0 hcon hS7 hb7
                    go_wp2
                    go_roundw
                    case rel => exact ⟨HBE.out, k + 1, by omega, by go_num, true, rfl, (fun e => by cases e), fun _ => HBAD.out⟩
                    case measure => simp [intOf]; omega
                · have hiw := inWay_no (s := s) (r := r) (ats := ats) (fun e => hg (hx0.symm.trans e))
                  refine take_val 4 (.bool false) rfl (by kernel_rfl) (by kernel_rfl) (by kernel_rfl) (fun _ _ _ h => h) rfl (fun V hV => by simp [go_sem, hg]) hS0 ?_
                  simp only [List.getElem_toArray, List.getElem_cons_zero, List.getElem_cons_succ, Act.put, List.setIfInBounds_toArray, List.set_cons_zero, List.set_cons_succ]
                  refine take_val 5 (.bool false) rfl (by kernel_rfl) (by kernel_rfl) (by kernel_rfl) (fun _ _ _ h => h) rfl (fun V hV => by simp [go_sem]) hS0 ?_
                  simp only [List.getElem_toArray, List.getElem_cons_zero, List.getElem_cons_succ, Act.put, List.setIfInBounds_toArray, List.set_cons_zero, List.set_cons_succ]
                  refine skip_val 6 rfl (by kernel_rfl) (by kernel_rfl) (by kernel_rfl) (fun _ _ _ h => h) rfl hS0 ?_
                  simp only [List.getElem_toArray, List.getElem_cons_zero, List.getElem_cons_succ, Act.put, List.setIfInBounds_toArray, List.set_cons_zero, List.set_cons_succ]
                  refine skip_val 7 rfl (by kernel_rfl) (by kernel_rfl) (by kernel_rfl) (fun _ _ _ h => h) rfl hS0 ?_
                  simp only [List.getElem_toArray, List.getElem_cons_zero, List.getElem_cons_succ, Act.put, List.setIfInBounds_toArray, List.set_cons_zero, List.set_cons_succ]
                  refine skip_val 8 rfl (by kernel_rfl) (by kernel_rfl) (by kernel_rfl) (fun _ _ _ h => h) rfl hS0 ?_
                  simp only [List.getElem_toArray, List.getElem_cons_zero, List.getElem_cons_succ, Act.put, List.setIfInBounds_toArray, List.set_cons_zero, List.set_cons_succ]
                  refine skip_val 9 rfl (by kernel_rfl) (by kernel_rfl) (by kernel_rfl) (fun _ _ _ h => h) rfl hS0 ?_
                  simp only [List.getElem_toArray, List.getElem_cons_zero, List.getElem_cons_succ, Act.put, List.setIfInBounds_toArray, List.set_cons_zero, List.set_cons_succ]
                  refine skip_val 10 rfl (by kernel_rfl) (by kernel_rfl) (by kernel_rfl) (fun _ _ _ h => h) rfl hS0 ?_
                  simp only [List.getElem_toArray, List.getElem_cons_zero, List.getElem_cons_succ, Act.put, List.setIfInBounds_toArray, List.set_cons_zero, List.set_cons_succ]
                  refine skip_val 11 rfl (by kernel_rfl) (by kernel_rfl) (by kernel_rfl) (fun _ _ _ h => h) rfl hS0 ?_
                  simp only [List.getElem_toArray, List.getElem_cons_zero, List.getElem_cons_succ, Act.put, List.setIfInBounds_toArray, List.set_cons_zero, List.set_cons_succ]
                  refine skip_val 12 rfl (by kernel_rfl) (by kernel_rfl) (by kernel_rfl) (fun _ _ _ h => h) rfl hS0 ?_
                  simp only [List.getElem_toArray, List.getElem_cons_zero, List.getElem_cons_succ, Act.put, List.setIfInBounds_toArray, List.set_cons_zero, List.set_cons_succ]
                  refine skip_val 13 rfl (by kernel_rfl) (by kernel_rfl) (by kernel_rfl) (fun _ _ _ h => h) rfl hS0 ?_
                  simp only [List.getElem_toArray, List.getElem_cons_zero, List.getElem_cons_succ, Act.put, List.setIfInBounds_toArray, List.set_cons_zero, List.set_cons_succ]
                  refine skip_val 14 rfl (by kernel_rfl) (by kernel_rfl) (by kernel_rfl) (fun _ _ _ h => h) rfl hS0 ?_
                  simp only [List.getElem_toArray, List.getElem_cons_zero, List.getElem_cons_succ, Act.put, List.setIfInBounds_toArray, List.set_cons_zero, List.set_cons_succ]
                  refine skip_val 15 rfl (by kernel_rfl) (by kernel_rfl) (by kernel_rfl) (fun _ _ _ h => h) rfl hS0 ?_
                  simp only [List.getElem_toArray, List.getElem_cons_zero, List.getElem_cons_succ, Act.put, List.setIfInBounds_toArray, List.set_cons_zero, List.set_cons_succ]
                  refine take_val 16 (.bool false) rfl (by kernel_rfl) (by kernel_rfl) (by kernel_rfl) (fun _ _ _ h => h) rfl (fun V hV => by simp [go_sem]) hS0 ?_
                  simp only [List.getElem_toArray, List.getElem_cons_zero, List.getElem_cons_succ, Act.put, List.setIfInBounds_toArray, List.set_cons_zero, List.set_cons_succ]
                  refine take_val 17 (.bool false) rfl (by kernel_rfl) (by kernel_rfl) (by kernel_rfl) (fun _ _ _ h => h) rfl (fun V hV => by simp [go_sem]) hS0 ?_
                  simp only [List.getElem_toArray, List.getElem_cons_zero, List.getElem_cons_succ, Act.put, List.setIfInBounds_toArray, List.set_cons_zero, List.set_cons_succ]
                  refine take_val 18 (.bool false) rfl (by kernel_rfl) (by kernel_rfl) (by kernel_rfl) (fun _ _ _ h => h) rfl (fun V hV => by simp [go_sem]) hS0 ?_
                  simp only [List.getElem_toArray, List.getElem_cons_zero, List.getElem_cons_succ, Act.put, List.setIfInBounds_toArray, List.set_cons_zero, List.set_cons_succ]
                  refine wpAnyH_done (by kernel_rfl) ?_ _
                  have HBE := Lib.hid (HB2.out.drew)
                  clear hS0
                  go_wp2
                  go_roundw
                  case rel => exact ⟨HBE.out, k + 1, by omega, by go_num, false, rfl, fun _ j hj => if e : j = k then e ▸ hiw else HK.out j (by omega), fun e => by cases e⟩
                  case measure => simp [intOf]; omega
              · --
                refine skip_val 2 rfl (by kernel_rfl) (by kernel_rfl) (by kernel_rfl) (fun _ _ _ h => h) rfl hS0 ?_
                simp only [List.getElem_toArray, List.getElem_cons_zero, List.getElem_cons_succ, Act.put, List.setIfInBounds_toArray, List.set_cons_zero, List.set_cons_succ]
                refine skip_val 3 rfl (by kernel_rfl) (by kernel_rfl) (by kernel_rfl) (fun _ _ _ h => h) rfl hS0 ?_
                simp only [List.getElem_toArray, List.getElem_cons_zero, List.getElem_cons_succ, Act.put, List.setIfInBounds_toArray, List.set_cons_zero, List.set_cons_succ]
                refine skip_val 4 rfl (by kernel_rfl) (by kernel_rfl) (by kernel_rfl) (fun _ _ _ h => h) rfl hS0 ?_
                simp only [List.getElem_toArray, List.getElem_cons_zero, List.getElem_cons_succ, Act.put, List.setIfInBounds_toArray, List.set_cons_zero, List.set_cons_succ]
                refine skip_val 5 rfl (by kernel_rfl) (by kernel_rfl) (by kernel_rfl) (fun _ _ _ h => h) rfl hS0 ?_
                simp only [List.getElem_toArray, List.getElem_cons_zero, List.getElem_cons_succ, Act.put, List.setIfInBounds_toArray, List.set_cons_zero, List.set_cons_succ]
                refine skip_val 6 rfl (by kernel_rfl) (by kernel_rfl) (by kernel_rfl) (fun _ _ _ h => h) rfl hS0 ?_
                simp only [List.getElem_toArray, List.getElem_cons_zero, List.getElem_cons_succ, Act.put, List.setIfInBounds_toArray, List.set_cons_zero, List.set_cons_succ]
                refine skip_val 7 rfl (by kernel_rfl) (by kernel_rfl) (by kernel_rfl) (fun _ _ _ h => h) rfl hS0 ?_
                simp only [List.getElem_toArray, List.getElem_cons_zero, List.getElem_cons_succ, Act.put, List.setIfInBounds_toArray, List.set_cons_zero, List.set_cons_succ]
                refine skip_val 8 rfl (by kernel_rfl) (by kernel_rfl) (by kernel_rfl) (fun _ _ _ h => h) rfl hS0 ?_
                simp only [List.getElem_toArray, List.getElem_cons_zero, List.getElem_cons_succ, Act.put, List.setIfInBounds_toArray, List.set_cons_zero, List.set_cons_succ]
                refine skip_val 9 rfl (by kernel_rfl) (by kernel_rfl) (by kernel_rfl) (fun _ _ _ h => h) rfl hS0 ?_
                simp only [List.getElem_toArray, List.getElem_cons_zero, List.getElem_cons_succ, Act.put, List.setIfInBounds_toArray, List.set_cons_zero, List.set_cons_succ]
                refine skip_val 10 rfl (by kernel_rfl) (by kernel_rfl) (by kernel_rfl) (fun _ _ _ h => h) rfl hS0 ?_
                simp only [List.getElem_toArray, List.getElem_cons_zero, List.getElem_cons_succ, Act.put, List.setIfInBounds_toArray, List.set_cons_zero, List.set_cons_succ]
                refine skip_val 11 rfl (by kernel_rfl) (by kernel_rfl) (by kernel_rfl) (fun _ _ _ h => h) rfl hS0 ?_
                simp only [List.getElem_toArray, List.getElem_cons_zero, List.getElem_cons_succ, Act.put, List.setIfInBounds_toArray, List.set_cons_zero, List.set_cons_succ]
                refine skip_val 12 rfl (by kernel_rfl) (by kernel_rfl) (by kernel_rfl) (fun _ _ _ h => h) rfl hS0 ?_
                simp only [List.getElem_toArray, List.getElem_cons_zero, List.getElem_cons_succ, Act.put, List.setIfInBounds_toArray, List.set_cons_zero, List.set_cons_succ]
                refine skip_val 13 rfl (by kernel_rfl) (by kernel_rfl) (by kernel_rfl) (fun _ _ _ h => h) rfl hS0 ?_
                simp only [List.getElem_toArray, List.getElem_cons_zero, List.getElem_cons_succ, Act.put, List.setIfInBounds_toArray, List.set_cons_zero, List.set_cons_succ]
                refine skip_val 14 rfl (by kernel_rfl) (by kernel_rfl) (by kernel_rfl) (fun _ _ _ h => h) rfl hS0 ?_
                simp only [List.getElem_toArray, List.getElem_cons_zero, List.getElem_cons_succ, Act.put, List.setIfInBounds_toArray, List.set_cons_zero, List.set_cons_succ]
                refine skip_val 15 rfl (by kernel_rfl) (by kernel_rfl) (by kernel_rfl) (fun _ _ _ h => h) rfl hS0 ?_
                simp only [List.getElem_toArray, List.getElem_cons_zero, List.getElem_cons_succ, Act.put, List.setIfInBounds_toArray, List.set_cons_zero, List.set_cons_succ]
                refine skip_val 16 rfl (by kernel_rfl) (by kernel_rfl) (by kernel_rfl) (fun _ _ _ h => h) rfl hS0 ?_
                simp only [List.getElem_toArray, List.getElem_cons_zero, List.getElem_cons_succ, Act.put, List.setIfInBounds_toArray, List.set_cons_zero, List.set_cons_succ]
                refine take_val 17 (.bool true) rfl (by kernel_rfl) (by kernel_rfl) (by kernel_rfl) (fun _ _ _ h => h) rfl (fun V hV => by simp [go_sem]) hS0 ?_
                simp only [List.getElem_toArray, List.getElem_cons_zero, List.getElem_cons_succ, Act.put, List.setIfInBounds_toArray, List.set_cons_zero, List.set_cons_succ]
                refine take_val 18 (.bool true) rfl (by kernel_rfl) (by kernel_rfl) (by kernel_rfl) (fun _ _ _ h => h) rfl (fun V hV => by simp [go_sem]) hS0 ?_
                simp only [List.getElem_toArray, List.getElem_cons_zero, List.getElem_cons_succ, Act.put, List.setIfInBounds_toArray, List.set_cons_zero, List.set_cons_succ]
                refine wpAnyH_done (by kernel_rfl) ?_ _
                have HBE := Lib.hid (HB2.out.drew)
                clear hS0
                go_wp2
                go_roundw
                case rel => exact ⟨HBE.out, k + 1, by omega, by go_num, true, rfl, (fun e => by cases e), fun _ => HK1.out rfl⟩
                case measure => simp [intOf]; omega
            · have hkn : k = n := by omega
              subst hkn
              have hk' : ¬ (k : Int) < k := by omega
              go_wp2
              obtain ⟨V0, rfl⟩ : ∃ U, U = wr := ⟨wr, rfl⟩
              have hS0 := below_drew V0
              refine wp_region_S (fun V => Below V0.heap.size V0 V) (by kernel_rfl) hS0 ?_
              refine take_val 0 (.bool bb) rfl (by kernel_rfl) (by kernel_rfl) (by kernel_rfl) (fun _ _ _ h => h) rfl (fun V hV => by simp [go_sem]) hS0 ?_
              simp only [List.getElem_toArray, List.getElem_cons_zero, List.getElem_cons_succ, Act.put, List.setIfInBounds_toArray, List.set_cons_zero, List.set_cons_succ]
              cases bb
              · have HK := Lib.hid (HK0.out rfl)
                have hgood := okG_good (s := s) (r := r) (ats := ats) (given := given) (h := (h : Int)) (fun j hj => HK.out j (by have := HN.out; omega))
                have HT := Lib.hid (tryB_yes s r ats (most := most) (f := f) (used := used) hgood)
                clear hgood
                have q1 := i64_id (x := (h : Int) + 1) (by omega)
                refine take_val 1 (.bool true) rfl (by kernel_rfl) (by kernel_rfl) (by kernel_rfl) (fun _ _ _ h => h) rfl (fun V hV => by simp [go_sem]) hS0 ?_
                simp only [List.getElem_toArray, List.getElem_cons_zero, List.getElem_cons_succ, Act.put, List.setIfInBounds_toArray, List.set_cons_zero, List.set_cons_succ]
                refine take_val 2 (.bool true) rfl (by kernel_rfl) (by kernel_rfl) (by kernel_rfl) (fun _ _ _ h => h) rfl (fun V hV => by simp [go_sem]) hS0 ?_
                simp only [List.getElem_toArray, List.getElem_cons_zero, List.getElem_cons_succ, Act.put, List.setIfInBounds_toArray, List.set_cons_zero, List.set_cons_succ]
                refine take_val 3 (.func (.func 49) #[] #[.pointer (some ⟨ga, 0, none⟩), .pointer (some ⟨gn, 0, none⟩), .pointer (some ⟨gf, 0, none⟩)]) rfl (by kernel_rfl) (by kernel_rfl) (by kernel_rfl) (fun _ _ _ h => h) rfl (fun V hV => by have h := row_cell 0 (KSE.at hV).f; simp [go_sem, h]) hS0 ?_
                simp only [List.getElem_toArray, List.getElem_cons_zero, List.getElem_cons_succ, Act.put, List.setIfInBounds_toArray, List.set_cons_zero, List.set_cons_succ]
                refine take_val 4 (.slice g k c) rfl (by kernel_rfl) (by kernel_rfl) (by kernel_rfl) (fun _ _ _ h => h) rfl (fun V hV => by simp [go_sem]) hS0 ?_
                simp only [List.getElem_toArray, List.getElem_cons_zero, List.getElem_cons_succ, Act.put, List.setIfInBounds_toArray, List.set_cons_zero, List.set_cons_succ]
                refine take_val 6 (.int .i64 (h : Int)) rfl (by kernel_rfl) (by kernel_rfl) (by kernel_rfl) (fun _ _ _ h => h) rfl (fun V hV => by simp [go_sem]) hS0 ?_
                simp only [List.getElem_toArray, List.getElem_cons_zero, List.getElem_cons_succ, Act.put, List.setIfInBounds_toArray, List.set_cons_zero, List.set_cons_succ]
                refine take_val 9 (.int .i64 (used : Int)) rfl (by kernel_rfl) (by kernel_rfl) (by kernel_rfl) (fun _ _ _ h => h) rfl (fun V hV => by simp [go_sem]) hS0 ?_
                simp only [List.getElem_toArray, List.getElem_cons_zero, List.getElem_cons_succ, Act.put, List.setIfInBounds_toArray, List.set_cons_zero, List.set_cons_succ]
                refine take_val 10 (.int .i64 (h : Int)) rfl (by kernel_rfl) (by kernel_rfl) (by kernel_rfl) (fun _ _ _ h => h) rfl (fun V hV => by simp [go_sem]) hS0 ?_
                simp only [List.getElem_toArray, List.getElem_cons_zero, List.getElem_cons_succ, Act.put, List.setIfInBounds_toArray, List.set_cons_zero, List.set_cons_succ]
                refine take_val 11 (.int .i64 ((h : Int) + 1)) rfl (by kernel_rfl) (by kernel_rfl) (by kernel_rfl) (fun _ _ _ h => h) rfl (fun V hV => by simp [go_sem, q1]) hS0 ?_
                simp only [List.getElem_toArray, List.getElem_cons_zero, List.getElem_cons_succ, Act.put, List.setIfInBounds_toArray, List.set_cons_zero, List.set_cons_succ]
                refine take_val 12 (.int .i64 (usN used h : Nat)) rfl (by kernel_rfl) (by kernel_rfl) (by kernel_rfl) (fun _ _ _ h => h) rfl (fun V hV => by by_cases hu2 : used < h + 1; (rw [usN_lt hu2]; have hu3 : (used : Int) < h + 1 := (by omega); simp [go_sem, hu3]); (rw [usN_ge hu2]; have hu3 : ¬ (used : Int) < h + 1 := (by omega); simp [go_sem, hu3])) hS0 ?_
                simp only [List.getElem_toArray, List.getElem_cons_zero, List.getElem_cons_succ, Act.put, List.setIfInBounds_toArray, List.set_cons_zero, List.set_cons_succ]
                refine take_val 13 (.int .i64 (most : Int)) rfl (by kernel_rfl) (by kernel_rfl) (by kernel_rfl) (fun _ _ _ h => h) rfl (fun V hV => by simp [go_sem]) hS0 ?_
                simp only [List.getElem_toArray, List.getElem_cons_zero, List.getElem_cons_succ, Act.put, List.setIfInBounds_toArray, List.set_cons_zero, List.set_cons_succ]
                have hSb := hS0.alloc hS0.size (.cells #[.int .i64 (h : Int)] 2)
                have hcl := fun (V : World) (hb : Below V0.heap.size V0 V) => cloneI_any (.slice g k c) given base V (by have := HN.out; omega) (KV.at hb)
                have HCL := Lib.hid hcl; clear hcl
                refine' cut_with (A := ∀ (V : World) (u : Value) (gb : Nat), Below V0.heap.size V0 V → OwnI V V0.heap.size u given → V.cell? ⟨gb, 0, none⟩ = some (.int .i64 (h : Int)) → (_ : World → Value → Nat → Prop) V u gb) (fun hcont => ?_) ?_
                rotate_left
                · refine step_call_or 5 7 50 #[.slice g k c] (.slice (some ⟨V0.drew.heap.size, 0, none⟩) 1 1) (V0.drew.alloc (.cells #[.int .i64 (h : Int)] 2)) (by kernel_rfl) rfl rfl rfl rfl (by simp [go_sem]) (by simp [go_sem]) hSb ?_ ?_
                  · refine (HCL.out _ hS0).mono ?_
                    rintro e V1 ⟨u, rfl, hb1, ho1⟩
                    have hS1 := hS0.trans (hb1.mono hS0.size)
                    refine ⟨_, rfl, hS1, ?_⟩
                    simp only [List.getElem_toArray, List.getElem_cons_zero, List.getElem_cons_succ, Act.put, List.setIfInBounds_toArray, List.set_cons_zero, List.set_cons_succ]
                    refine step_val 7 (.slice (some ⟨V1.heap.size, 0, none⟩) 1 1) (V1.alloc (.cells #[.int .i64 (h : Int)] 2)) (by kernel_rfl) rfl rfl (by simp [go_sem]) (hS1.alloc hS1.size _) ?_
                    simp only [List.getElem_toArray, List.getElem_cons_zero, List.getElem_cons_succ, Act.put, List.setIfInBounds_toArray, List.set_cons_zero, List.set_cons_succ]
                    have hS2 := hS1.alloc hS1.size (.cells #[.int .i64 (h : Int)] 2)
                    have ho2 := (ho1.mono hS0.size).alloc (.cells #[.int .i64 (h : Int)] 2)
                    have hc2 : (V1.alloc (.cells #[.int .i64 (h : Int)] 2)).cell? ⟨V1.heap.size, 0, none⟩ = some (.int .i64 (h : Int)) := by simp
                    generalize V1.alloc (.cells #[.int .i64 (h : Int)] 2) = V at hS2 ho2 hc2 ⊢
                    generalize V1.heap.size = gb at hc2 ⊢
                    exact hcont V u gb hS2 ho2 hc2
                  · --
                    simp only [List.getElem_toArray, List.getElem_cons_zero, List.getElem_cons_succ, Act.put, List.setIfInBounds_toArray, List.set_cons_zero, List.set_cons_succ]
                    have hc3 : (V0.drew.alloc (.cells #[.int .i64 (h : Int)] 2)).cell? ⟨V0.drew.heap.size, 0, none⟩ = some (.int .i64 (h : Int)) := (row_cell 0 (heap_alloc_new V0.drew (.cells #[.int .i64 (h : Int)] 2))).trans rfl
                    refine step_call 5 50 #[.slice g k c] (by kernel_rfl) rfl rfl (by simp [go_sem]) ?_
                    refine (HCL.out _ hSb).mono ?_
                    rintro e V1 ⟨u, rfl, hb1, ho1⟩
                    have hS1 := hSb.trans (hb1.mono hSb.size)
                    refine ⟨_, rfl, hS1, ?_⟩
                    simp only [List.getElem_toArray, List.getElem_cons_zero, List.getElem_cons_succ, Act.put, List.setIfInBounds_toArray, List.set_cons_zero, List.set_cons_succ]
                    have hc4 := (hb1.cell (p := ⟨V0.drew.heap.size, 0, none⟩) (by simp)).trans hc3
                    have ho2 := ho1.mono hSb.size
                    generalize V0.drew.heap.size = gb at hc4 ⊢
                    exact hcont V1 u gb hS1 ho2 hc4
                · intro V u gb hS ho hc
                  refine step_append_int 8 (by kernel_rfl) rfl rfl _ _ rfl V0.heap.size u given rfl ho gb (h : Int) rfl hc (by have := HN.out; omega) hS.size ?_
                  intro v5 w5 ho5 hb5
                  have hS5 := hS.trans hb5
                  refine ⟨hS5, ?_⟩
                  simp only [List.getElem_toArray, List.getElem_cons_zero, List.getElem_cons_succ, Act.put, List.setIfInBounds_toArray, List.set_cons_zero, List.set_cons_succ]
                  have hcall := HIH.out (given ++ [(h : Int)]) v5 (usN used h) w5 (by have := HN.out; simp; omega) (usN_le hu h2) (by have := hS5.size; omega) (KSE.at hS5) (KVA.at hS5) (ho5.mono hbw2)
                  rw [← HT.out] at hcall
                  cases htb : tryB s r ats most f given used h
                  · rw [htb] at hcall
                    refine step_call 14 49 #[v5, .int .i64 (usN used h : Nat), .int .i64 (most : Int), .pointer (some ⟨ga, 0, none⟩), .pointer (some ⟨gn, 0, none⟩), .pointer (some ⟨gf, 0, none⟩)] (by kernel_rfl) rfl rfl (by simp [go_sem]) ?_
                    refine (hcall).mono ?_
                    rintro e V2 ⟨rfl, hb7⟩
                    refine ⟨_, rfl, hS5.trans (hb7.mono hS5.size), ?_⟩
                    simp only [List.getElem_toArray, List.getElem_cons_zero, List.getElem_cons_succ, Act.put, List.setIfInBounds_toArray, List.set_cons_zero, List.set_cons_succ]
                    have hS7 := hS5.trans (hb7.mono hS5.size)
                    refine take_val 15 (.bool false) rfl (by kernel_rfl) (by kernel_rfl) (by kernel_rfl) (fun _ _ _ h => h) rfl (fun V hV => by simp [go_sem]) hS7 ?_
                    simp only [List.getElem_toArray, List.getElem_cons_zero, List.getElem_cons_succ, Act.put, List.setIfInBounds_toArray, List.set_cons_zero, List.set_cons_succ]
                    refine wpAnyH_done (by kernel_rfl) ?_ _
                    have HBE := Lib.hid (HB2.out.trans (hS7.mono HB2.out.size))
                    clear hS0 hS7 hb7 hS5 hS hb5 hcall
                    go_wp2
                    exact ⟨⟨HB.out.trans (HBE.out.mono HB.out.size), h + 1, by omega, by go_num, fun y hy => if e : y = h then by rw [e]; exact htb else HNO.out y (by omega)⟩, by simp [intOf]; omega⟩
                  · rw [htb] at hcall
                    have hbt : anyB (tryB s r ats most f given used) (tryN used most) = true := anyB_iff.2 ⟨h, hlt, htb⟩
                    have HBT := Lib.hid hbt; clear hbt
                    refine step_call 14 49 #[v5, .int .i64 (usN used h : Nat), .int .i64 (most : Int), .pointer (some ⟨ga, 0, none⟩), .pointer (some ⟨gn, 0, none⟩), .pointer (some ⟨gf, 0, none⟩)] (by kernel_rfl) rfl rfl (by simp [go_sem]) ?_
                    refine (hcall).mono ?_
                    rintro e V2 ⟨rfl, hb7⟩
                    refine ⟨_, rfl, hS5.trans (hb7.mono hS5.size), ?_⟩
                    simp only [List.getElem_toArray, List.getElem_cons_zero, List.getElem_cons_succ, Act.put, List.setIfInBounds_toArray, List.set_cons_zero, List.set_cons_succ]
                    have hS7 := hS5.trans (hb7.mono hS5.size)
                    refine take_val 15 (.bool true) rfl (by kernel_rfl) (by kernel_rfl) (by kernel_rfl) (fun _ _ _ h => h) rfl (fun V hV => by simp [go_sem]) hS7 ?_
                    simp only [List.getElem_toArray, List.getElem_cons_zero, List.getElem_cons_succ, Act.put, List.setIfInBounds_toArray, List.set_cons_zero, List.set_cons_succ]
                    refine wpAnyH_done (by kernel_rfl) ?_ _
                    have HBE := Lib.hid (HB2.out.trans (hS7.mono HB2.out.size))
                    clear hS0 hS7 hb7 hS5 hS hb5 hcall
                    go_wp2
                    go_ret
                    exact ⟨ret_bool HBT.out.symm, HB.out.trans (HBE.out.mono HB.out.size)⟩
              · --
                refine take_val 1 (.bool false) rfl (by kernel_rfl) (by kernel_rfl) (by kernel_rfl) (fun _ _ _ h => h) rfl (fun V hV => by simp [go_sem]) hS0 ?_
                simp only [List.getElem_toArray, List.getElem_cons_zero, List.getElem_cons_succ, Act.put, List.setIfInBounds_toArray, List.set_cons_zero, List.set_cons_succ]
                refine take_val 2 (.bool false) rfl (by kernel_rfl) (by kernel_rfl) (by kernel_rfl) (fun _ _ _ h => h) rfl (fun V hV => by simp [go_sem]) hS0 ?_
                simp only [List.getElem_toArray, List.getElem_cons_zero, List.getElem_cons_succ, Act.put, List.setIfInBounds_toArray, List.set_cons_zero, List.set_cons_succ]
                refine skip_val 3 rfl (by kernel_rfl) (by kernel_rfl) (by kernel_rfl) (fun _ _ _ h => h) rfl hS0 ?_
                simp only [List.getElem_toArray, List.getElem_cons_zero, List.getElem_cons_succ, Act.put, List.setIfInBounds_toArray, List.set_cons_zero, List.set_cons_succ]
                refine skip_val 4 rfl (by kernel_rfl) (by kernel_rfl) (by kernel_rfl) (fun _ _ _ h => h) rfl hS0 ?_
                simp only [List.getElem_toArray, List.getElem_cons_zero, List.getElem_cons_succ, Act.put, List.setIfInBounds_toArray, List.set_cons_zero, List.set_cons_succ]
                refine skip_val 5 rfl (by kernel_rfl) (by kernel_rfl) (by kernel_rfl) (fun _ _ _ h => h) rfl hS0 ?_
                simp only [List.getElem_toArray, List.getElem_cons_zero, List.getElem_cons_succ, Act.put, List.setIfInBounds_toArray, List.set_cons_zero, List.set_cons_succ]
                refine skip_val 6 rfl (by kernel_rfl) (by kernel_rfl) (by kernel_rfl) (fun _ _ _ h => h) rfl hS0 ?_
                simp only [List.getElem_toArray, List.getElem_cons_zero, List.getElem_cons_succ, Act.put, List.setIfInBounds_toArray, List.set_cons_zero, List.set_cons_succ]
                refine skip_val 7 rfl (by kernel_rfl) (by kernel_rfl) (by kernel_rfl) (fun _ _ _ h => h) rfl hS0 ?_
                simp only [List.getElem_toArray, List.getElem_cons_zero, List.getElem_cons_succ, Act.put, List.setIfInBounds_toArray, List.set_cons_zero, List.set_cons_succ]
                refine skip_val 8 rfl (by kernel_rfl) (by kernel_rfl) (by kernel_rfl) (fun _ _ _ h => h) rfl hS0 ?_
                simp only [List.getElem_toArray, List.getElem_cons_zero, List.getElem_cons_succ, Act.put, List.setIfInBounds_toArray, List.set_cons_zero, List.set_cons_succ]
                refine skip_val 9 rfl (by kernel_rfl) (by kernel_rfl) (by kernel_rfl) (fun _ _ _ h => h) rfl hS0 ?_
                simp only [List.getElem_toArray, List.getElem_cons_zero, List.getElem_cons_succ, Act.put, List.setIfInBounds_toArray, List.set_cons_zero, List.set_cons_succ]
                refine skip_val 10 rfl (by kernel_rfl) (by kernel_rfl) (by kernel_rfl) (fun _ _ _ h => h) rfl hS0 ?_
                simp only [List.getElem_toArray, List.getElem_cons_zero, List.getElem_cons_succ, Act.put, List.setIfInBounds_toArray, List.set_cons_zero, List.set_cons_succ]
                refine skip_val 11 rfl (by kernel_rfl) (by kernel_rfl) (by kernel_rfl) (fun _ _ _ h => h) rfl hS0 ?_
                simp only [List.getElem_toArray, List.getElem_cons_zero, List.getElem_cons_succ, Act.put, List.setIfInBounds_toArray, List.set_cons_zero, List.set_cons_succ]
                refine skip_val 12 rfl (by kernel_rfl) (by kernel_rfl) (by kernel_rfl) (fun _ _ _ h => h) rfl hS0 ?_
                simp only [List.getElem_toArray, List.getElem_cons_zero, List.getElem_cons_succ, Act.put, List.setIfInBounds_toArray, List.set_cons_zero, List.set_cons_succ]
                refine skip_val 13 rfl (by kernel_rfl) (by kernel_rfl) (by kernel_rfl) (fun _ _ _ h => h) rfl hS0 ?_
                simp only [List.getElem_toArray, List.getElem_cons_zero, List.getElem_cons_succ, Act.put, List.setIfInBounds_toArray, List.set_cons_zero, List.set_cons_succ]
                refine skip_val 14 rfl (by kernel_rfl) (by kernel_rfl) (by kernel_rfl) (fun _ _ _ h => h) rfl hS0 ?_
                simp only [List.getElem_toArray, List.getElem_cons_zero, List.getElem_cons_succ, Act.put, List.setIfInBounds_toArray, List.set_cons_zero, List.set_cons_succ]
                refine take_val 15 (.bool false) rfl (by kernel_rfl) (by kernel_rfl) (by kernel_rfl) (fun _ _ _ h => h) rfl (fun V hV => by simp [go_sem]) hS0 ?_
                simp only [List.getElem_toArray, List.getElem_cons_zero, List.getElem_cons_succ, Act.put, List.setIfInBounds_toArray, List.set_cons_zero, List.set_cons_succ]
                refine wpAnyH_done (by kernel_rfl) ?_ _
                have HBE := Lib.hid (HB2.out.drew)
                clear hS0
                go_wp2
                exact ⟨⟨HB.out.trans (HBE.out.mono HB.out.size), h + 1, by omega, by go_num, fun y hy => if e : y = h then by rw [e]; exact tryB_no s r ats (HK1.out rfl) else HNO.out y (by omega)⟩, by simp [intOf]; omega⟩
        · have hbf : anyB (tryB s r ats most f given used) (tryN used most) = false := anyB_false fun y hy => HNO.out y (by omega)
          have HBF := Lib.hid hbf; clear hbf
          have h1' : ¬ (h : Int) < used + 1 ∨ ¬ (h : Int) < most := by
            by_cases e : (h : Int) < used + 1
            · exact .inr fun e2 => hlt (ht.2 ⟨by omega, by omega⟩)
            · exact .inl e
          clear ht
          first
            | have h4' : ¬ (h : Int) < used + 1 := by omega
            | have h4' : ¬ (h : Int) < most := by omega
          clear h1'
          go_wp2
          go_ret
          exact ⟨ret_bool HBF.out.symm, hb⟩
end Go.Proofs.Yteffaghcjpeblaa
