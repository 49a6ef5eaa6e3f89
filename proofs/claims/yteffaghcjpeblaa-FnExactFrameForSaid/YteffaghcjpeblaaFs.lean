/- How many hammers are needed: the reference's search. No conditions. -/
import Derived.Test.YteffaghcjpeblaaFq
import Derived.Test.YteffaghcjpeblaaLo
import Derived.Test.YteffaghcjpeblaaTv
import Derived.Outline
namespace Go.Proofs.Yteffaghcjpeblaa
open Go.RowKit
set_option linter.unusedVariables false
set_option linter.unusedSimpArgs false

theorem OwnI.pos_form {w : World} {base : Nat} {v : Value} {l : List Int} (h : OwnI w base v l) (hl : 0 < l.length) : ∃ g c, v = .slice (some ⟨g, 0, none⟩) l.length c ∧ base ≤ g ∧ g < w.heap.size ∧ ∀ j, j < l.length → w.cell? ⟨g, j, none⟩ = some (.int .i64 (l.getD j 0)) := by
  rcases own_at h with ⟨_, e⟩ | ⟨g, c, e, hg, hlt, hc⟩
  · omega
  · refine ⟨g, c, e, hg, hlt, fun j hj => ?_⟩
    rw [hc j (by omega), List.getElem?_map, List.getElem?_eq_getElem hj]
    simp [List.getD, hj]
theorem kp_cells {w : World} {g n : Nat} {l : List Int} (hg : g < w.heap.size) (h : ∀ j, j < n → w.cell? ⟨g, j, none⟩ = some (.int .i64 (l.getD j 0))) : Kp w (fun V => ∀ j, j < n → V.cell? ⟨g, j, none⟩ = some (.int .i64 (l.getD j 0))) := Kp.mk fun _ hb j hj => (hb.cell (p := ⟨g, j, none⟩) hg).trans (h j hj)
/-- pins of one's own, given and to come -/
def inS (s : Int) (ats : List Int) : Prop := ∀ x, x < ats.length → 0 ≤ ats.getD x 0 ∧ ats.getD x 0 < s
set_option maxRecDepth 100000 in
set_option maxHeartbeats 4000000 in
theorem l03Split_any (base : Nat) (s r : Int) (ats : List Int) (va : Value) (most : Nat) (hs : 2 ≤ s ∧ s ≤ 96) (hl : ats.length ≤ 14) (hats : inS s ats) (hmost : most ≤ 14) (f : Nat) :
    ∀ (given : List Int) (v : Value) (used : Nat) (W : World), given.length + f = ats.length → used ≤ most → base ≤ W.heap.size → OwnI W base va ats → OwnI W base v given → ¬ v = .slice none 0 0 →
    Calls Try.prog 43 #[va, v, .int .i64 (used : Int), .int .i64 (most : Int), .int .i64 s, .int .i64 r] W fun e W' => e = .returned (.bool (spl s r ats most f given used)) ∧ Below W.heap.size W W' := by
  have HATS := Lib.hid hats; clear hats
  induction f with
  | zero =>
    intro given v used W hlen hu hbW hva hv hne
    obtain ⟨g, c, rfl, _⟩ := hv.some_form hne
    obtain ⟨q, c', rfl, _⟩ := OwnI.at hva
    clear hva hv hne
    have hgl : given.length = ats.length := by omega
    rw [hgl, spl_zero]
    go_enter Try.func43, Try.ntmps43
    go_wp2
    go_ret
    exact ⟨rfl, Below.refl _ _⟩
  | succ f ih =>
    have HIH := Lib.hid ih; clear ih
    intro given v used W hlen hu hbW hva hv hne
    have KVA := kp_OwnI hva; have KV := kp_OwnI hv
    have KB := Kp.base W
    obtain ⟨g, c, rfl, hgb, hg, hcg⟩ := hv.some_form hne
    obtain ⟨ga, c', rfl, hgab, hga, hca⟩ := hva.pos_form (by omega)
    clear hva hv hne
    have KCG := kp_cells hg hcg
    have KCA := kp_cells hga hca
    clear hcg hca
    rw [spl_succ]
    obtain ⟨n, hn⟩ : ∃ n, given.length = n := ⟨_, rfl⟩
    obtain ⟨m, hm⟩ : ∃ n, ats.length = n := ⟨_, rfl⟩
    have HN := Lib.hid hn
    have HM := Lib.hid hm
    rw [hn] at hlen KCG ⊢
    rw [hm] at hlen hl KCA ⊢
    clear hn hm
    have hnm : n < m := by omega
    have hne : ((n : Int) == (m : Int)) = false := beq_false_of_ne (by omega)
    go_enter Try.func43, Try.ntmps43
    go_wp2
    go_loopw [14] (fun i w' => Below W.heap.size W w' ∧ ∃ h : Nat, h ≤ tryN used most ∧ i = .int .i64 h ∧ ∀ y, y < h → tryB s r ats most f given used y = false) (fun i _ => 20 - (intOf i).toNat)
    case atStart => exact ⟨Below.refl _ _, 0, by omega, rfl, fun y hy => by omega⟩
    case round =>
      obtain ⟨hb, h, hh, rfl, hno⟩ := hrel
      replace KVA := KVA.on hb
      replace KV := KV.on hb
      replace KCG := KCG.on hb
      replace KCA := KCA.on hb
      replace KB := KB.on hb
      have HNO := Lib.hid hno; clear hno
      have hbw : base ≤ wr.heap.size := Nat.le_trans hbW hb.size
      have ht := tryN_lt (used := used) (most := most) (h := h)
      have h14 : h ≤ 15 := by have := tryN_lt (used := used) (most := most) (h := h - 1); omega
      by_cases hlt : h < tryN used most
      · obtain ⟨h1, h2⟩ := ht.1 hlt
        have h1' : (h : Int) ≤ used := by omega
        have h2' : (h : Int) < most := by omega
        clear ht
        have HB := Lib.hid hb; clear hb
        go_wp2
        obtain ⟨U, rfl⟩ : ∃ U, U = wr := ⟨wr, rfl⟩
        go_loopw [15, 16] (fun b i w' => Below U.heap.size U w' ∧ ∃ k : Nat, k ≤ n ∧ i = .int .i64 k ∧ ((b = .bool true ∧ ∀ j, j < k → inWay s r ats given (h : Int) j = false) ∨ (b = .bool false ∧ okG s r ats given (h : Int) = false))) (fun _ i _ => 20 - (intOf i).toNat)
        case atStart => exact ⟨Below.refl _ _, 0, by omega, rfl, .inl ⟨rfl, fun j hj => by omega⟩⟩
        case round =>
          obtain ⟨hb, k, hk, rfl, hcase⟩ := hrel
          rcases hcase with ⟨rfl, hK⟩ | ⟨rfl, hK⟩
          · have HK := Lib.hid hK; clear hK
            have HB2 := Lib.hid hb
            replace KVA := KVA.on hb
            replace KV := KV.on hb
            replace KCG := KCG.on hb
            replace KCA := KCA.on hb
            replace KB := KB.on hb
            have hbw2 : base ≤ wr.heap.size := Nat.le_trans hbw hb.size
            clear hb
            by_cases hlt2 : k < n
            · have hk' : (k : Int) < n := by omega
              have hkm : (k : Int) < m := by omega
              have hnm' : (n : Int) < m := by omega
              go_wp2
              obtain ⟨V0, rfl⟩ : ∃ U, U = wr := ⟨wr, rfl⟩
              have hS0 := below_drew V0
              refine wp_region_S (fun V => Below V0.heap.size V0 V) (by kernel_rfl) hS0 ?_
              refine take_val 0 (.slice (some ⟨g, 0, none⟩) n c) rfl (by kernel_rfl) (by kernel_rfl) (by kernel_rfl) (fun _ _ _ h => h) rfl (fun V hV => by simp [go_sem]) hS0 ?_
              simp only [List.getElem_toArray, List.getElem_cons_zero, List.getElem_cons_succ, Act.put, List.setIfInBounds_toArray, List.set_cons_zero, List.set_cons_succ]
              refine take_val 1 (.int .i64 (k : Int)) rfl (by kernel_rfl) (by kernel_rfl) (by kernel_rfl) (fun _ _ _ h => h) rfl (fun V hV => by simp [go_sem]) hS0 ?_
              simp only [List.getElem_toArray, List.getElem_cons_zero, List.getElem_cons_succ, Act.put, List.setIfInBounds_toArray, List.set_cons_zero, List.set_cons_succ]
              refine take_val 2 (.pointer (some ⟨g, k, none⟩)) rfl (by kernel_rfl) (by kernel_rfl) (by kernel_rfl) (fun _ _ _ h => h) rfl (fun V hV => by simp [go_sem, hk']) hS0 ?_
              simp only [List.getElem_toArray, List.getElem_cons_zero, List.getElem_cons_succ, Act.put, List.setIfInBounds_toArray, List.set_cons_zero, List.set_cons_succ]
              obtain ⟨x0, hx0⟩ : ∃ x, given.getD k 0 = x := ⟨_, rfl⟩
              refine take_val 3 (.int .i64 x0) rfl (by kernel_rfl) (by kernel_rfl) (by kernel_rfl) (fun _ _ _ h => h) rfl (fun V hV => by have h := KCG.at hV k hlt2; rw [hx0] at h; simp [go_sem, h]) hS0 ?_
              simp only [List.getElem_toArray, List.getElem_cons_zero, List.getElem_cons_succ, Act.put, List.setIfInBounds_toArray, List.set_cons_zero, List.set_cons_succ]
              refine take_val 4 (.int .i64 (h : Int)) rfl (by kernel_rfl) (by kernel_rfl) (by kernel_rfl) (fun _ _ _ h => h) rfl (fun V hV => by simp [go_sem]) hS0 ?_
              simp only [List.getElem_toArray, List.getElem_cons_zero, List.getElem_cons_succ, Act.put, List.setIfInBounds_toArray, List.set_cons_zero, List.set_cons_succ]
              by_cases hg : x0 = (h : Int)
              · have HW := Lib.hid (inWay_yes (s := s) (r := r) (ats := ats) (hx0.trans hg))
                refine take_val 5 (.bool false) rfl (by kernel_rfl) (by kernel_rfl) (by kernel_rfl) (fun _ _ _ h => h) rfl (fun V hV => by simp [go_sem, hg]) hS0 ?_
                simp only [List.getElem_toArray, List.getElem_cons_zero, List.getElem_cons_succ, Act.put, List.setIfInBounds_toArray, List.set_cons_zero, List.set_cons_succ]
                refine take_val 6 (.bool false) rfl (by kernel_rfl) (by kernel_rfl) (by kernel_rfl) (fun _ _ _ h => h) rfl (fun V hV => by simp [go_sem]) hS0 ?_
                simp only [List.getElem_toArray, List.getElem_cons_zero, List.getElem_cons_succ, Act.put, List.setIfInBounds_toArray, List.set_cons_zero, List.set_cons_succ]
                refine take_val 7 (.slice (some ⟨ga, 0, none⟩) m c') rfl (by kernel_rfl) (by kernel_rfl) (by kernel_rfl) (fun _ _ _ h => h) rfl (fun V hV => by simp [go_sem]) hS0 ?_
                simp only [List.getElem_toArray, List.getElem_cons_zero, List.getElem_cons_succ, Act.put, List.setIfInBounds_toArray, List.set_cons_zero, List.set_cons_succ]
                refine take_val 8 (.int .i64 (k : Int)) rfl (by kernel_rfl) (by kernel_rfl) (by kernel_rfl) (fun _ _ _ h => h) rfl (fun V hV => by simp [go_sem]) hS0 ?_
                simp only [List.getElem_toArray, List.getElem_cons_zero, List.getElem_cons_succ, Act.put, List.setIfInBounds_toArray, List.set_cons_zero, List.set_cons_succ]
                refine take_val 9 (.pointer (some ⟨ga, k, none⟩)) rfl (by kernel_rfl) (by kernel_rfl) (by kernel_rfl) (fun _ _ _ h => h) rfl (fun V hV => by simp [go_sem, hkm]) hS0 ?_
                simp only [List.getElem_toArray, List.getElem_cons_zero, List.getElem_cons_succ, Act.put, List.setIfInBounds_toArray, List.set_cons_zero, List.set_cons_succ]
                refine take_val 10 (.int .i64 (ats.getD k 0)) rfl (by kernel_rfl) (by kernel_rfl) (by kernel_rfl) (fun _ _ _ h => h) rfl (fun V hV => by have h := KCA.at hV k (by omega); simp [go_sem, h]) hS0 ?_
                simp only [List.getElem_toArray, List.getElem_cons_zero, List.getElem_cons_succ, Act.put, List.setIfInBounds_toArray, List.set_cons_zero, List.set_cons_succ]
                refine take_val 11 (.slice (some ⟨ga, 0, none⟩) m c') rfl (by kernel_rfl) (by kernel_rfl) (by kernel_rfl) (fun _ _ _ h => h) rfl (fun V hV => by simp [go_sem]) hS0 ?_
                simp only [List.getElem_toArray, List.getElem_cons_zero, List.getElem_cons_succ, Act.put, List.setIfInBounds_toArray, List.set_cons_zero, List.set_cons_succ]
                refine take_val 12 (.int .i64 (n : Int)) rfl (by kernel_rfl) (by kernel_rfl) (by kernel_rfl) (fun _ _ _ h => h) rfl (fun V hV => by simp [go_sem]) hS0 ?_
                simp only [List.getElem_toArray, List.getElem_cons_zero, List.getElem_cons_succ, Act.put, List.setIfInBounds_toArray, List.set_cons_zero, List.set_cons_succ]
                refine take_val 13 (.pointer (some ⟨ga, n, none⟩)) rfl (by kernel_rfl) (by kernel_rfl) (by kernel_rfl) (fun _ _ _ h => h) rfl (fun V hV => by simp [go_sem, hnm']) hS0 ?_
                simp only [List.getElem_toArray, List.getElem_cons_zero, List.getElem_cons_succ, Act.put, List.setIfInBounds_toArray, List.set_cons_zero, List.set_cons_succ]
                refine take_val 14 (.int .i64 (ats.getD n 0)) rfl (by kernel_rfl) (by kernel_rfl) (by kernel_rfl) (fun _ _ _ h => h) rfl (fun V hV => by have h := KCA.at hV n hnm; simp [go_sem, h]) hS0 ?_
                simp only [List.getElem_toArray, List.getElem_cons_zero, List.getElem_cons_succ, Act.put, List.setIfInBounds_toArray, List.set_cons_zero, List.set_cons_succ]
                refine take_val 15 (.int .i64 s) rfl (by kernel_rfl) (by kernel_rfl) (by kernel_rfl) (fun _ _ _ h => h) rfl (fun V hV => by simp [go_sem]) hS0 ?_
                simp only [List.getElem_toArray, List.getElem_cons_zero, List.getElem_cons_succ, Act.put, List.setIfInBounds_toArray, List.set_cons_zero, List.set_cons_succ]
                refine take_val 16 (.int .i64 r) rfl (by kernel_rfl) (by kernel_rfl) (by kernel_rfl) (fun _ _ _ h => h) rfl (fun V hV => by simp [go_sem]) hS0 ?_
                simp only [List.getElem_toArray, List.getElem_cons_zero, List.getElem_cons_succ, Act.put, List.setIfInBounds_toArray, List.set_cons_zero, List.set_cons_succ]
                have hcon := l03Near_any (ats.getD k 0) (ats.getD n 0) s r V0.drew hs (HATS.out k (by have := HM.out; omega)) (HATS.out n (by have := HM.out; omega))
                rw [HN.out] at HW
                rw [← HW.out] at hcon
                cases hiw : inWay s r ats given (h : Int) k
                · rw [hiw] at hcon
                  refine step_call 17 66 #[.int .i64 (ats.getD k 0), .int .i64 (ats.getD n 0), .int .i64 s, .int .i64 r] (by kernel_rfl) rfl rfl (by simp [go_sem]) ?_
                  refine (hcon).mono ?_
                  rintro e V2 ⟨rfl, rfl⟩
                  refine ⟨_, rfl, hS0, ?_⟩
                  simp only [List.getElem_toArray, List.getElem_cons_zero, List.getElem_cons_succ, Act.put, List.setIfInBounds_toArray, List.set_cons_zero, List.set_cons_succ]
                  refine take_val 18 (.bool true) rfl (by kernel_rfl) (by kernel_rfl) (by kernel_rfl) (fun _ _ _ h => h) rfl (fun V hV => by simp [go_sem]) hS0 ?_
                  simp only [List.getElem_toArray, List.getElem_cons_zero, List.getElem_cons_succ, Act.put, List.setIfInBounds_toArray, List.set_cons_zero, List.set_cons_succ]
                  refine take_val 19 (.bool true) rfl (by kernel_rfl) (by kernel_rfl) (by kernel_rfl) (fun _ _ _ h => h) rfl (fun V hV => by simp [go_sem]) hS0 ?_
                  simp only [List.getElem_toArray, List.getElem_cons_zero, List.getElem_cons_succ, Act.put, List.setIfInBounds_toArray, List.set_cons_zero, List.set_cons_succ]
                  refine take_val 20 (.bool true) rfl (by kernel_rfl) (by kernel_rfl) (by kernel_rfl) (fun _ _ _ h => h) rfl (fun V hV => by simp [go_sem]) hS0 ?_
                  simp only [List.getElem_toArray, List.getElem_cons_zero, List.getElem_cons_succ, Act.put, List.setIfInBounds_toArray, List.set_cons_zero, List.set_cons_succ]
                  refine wpAnyH_done (by kernel_rfl) ?_ _
                  have HBE := Lib.hid (HB2.out.drew)
                  clear hS0 hcon
                  go_wp2
                  go_roundw
                  case rel => exact ⟨HBE.out, k + 1, by omega, by go_num, .inl ⟨rfl, fun j hj => if e : j = k then e ▸ hiw else HK.out j (by omega)⟩⟩
                  case measure => simp [intOf]; omega
                · rw [hiw] at hcon
                  have HBAD := Lib.hid (okG_bad (by have := HN.out; omega) hiw)
                  refine step_call 17 66 #[.int .i64 (ats.getD k 0), .int .i64 (ats.getD n 0), .int .i64 s, .int .i64 r] (by kernel_rfl) rfl rfl (by simp [go_sem]) ?_
                  refine (hcon).mono ?_
                  rintro e V2 ⟨rfl, rfl⟩
                  refine ⟨_, rfl, hS0, ?_⟩
                  simp only [List.getElem_toArray, List.getElem_cons_zero, List.getElem_cons_succ, Act.put, List.setIfInBounds_toArray, List.set_cons_zero, List.set_cons_succ]
                  refine take_val 18 (.bool false) rfl (by kernel_rfl) (by kernel_rfl) (by kernel_rfl) (fun _ _ _ h => h) rfl (fun V hV => by simp [go_sem]) hS0 ?_
                  simp only [List.getElem_toArray, List.getElem_cons_zero, List.getElem_cons_succ, Act.put, List.setIfInBounds_toArray, List.set_cons_zero, List.set_cons_succ]
                  refine take_val 19 (.bool false) rfl (by kernel_rfl) (by kernel_rfl) (by kernel_rfl) (fun _ _ _ h => h) rfl (fun V hV => by simp [go_sem]) hS0 ?_
                  simp only [List.getElem_toArray, List.getElem_cons_zero, List.getElem_cons_succ, Act.put, List.setIfInBounds_toArray, List.set_cons_zero, List.set_cons_succ]
                  refine take_val 20 (.bool false) rfl (by kernel_rfl) (by kernel_rfl) (by kernel_rfl) (fun _ _ _ h => h) rfl (fun V hV => by simp [go_sem]) hS0 ?_
                  simp only [List.getElem_toArray, List.getElem_cons_zero, List.getElem_cons_succ, Act.put, List.setIfInBounds_toArray, List.set_cons_zero, List.set_cons_succ]
                  refine wpAnyH_done (by kernel_rfl) ?_ _
                  have HBE := Lib.hid (HB2.out.drew)
                  clear hS0 hcon
                  go_wp2
                  go_roundw
                  case rel => exact ⟨HBE.out, k + 1, by omega, by go_num, .inr ⟨rfl, HBAD.out⟩⟩
                  case measure => simp [intOf]; omega
              · have hiw := inWay_no (s := s) (r := r) (ats := ats) (fun e => hg (hx0.symm.trans e))
                refine take_val 5 (.bool true) rfl (by kernel_rfl) (by kernel_rfl) (by kernel_rfl) (fun _ _ _ h => h) rfl (fun V hV => by simp [go_sem, hg]) hS0 ?_
                simp only [List.getElem_toArray, List.getElem_cons_zero, List.getElem_cons_succ, Act.put, List.setIfInBounds_toArray, List.set_cons_zero, List.set_cons_succ]
                refine take_val 6 (.bool true) rfl (by kernel_rfl) (by kernel_rfl) (by kernel_rfl) (fun _ _ _ h => h) rfl (fun V hV => by simp [go_sem]) hS0 ?_
                simp only [List.getElem_toArray, List.getElem_cons_zero, List.getElem_cons_succ, Act.put, List.setIfInBounds_toArray, List.set_cons_zero, List.set_cons_succ]
                refine skip_val 7 rfl (by kernel_rfl) (by kernel_rfl) (by kernel_rfl) (fun _ _ _ h => h) rfl hS0 ?_
                simp only [List.getElem_toArray, List.getElem_cons_zero, List.getElem_cons_succ, Act.put, List.setIfInBounds_toArray, List.set_cons_zero, List.set_cons_succ]
                refine skip_val 8 rfl (by kernel_rfl) (by kernel_rfl) (by kernel_rfl) (fun _ _ _ h => h) rfl hS0 ?_
                simp only [List.getElem_toArray, List.getElem_cons_zero, List.getElem_cons_succ, Act.put, List.setIfInBounds_toArray, List.set_cons_zero, List.set_cons_succ]
                refine skip_val 9 rfl (by kernel_rfl) (by kernel_rfl) (by kernel_rfl) (fun _ _ _ h => h) rfl hS0 ?_
                simp only [List.getElem_toArray, List.getElem_cons_zero, List.getElem_cons_succ, Act.put, List.setIfInBounds_toArray, List.set_cons_zero, List.set_cons_succ]
                refine skip_val 10 rfl (by kernel_rfl) (by kernel_rfl) (by kernel_rfl) (fun _ _ _ h => h) rfl hS0 ?_
                simp only [List.getElem_toArray, List.getElem_cons_zero, List.getElem_cons_succ, Act.put, List.setIfInBounds_toArray, List.set_cons_zero, List.set_cons_succ]
                refine skip_val 11 rfl (by kernel_rfl) (by kernel_rfl) (by kernel_rfl) (fun _ _ _ h => h) rfl hS0 ?_
                simp only [List.getElem_toArray, List.getElem_cons_zero, List.getElem_cons_succ, Act.put, List.setIfInBounds_toArray, List.set_cons_zero, List.set_cons_succ]
                refine skip_val 12 rfl (by kernel_rfl) (by kernel_rfl) (by kernel_rfl) (fun _ _ _ h => h) rfl hS0 ?_
                simp only [List.getElem_toArray, List.getElem_cons_zero, List.getElem_cons_succ, Act.put, List.setIfInBounds_toArray, List.set_cons_zero, List.set_cons_succ]
                refine skip_val 13 rfl (by kernel_rfl) (by kernel_rfl) (by kernel_rfl) (fun _ _ _ h => h) rfl hS0 ?_
                simp only [List.getElem_toArray, List.getElem_cons_zero, List.getElem_cons_succ, Act.put, List.setIfInBounds_toArray, List.set_cons_zero, List.set_cons_succ]
                refine skip_val 14 rfl (by kernel_rfl) (by kernel_rfl) (by kernel_rfl) (fun _ _ _ h => h) rfl hS0 ?_
                simp only [List.getElem_toArray, List.getElem_cons_zero, List.getElem_cons_succ, Act.put, List.setIfInBounds_toArray, List.set_cons_zero, List.set_cons_succ]
                refine skip_val 15 rfl (by kernel_rfl) (by kernel_rfl) (by kernel_rfl) (fun _ _ _ h => h) rfl hS0 ?_
                simp only [List.getElem_toArray, List.getElem_cons_zero, List.getElem_cons_succ, Act.put, List.setIfInBounds_toArray, List.set_cons_zero, List.set_cons_succ]
                refine skip_val 16 rfl (by kernel_rfl) (by kernel_rfl) (by kernel_rfl) (fun _ _ _ h => h) rfl hS0 ?_
                simp only [List.getElem_toArray, List.getElem_cons_zero, List.getElem_cons_succ, Act.put, List.setIfInBounds_toArray, List.set_cons_zero, List.set_cons_succ]
                refine skip_val 17 rfl (by kernel_rfl) (by kernel_rfl) (by kernel_rfl) (fun _ _ _ h => h) rfl hS0 ?_
                simp only [List.getElem_toArray, List.getElem_cons_zero, List.getElem_cons_succ, Act.put, List.setIfInBounds_toArray, List.set_cons_zero, List.set_cons_succ]
                refine skip_val 18 rfl (by kernel_rfl) (by kernel_rfl) (by kernel_rfl) (fun _ _ _ h => h) rfl hS0 ?_
                simp only [List.getElem_toArray, List.getElem_cons_zero, List.getElem_cons_succ, Act.put, List.setIfInBounds_toArray, List.set_cons_zero, List.set_cons_succ]
                refine take_val 19 (.bool true) rfl (by kernel_rfl) (by kernel_rfl) (by kernel_rfl) (fun _ _ _ h => h) rfl (fun V hV => by simp [go_sem]) hS0 ?_
                simp only [List.getElem_toArray, List.getElem_cons_zero, List.getElem_cons_succ, Act.put, List.setIfInBounds_toArray, List.set_cons_zero, List.set_cons_succ]
                refine take_val 20 (.bool true) rfl (by kernel_rfl) (by kernel_rfl) (by kernel_rfl) (fun _ _ _ h => h) rfl (fun V hV => by simp [go_sem]) hS0 ?_
                simp only [List.getElem_toArray, List.getElem_cons_zero, List.getElem_cons_succ, Act.put, List.setIfInBounds_toArray, List.set_cons_zero, List.set_cons_succ]
                refine wpAnyH_done (by kernel_rfl) ?_ _
                have HBE := Lib.hid (HB2.out.drew)
                clear hS0
                go_wp2
                go_roundw
                case rel => exact ⟨HBE.out, k + 1, by omega, by go_num, .inl ⟨rfl, fun j hj => if e : j = k then e ▸ hiw else HK.out j (by omega)⟩⟩
                case measure => simp [intOf]; omega
            · have hkn : k = n := by omega
              subst hkn
              have hk' : ¬ (k : Int) < k := by omega
              have hgood := okG_good (s := s) (r := r) (ats := ats) (given := given) (h := (h : Int)) (fun j hj => HK.out j (by have := HN.out; omega))
              have HT := Lib.hid (tryB_yes s r ats (most := most) (f := f) (used := used) hgood)
              have HNEW := Lib.hid (OwnI.nil wr wr.heap.size (Nat.le_refl _))
              have HC1 := Lib.hid (KCG.alloc (.cells #[] 2)).here
              clear hgood
              go_wp2_with (first | (at_builtin; refine append_IG _ _ rfl wr.heap.size (.slice (some ⟨wr.heap.size, 0, none⟩) 0 0) [] rfl HNEW.out g k c given HN.out rfl HC1.out (by simp; omega) (by simp) rfl ?_; intro v3 w4 hown _ hb4 hn4; rw [List.nil_append] at hown; have HO4 := Lib.hid hown; have HB4 := Lib.hid hb4; have HN4 := Lib.hid hn4; clear hown hb4 hn4) | (at_builtin; (refine append_IG _ _ rfl wr.heap.size _ given rfl (HO4.out.alloc _) w4.heap.size 1 1 [(h : Int)] rfl rfl (fun j hj => by have hj0 : j = 0 := (by omega); subst hj0; simp) (by have := HN.out; omega) (by have := HB4.out.size; simp at this ⊢; omega) rfl ?_; intro v5 w5 hown5 _ hb5 hn5; have HO5 := Lib.hid hown5; have HB5 := Lib.hid hb5; have HN5 := Lib.hid hn5; clear hown5 hb5 hn5)) | (go_at_call 67; refine (l00Max_us used h _).mono ?_) | fail)
              have hb5 := Lib.hid (((Below.refl _ _).alloc (Nat.le_refl wr.heap.size) _).trans (HB4.out.trans ((Below.refl w4.heap.size w4).alloc (Nat.le_refl _) _ |>.mono (by have := HB4.out.size; simp at this ⊢; omega))) |>.trans HB5.out)
              have hsz5 := hb5.out.size
              have hlen5 : (given ++ [(h : Int)]).length + f = ats.length := by have := HN.out; have := HM.out; simp; omega
              have hnone : ¬ v5 = .slice none 0 0 := fun e => by have := (HN5.out.1 e).2; omega
              have hcall := HIH.out (given ++ [(h : Int)]) v5 (usN used h) w5 hlen5 (usN_le hu h2) (by omega) (KVA.at hb5.out) (HO5.out.mono hbw2) hnone
              rw [HM.out] at hcall
              have HCALL := Lib.hid hcall; clear hcall
              refine HCALL.out.mono ?_
              rw [← HT.out]
              rintro e w6 ⟨rfl, hb6⟩
              have hbz := HB.out.trans ((HB2.out.trans (hb5.out.trans (hb6.mono hsz5) |>.mono HB2.out.size)).mono HB.out.size)
              cases htb : tryB s r ats most f given used h
              · go_wp2
                exact ⟨⟨hbz, h + 1, by omega, by go_num, fun y hy => if e : y = h then by rw [e]; exact htb else HNO.out y (by omega)⟩, by simp [intOf]; omega⟩
              · have hbt : anyB (tryB s r ats most f given used) (tryN used most) = true := anyB_iff.2 ⟨h, hlt, htb⟩
                have HBT := Lib.hid hbt; clear hbt
                go_wp2
                go_ret
                exact ⟨ret_bool HBT.out.symm, hbz⟩
          · by_cases hkn : (k : Int) < n
            all_goals
              go_wp2
              exact ⟨⟨HB.out.trans (hb.mono HB.out.size), h + 1, by omega, by go_num, fun y hy => if e : y = h then by rw [e]; exact tryB_no s r ats hK else HNO.out y (by omega)⟩, by simp [intOf]; omega⟩
      · have hbf : anyB (tryB s r ats most f given used) (tryN used most) = false := anyB_false fun y hy => HNO.out y (by omega)
        have HBF := Lib.hid hbf; clear hbf
        by_cases h1 : h ≤ used
        · have h1' : (h : Int) ≤ used := by omega
          have h2' : ¬ (h : Int) < most := fun e => hlt (ht.2 ⟨h1, by omega⟩)
          clear ht
          go_wp2
          go_ret
          exact ⟨ret_bool HBF.out.symm, hb⟩
        · have h1' : ¬ (h : Int) ≤ used := by omega
          clear ht
          go_wp2
          go_ret
          exact ⟨ret_bool HBF.out.symm, hb⟩
set_option maxRecDepth 100000 in
set_option maxHeartbeats 4000000 in
theorem l03Needed_any (base : Nat) (s r : Int) (ats : List Int) (va : Value) (W : World) (hs : 2 ≤ s ∧ s ≤ 96) (hl : ats.length ≤ 14) (hats : inS s ats) (hbW : base ≤ W.heap.size) (hva : OwnI W base va ats) :
    Calls Try.prog 22 #[.int .i64 s, .int .i64 r, va] W fun e W' => e = .returned (.int .i64 (needN s r ats : Nat)) ∧ Below W.heap.size W W' := by
  have HATS := Lib.hid hats; clear hats
  have KVA := kp_OwnI hva; clear hva
  have HF := Lib.hid (need_full (s := s) (r := r) (ats := ats))
  go_enter Try.func22, Try.ntmps22
  go_wp2
  go_loopw [7] (fun i w' => Below W.heap.size W w' ∧ ∃ k : Nat, k ≤ ats.length ∧ i = .int .i64 k ∧ ∀ y, y < k → spl s r ats y ats.length [] 0 = false) (fun i _ => 20 - (intOf i).toNat)
  case atStart => exact ⟨Below.refl _ _, 0, by omega, rfl, fun y hy => by omega⟩
  case round =>
    obtain ⟨hb, k, hk, rfl, hno⟩ := hrel
    replace KVA := KVA.on hb
    have HNO := Lib.hid hno; clear hno
    have hbw : base ≤ wr.heap.size := Nat.le_trans hbW hb.size
    have HE := Lib.hid (OwnI.nil wr base hbw)
    have HA := Lib.hid ((KVA.alloc (.cells #[] 2)).here)
    have hcall := l03Split_any base s r ats va k hs hl HATS.out (by omega) ats.length [] (.slice (some ⟨wr.heap.size, 0, none⟩) 0 0) 0 (wr.alloc (.cells #[] 2)) (by simp) (by omega) (by simp; omega) HA.out HE.out (by simp)
    have hb2 := hb.alloc hb.size (.cells #[] 2)
    have HB2 := Lib.hid hb2; clear hb2
    have HCALL := Lib.hid hcall; clear hcall
    cases hsp : spl s r ats k ats.length [] 0
    · have hne : k ≠ ats.length := fun e => by rw [e, HF.out] at hsp; cases hsp
      rw [hsp] at HCALL
      have HSP := Lib.hid hsp; clear hsp
      go_wp2_with fail
      refine HCALL.out.mono ?_
      rintro e w6 ⟨rfl, hb6⟩
      have HB6 := Lib.hid hb6; clear hb6
      go_wp2
      go_roundw
      case rel => exact ⟨HB2.out.trans (HB6.out.mono HB2.out.size), k + 1, by omega, by go_num, fun y hy => if e : y = k then by rw [e]; exact HSP.out else HNO.out y (by omega)⟩
      case measure => simp [intOf]; omega
    · rw [hsp] at HCALL
      have HN := Lib.hid (need_at s r ats hsp (fun y hy => HNO.out y hy) hk)
      clear hsp
      go_wp2_with fail
      refine HCALL.out.mono ?_
      rintro e w6 ⟨rfl, hb6⟩
      have HB6 := Lib.hid hb6; clear hb6
      go_wp2
      go_ret
      exact ⟨ret_int (by rw [HN.out]), HB2.out.trans (HB6.out.mono HB2.out.size)⟩
end Go.Proofs.Yteffaghcjpeblaa
