/- ShareGroups, by the reference. No conditions. -/
import Derived.Test.YtpfjmoodfodfhaaSj
import Derived.Test.YtpfjmoodfodfhaaTv
import Derived.Outline
namespace Go.Proofs.Ytpfjmoodfodfhaa
open Go.RowKit
set_option linter.unusedVariables false
set_option linter.unusedSimpArgs false
set_option maxRecDepth 100000 in
set_option maxHeartbeats 8000000 in
theorem specShareGroups_any (s : Int) (a : Option Addr) (n c : Nat) (P R : Nat → Int) (b : Option Addr) (m d : Nat) (L : Nat → Nat → Nat) (w : World) (hs : -32768 ≤ s ∧ s ≤ 32767) (hn : n ≤ 1048576) (hP : I8 P) (hR : I8 R) (hh : HamAt w a n P R) (hm : m ≤ 1048576) (hL : L32 L) (hl : DrumsAt w b m L) :
    Calls Try.prog 20 #[.agg #[.int .i16 s, .slice a n c], .slice b m d] w fun e w' => ∃ v, e = .returned (.tuple #[v, .int .i64 (sgN s n P R m L), .int .i64 (sgC s n P R m L)]) ∧ Below w.heap.size w w' ∧ OwnI w' w.heap.size v (sgV s n P R m L) := by
  have HP := Lib.hid hP; have HR := Lib.hid hR; have HL := Lib.hid hL; clear hP hR hL
  have KB := Kp.base w
  have KH := kp_ham hh; have KL := kp_drums hl; clear hh hl
  replace KB := KB.alloc (.cells #[.int .i16 s, .slice a n c] 27)
  replace KH := KH.alloc (.cells #[.int .i16 s, .slice a n c] 27)
  replace KL := KL.alloc (.cells #[.int .i16 s, .slice a n c] 27)
  have KF := kp_new1 w #[.int .i16 s, .slice a n c] 27 (g := w.heap.size) (by simp)
  have HZ := Lib.hid (show (w.alloc (.cells #[.int .i16 s, .slice a n c] 27)).heap.size = w.heap.size + 1 by simp)
  go_enter Try.func20, Try.ntmps20
  go_wp2_with fail
  generalize (w.alloc (.cells #[.int .i16 s, .slice a n c] 27)) = W at KB KH KL KF HZ ⊢
  refine (l05Asked_any w.heap.size s a n c P R b m d L W hs hn HP.out HR.out KF.here KH.here hm KL.here).mono ?_
  rintro e w1 ⟨rfl, hb1⟩
  replace KB := KB.on hb1
  replace KH := KH.on hb1
  replace KL := KL.on hb1
  replace KF := KF.on hb1
  clear hb1
  have hsz1 := KB.here.size
  have HB00 := Lib.hid KB.here
  by_cases hv : lcode (okAll s n P R m L) m = 0
  · obtain ⟨h1, h2, h3⟩ := sg_yes hv
    obtain ⟨hok, hm8⟩ := lcode_zero hv
    obtain ⟨hS, hN, _⟩ := vFrame_iff.1 (okAll_iff.1 hok).1
    have H1 := Lib.hid h1; have H2 := Lib.hid h2; have H3 := Lib.hid h3
    rw [hv]
    clear h1 h2 h3 hv hok
    obtain ⟨k, rfl⟩ : ∃ k : Nat, s = k := ⟨s.toNat, by omega⟩
    rw [Int.toNat_natCast] at H1 H2
    have hE1 := OwnI.nil w1 w1.heap.size (Nat.le_refl _)
    have hE2 := DX.nil (w1.alloc (.cells #[] 2)) w1.heap.size 0 L (by simp)
    rw [size_alloc1] at hE2
    have HE1 := Lib.hid hE1; have HE2 := Lib.hid hE2.retop; clear hE1 hE2
    clear KB
    go_wp2
    go_loopw [8, 9, 10] (fun v u i w' => Below w1.heap.size w1 w' ∧ ∃ t : Nat, t ≤ m ∧ i = .int .i64 t ∧ OwnI w' w1.heap.size v (sg k R n L t).2 ∧ DX w' w1.heap.size w'.heap.size u L (sg k R n L t).1) (fun _ _ i _ => m - (intOf i).toNat)
    case atStart => exact ⟨((Below.refl _ _).alloc (Nat.le_refl _) _).alloc (by simp) _, 0, by omega, rfl, by rw [sg_zero]; exact (HE1.out.alloc _), by rw [sg_zero]; exact HE2.out⟩
    case round =>
      clear HE1 HE2
      obtain ⟨hb, t, ht, rfl, ho1, ho2⟩ := hrel
      have hsu := sg_succ k R n L t
      have hl1 := sg_len1 k R n L t
      have hl2 := sg_len2 k R n L t
      obtain ⟨gs, hgs⟩ : ∃ gs, (sg k R n L t).1 = gs := ⟨_, rfl⟩
      obtain ⟨rs, hrs⟩ : ∃ rs, (sg k R n L t).2 = rs := ⟨_, rfl⟩
      rw [hgs] at hsu hl1 ho2
      rw [hrs] at hsu hl2 ho1
      have HSU1 := Lib.hid (congrArg Prod.fst hsu); have HSU2 := Lib.hid (congrArg Prod.snd hsu)
      dsimp only at HSU1 HSU2
      have HRL := Lib.hid (show rs.length ≤ 100 by omega)
      have HGS0 := Lib.hid hgs; have HRS0 := Lib.hid hrs
      have hgl := sg_glen k R n L t
      rw [hgs] at hgl
      have HGL0 := Lib.hid hgl
      clear hsu hl2 hgs hrs hgl
      obtain ⟨vb, vc, rfl⟩ := DX.form ho2
      obtain ⟨q, hq⟩ : ∃ q, gs.length = q := ⟨_, rfl⟩
      rw [hq] at ho2 hl1 ⊢
      have HQ := Lib.hid hq; clear hq
      have HO1 := Lib.hid ho1; have HO2 := Lib.hid ho2
      clear ho1 ho2
      have KL1 := KL; have KH1 := KH; have KF1 := KF
      replace KH := KH.on hb
      replace KL := KL.on hb
      replace KF := KF.on hb
      have hszw := hb.size
      have HB := Lib.hid hb; clear hb
      obtain ⟨v8, hv8⟩ : ∃ v, v = u8 := ⟨_, rfl⟩
      subst hv8
      by_cases hlt : t < m
      · have hlt' : (t : Int) < m := by omega
        have hx := DrumsAt.get KL1.here (show 0 < m by omega)
        obtain ⟨g, off, rfl, hg, hc⟩ := hx
        have HC := Lib.hid (hc t hlt); clear hc
        go_wp2
        obtain ⟨U, rfl⟩ : ∃ U, U = wr := ⟨wr, rfl⟩
        go_loopw [11] (fun i w' => Below U.heap.size U w' ∧ ∃ j : Nat, j ≤ q ∧ i = .int .i64 j ∧ ∀ x, x < j → fit k R n L (gs.getD x []) t = false) (fun i _ => q - (intOf i).toNat)
        case atStart => exact ⟨Below.refl _ _, 0, by omega, rfl, fun x hx => by omega⟩
        case round =>
          obtain ⟨hb, JJ, hj, rfl, hK⟩ := hrel
          have HK := Lib.hid hK; clear hK
          have HT := Lib.hid (HO2.out.below hb)
          have HI := Lib.hid (HO1.out.below hb)
          replace KH := KH.on hb
          replace KF := KF.on hb
          have HBW := Lib.hid (HB.out.trans (hb.mono hszw))
          have HBU := Lib.hid hb
          clear hb
          by_cases hlt2 : JJ < q
          · have hJI : (JJ : Int) < q := by omega
            obtain ⟨gh0, u00, hqb0, hgb0, hgl0, hgc0, hou0, hun0⟩ := DX.get HT.out (by rw [HQ.out]; exact hlt2)
            subst hqb0
            obtain ⟨gu, cu, rfl, hgub, hgul, hcu⟩ := OwnD.open hou0 hun0
            rw [List.length_map] at hgc0
            obtain ⟨lu, hlu⟩ : ∃ lu, (gs.getD JJ []).length = lu := ⟨_, rfl⟩
            have hlu8 : lu ≤ t := by rw [← hlu]; exact HGL0.out JJ
            rw [hlu] at hgc0
            have hszW := HBW.out.size
            have HFIT := Lib.hid (fit_def k R n L (gs.getD JJ []) t)
            have HUL := Lib.hid (uni_list L (gs.getD JJ [] ++ [t]))
            have HGG := Lib.hid (show (gs.getD JJ []).map L ++ [L t] = (gs.getD JJ [] ++ [t]).map L by rw [List.map_append, List.map_cons, List.map_nil])
            have HGN := Lib.hid (show ((gs.getD JJ []).map L ++ [L t]).length = lu + 1 by rw [List.length_append, List.length_map, hlu]; rfl)
            have HGN2 := Lib.hid (show (gs.getD JJ [] ++ [t]).length = lu + 1 by rw [List.length_append, hlu]; rfl)
            have HYL := Lib.hid (show ((gs.getD JJ []).map L).length = lu by rw [List.length_map, hlu])
            have HCU := Lib.hid hcu
            clear hlu hcu hou0 hun0
            have hS0 := below_drew wr
            go_wp2
            refine wp_region_S (fun V => Below wr.heap.size wr V) (by kernel_rfl) hS0 ?_
            generalize wr.drew = Y0 at hS0 ⊢
            refine take_val 0 (.int .i64 (JJ : Nat)) rfl (by kernel_rfl) (by kernel_rfl) (by kernel_rfl) (fun _ _ _ h => h) rfl (fun V hV => by simp [go_sem]) hS0 ?_
            simp only [List.getElem_toArray, List.getElem_cons_zero, List.getElem_cons_succ, Act.put, List.setIfInBounds_toArray, List.set_cons_zero, List.set_cons_succ]
            refine take_val 1 (.slice (some ⟨gh0, 0, none⟩) q vc) rfl (by kernel_rfl) (by kernel_rfl) (by kernel_rfl) (fun _ _ _ h => h) rfl (fun V hV => by simp [go_sem]) hS0 ?_
            simp only [List.getElem_toArray, List.getElem_cons_zero, List.getElem_cons_succ, Act.put, List.setIfInBounds_toArray, List.set_cons_zero, List.set_cons_succ]
            refine take_val 2 (.int .i64 (q : Nat)) rfl (by kernel_rfl) (by kernel_rfl) (by kernel_rfl) (fun _ _ _ h => h) rfl (fun V hV => by simp [go_sem]) hS0 ?_
            simp only [List.getElem_toArray, List.getElem_cons_zero, List.getElem_cons_succ, Act.put, List.setIfInBounds_toArray, List.set_cons_zero, List.set_cons_succ]
            refine take_val 3 (.bool true) rfl (by kernel_rfl) (by kernel_rfl) (by kernel_rfl) (fun _ _ _ h => h) rfl (fun V hV => by simp [go_sem, hJI]) hS0 ?_
            simp only [List.getElem_toArray, List.getElem_cons_zero, List.getElem_cons_succ, Act.put, List.setIfInBounds_toArray, List.set_cons_zero, List.set_cons_succ]
            refine take_val 4 (.bool true) rfl (by kernel_rfl) (by kernel_rfl) (by kernel_rfl) (fun _ _ _ h => h) rfl (fun V hV => by simp [go_sem]) hS0 ?_
            simp only [List.getElem_toArray, List.getElem_cons_zero, List.getElem_cons_succ, Act.put, List.setIfInBounds_toArray, List.set_cons_zero, List.set_cons_succ]
            refine take_val 6 (.slice (some ⟨gh0, 0, none⟩) q vc) rfl (by kernel_rfl) (by kernel_rfl) (by kernel_rfl) (fun _ _ _ h => h) rfl (fun V hV => by simp [go_sem]) hS0 ?_
            simp only [List.getElem_toArray, List.getElem_cons_zero, List.getElem_cons_succ, Act.put, List.setIfInBounds_toArray, List.set_cons_zero, List.set_cons_succ]
            refine take_val 7 (.int .i64 (JJ : Nat)) rfl (by kernel_rfl) (by kernel_rfl) (by kernel_rfl) (fun _ _ _ h => h) rfl (fun V hV => by simp [go_sem]) hS0 ?_
            simp only [List.getElem_toArray, List.getElem_cons_zero, List.getElem_cons_succ, Act.put, List.setIfInBounds_toArray, List.set_cons_zero, List.set_cons_succ]
            refine take_val 8 (.pointer (some ⟨gh0, JJ, none⟩)) rfl (by kernel_rfl) (by kernel_rfl) (by kernel_rfl) (fun _ _ _ h => h) rfl (fun V hV => by simp [go_sem, hJI]) hS0 ?_
            simp only [List.getElem_toArray, List.getElem_cons_zero, List.getElem_cons_succ, Act.put, List.setIfInBounds_toArray, List.set_cons_zero, List.set_cons_succ]
            refine take_val 9 (.slice (some ⟨gu, 0, none⟩) lu cu) rfl (by kernel_rfl) (by kernel_rfl) (by kernel_rfl) (fun _ _ _ h => h) rfl (fun V hV => ex_load_ds _ rfl gh0 JJ _ rfl ((hV.cell (p := ⟨gh0, JJ, none⟩) hgl0).trans hgc0)) hS0 ?_
            simp only [List.getElem_toArray, List.getElem_cons_zero, List.getElem_cons_succ, Act.put, List.setIfInBounds_toArray, List.set_cons_zero, List.set_cons_succ]
            refine take_val 11 (.slice (some ⟨g, off, none⟩) m d) rfl (by kernel_rfl) (by kernel_rfl) (by kernel_rfl) (fun _ _ _ h => h) rfl (fun V hV => by simp [go_sem]) hS0 ?_
            simp only [List.getElem_toArray, List.getElem_cons_zero, List.getElem_cons_succ, Act.put, List.setIfInBounds_toArray, List.set_cons_zero, List.set_cons_succ]
            refine take_val 12 (.int .i64 (t : Nat)) rfl (by kernel_rfl) (by kernel_rfl) (by kernel_rfl) (fun _ _ _ h => h) rfl (fun V hV => by simp [go_sem]) hS0 ?_
            simp only [List.getElem_toArray, List.getElem_cons_zero, List.getElem_cons_succ, Act.put, List.setIfInBounds_toArray, List.set_cons_zero, List.set_cons_succ]
            refine take_val 13 (.pointer (some ⟨g, off + t * 96, none⟩)) rfl (by kernel_rfl) (by kernel_rfl) (by kernel_rfl) (fun _ _ _ h => h) rfl (fun V hV => by simp [go_sem, hlt']) hS0 ?_
            simp only [List.getElem_toArray, List.getElem_cons_zero, List.getElem_cons_succ, Act.put, List.setIfInBounds_toArray, List.set_cons_zero, List.set_cons_succ]
            refine take_val 14 (.agg (dc (L t))) rfl (by kernel_rfl) (by kernel_rfl) (by kernel_rfl) (fun _ _ _ h => h) rfl (fun V hV => ex_load_drum_mid _ rfl g (off + t * 96) rfl (L t) (HC.out.below (HBW.out.trans (hV.mono hszW)) hg)) hS0 ?_
            simp only [List.getElem_toArray, List.getElem_cons_zero, List.getElem_cons_succ, Act.put, List.setIfInBounds_toArray, List.set_cons_zero, List.set_cons_succ]
            have hcu' : ∀ X : World, Below wr.heap.size wr X → ∀ j u, (((gs.getD JJ []).map L).flatMap encD)[j]? = some u → X.cell? ((⟨gu, 0, none⟩ : Addr).add j) = some u := fun X hX j u hu => by
              rw [hX.cell (p := (⟨gu, 0, none⟩ : Addr).add j) (by rw [add_block]; exact hgul)]; exact HCU.out j u hu
            have hSa := hS0.alloc hS0.size (.cells #[] 71)
            have hSb := hS0.alloc hS0.size (.cells (dc (L t)) 71)
            have hSab := hSa.alloc hSa.size (.cells (dc (L t)) 71)
            have hSba := hSb.alloc hSb.size (.cells #[] 71)
            have hna := OwnD.nil Y0 wr.heap.size hS0.size
            have hnab := hna.alloc (.cells (dc (L t)) 71)
            have hnba := OwnD.nil (Y0.alloc (.cells (dc (L t)) 71)) wr.heap.size hSb.size
            refine' cut_with (A := ∀ (V : World) (v10 : Value) (g5 g15 : Nat), Below wr.heap.size wr V → OwnD V wr.heap.size v10 ((gs.getD JJ []).map L) → V.heap[g15]? = some (.cells (dc (L t)) 71 (0, 0)) → (_ : World → Value → Nat → Nat → Prop) V v10 g5 g15) (fun hcont => ?_) ?_
            rotate_left
            · refine step_two 5 15 _ _ _ _ (by kernel_rfl) rfl rfl rfl rfl (ex_build0 rfl) (ex_build1 _ rfl (L t) rfl) hSa hSb ?_ ?_
              · --
                simp only [List.getElem_toArray, List.getElem_cons_zero, List.getElem_cons_succ, Act.put, List.setIfInBounds_toArray, List.set_cons_zero, List.set_cons_succ]
                refine step_append_D_or 10 15 (by kernel_rfl) rfl rfl rfl rfl _ _ (ex_build1 _ rfl (L t) rfl) hSab _ _ rfl wr.heap.size _ [] rfl hna ⟨gu, 0, none⟩ cu _ lu HYL.out rfl (hcu' _ hSa) (by simp; omega) hSa.size ?_ ?_
                · intro v10 w10 ho10 hg10 hb10 _
                  rw [List.nil_append] at ho10
                  have hS10 := hSa.trans hb10
                  refine ⟨hS10, ?_⟩
                  simp only [List.getElem_toArray, List.getElem_cons_zero, List.getElem_cons_succ, Act.put, List.setIfInBounds_toArray, List.set_cons_zero, List.set_cons_succ]
                  have hSE := hS10.alloc hS10.size (.cells (dc (L t)) 71)
                  refine step_val 15 _ _ (by kernel_rfl) rfl rfl (ex_build1 _ rfl (L t) rfl) hSE ?_
                  simp only [List.getElem_toArray, List.getElem_cons_zero, List.getElem_cons_succ, Act.put, List.setIfInBounds_toArray, List.set_cons_zero, List.set_cons_succ]
                  have hoE := ho10.alloc (.cells (dc (L t)) 71)
                  have hrE := heap_alloc_new w10 (.cells (dc (L t)) 71)
                  generalize w10.alloc (.cells (dc (L t)) 71) = V at hSE hoE hrE ⊢
                  generalize w10.heap.size = g15 at hrE ⊢
                  generalize Y0.heap.size = g5
                  exact hcont V v10 g5 g15 hSE hoE hrE
                · --
                  simp only [List.getElem_toArray, List.getElem_cons_zero, List.getElem_cons_succ, Act.put, List.setIfInBounds_toArray, List.set_cons_zero, List.set_cons_succ]
                  refine step_append_D 10 (by kernel_rfl) rfl rfl _ _ rfl wr.heap.size (.slice (some ⟨Y0.heap.size, 0, none⟩) 0 0) [] rfl hnab ⟨gu, 0, none⟩ cu _ lu HYL.out rfl (hcu' _ hSab) (by simp; omega) hSab.size ?_
                  intro v10 w10 ho10 hg10 hb10 _
                  rw [List.nil_append] at ho10
                  have hSE := hSab.trans hb10
                  refine ⟨hSE, ?_⟩
                  simp only [List.getElem_toArray, List.getElem_cons_zero, List.getElem_cons_succ, Act.put, List.setIfInBounds_toArray, List.set_cons_zero, List.set_cons_succ]
                  have hr0 := heap_alloc_new (Y0.alloc (.cells #[] 71)) (.cells (dc (L t)) 71)
                  have hrE := (hg10.block (Y0.alloc (.cells #[] 71)).heap.size (by simp) (by simp [Value.ownBlock])).trans hr0
                  clear hg10 hr0
                  generalize (Y0.alloc (.cells #[] 71)).heap.size = g15 at hrE ⊢
                  generalize Y0.heap.size = g5
                  exact hcont w10 v10 g5 g15 hSE ho10 hrE
              · --
                simp only [List.getElem_toArray, List.getElem_cons_zero, List.getElem_cons_succ, Act.put, List.setIfInBounds_toArray, List.set_cons_zero, List.set_cons_succ]
                refine step_val 5 _ _ (by kernel_rfl) rfl rfl (ex_build0 rfl) hSba ?_
                simp only [List.getElem_toArray, List.getElem_cons_zero, List.getElem_cons_succ, Act.put, List.setIfInBounds_toArray, List.set_cons_zero, List.set_cons_succ]
                refine step_append_D 10 (by kernel_rfl) rfl rfl _ _ rfl wr.heap.size (.slice (some ⟨(Y0.alloc (.cells (dc (L t)) 71)).heap.size, 0, none⟩) 0 0) [] rfl hnba ⟨gu, 0, none⟩ cu _ lu HYL.out rfl (hcu' _ hSba) (by simp; omega) hSba.size ?_
                intro v10 w10 ho10 hg10 hb10 _
                rw [List.nil_append] at ho10
                have hSE := hSba.trans hb10
                refine ⟨hSE, ?_⟩
                simp only [List.getElem_toArray, List.getElem_cons_zero, List.getElem_cons_succ, Act.put, List.setIfInBounds_toArray, List.set_cons_zero, List.set_cons_succ]
                have hrE := (hg10.block Y0.heap.size (by simp; omega) (by simp [Value.ownBlock])).trans ((Below.heap_alloc (Y0.alloc (.cells (dc (L t)) 71)) (.cells #[] 71) Y0.heap.size (by simp)).trans (heap_alloc_new Y0 (.cells (dc (L t)) 71)))
                clear hg10
                generalize (Y0.alloc (.cells (dc (L t)) 71)).heap.size = g5
                generalize Y0.heap.size = g15 at hrE ⊢
                exact hcont w10 v10 g5 g15 hSE ho10 hrE
            intro V v10 g5 g15 hSE hoE hrE
            clear hS0 hSa hSb hSab hSba hna hnab hnba hcu'
            refine step_append_D 16 (by kernel_rfl) rfl rfl _ _ rfl wr.heap.size v10 _ rfl hoE ⟨g15, 0, none⟩ 1 [L t] 1 rfl rfl (one_cells (enc := encD) (T' := 71) (f := (0, 0)) (by rw [encD_arr]; exact hrE)) (by rw [HYL.out]; omega) hSE.size ?_
            intro v16 w16 ho16 _ hb16 _
            rw [HGG.out] at ho16
            obtain ⟨b16, c16, rfl⟩ := OwnD.form ho16
            rw [List.length_map, HGN2.out] at ho16 ⊢
            have hS16 := hSE.trans hb16
            refine ⟨hS16, ?_⟩
            simp only [List.getElem_toArray, List.getElem_cons_zero, List.getElem_cons_succ, Act.put, List.setIfInBounds_toArray, List.set_cons_zero, List.set_cons_succ]
            have hda := OwnD.readAt ho16
            rw [List.length_map, HGN2.out] at hda
            have h9 := l05Share_any w.heap.size _ k a n c P R b16 (lu + 1) c16 (fun i => ((gs.getD JJ [] ++ [t]).map L).getD i D0) w16 (by omega) hN (by omega) (fun i => getL_32 HL.out _ i) HR.out (KF.at hS16) hda (KH.at hS16)
            have hul := HUL.out
            rw [HGN2.out] at hul
            rw [hul, ← HFIT.out] at h9
            refine step_call 17 68 #[.pointer (some ⟨w.heap.size, 0, none⟩), .slice b16 (lu + 1) c16] (by kernel_rfl) rfl rfl (by simp [go_sem]) ?_
            refine h9.mono ?_
            obtain ⟨B, hB⟩ : ∃ B, fit k R n L (gs.getD JJ []) t = B := ⟨_, rfl⟩
            rw [hB]
            rintro e w17 ⟨rfl, hb17⟩
            have hS17 := hS16.trans (hb17.mono hS16.size)
            refine ⟨_, rfl, hS17, ?_⟩
            simp only [List.getElem_toArray, List.getElem_cons_zero, List.getElem_cons_succ, Act.put, List.setIfInBounds_toArray, List.set_cons_zero, List.set_cons_succ]
            refine take_val 18 (.bool (!B)) rfl (by kernel_rfl) (by kernel_rfl) (by kernel_rfl) (fun _ _ _ h => h) rfl (fun V hV => by simp [go_sem]) hS17 ?_
            simp only [List.getElem_toArray, List.getElem_cons_zero, List.getElem_cons_succ, Act.put, List.setIfInBounds_toArray, List.set_cons_zero, List.set_cons_succ]
            refine take_val 19 (.bool (!B)) rfl (by kernel_rfl) (by kernel_rfl) (by kernel_rfl) (fun _ _ _ h => h) rfl (fun V hV => by simp [go_sem]) hS17 ?_
            simp only [List.getElem_toArray, List.getElem_cons_zero, List.getElem_cons_succ, Act.put, List.setIfInBounds_toArray, List.set_cons_zero, List.set_cons_succ]
            refine wpAnyH_done (by kernel_rfl) ?_ _
            have HB17 := Lib.hid hS17
            have HF := Lib.hid hB
            clear hSE hoE hrE ho16 hb16 hS16 hda h9 hul hb17 hS17 hB
            cases B
            · go_wp2
              go_roundw
              case rel => exact ⟨HBU.out.trans (HB17.out.mono HBU.out.size), JJ + 1, by omega, by go_num, fun x hx => if e : x = JJ then e ▸ HF.out else HK.out x (by omega)⟩
              case measure => simp [intOf]; omega
            · have hjj := jOf_at (k := k) (R := R) (n := n) (L := L) (gs := gs) (i := t) (by rw [HQ.out]; exact hlt2) HF.out HK.out
              rw [hjj] at HSU1 HSU2
              clear hjj
              have hne9 : ¬ (JJ : Int) = q := by omega
              have hne8 : ((JJ : Int) == q) = false := by simpa using hne9
              obtain ⟨ll, hll⟩ : ∃ ll, gs = ll := ⟨gs, rfl⟩
              have HLM := Lib.hid (show more gs JJ = ll by rw [more_in (by rw [HQ.out]; exact hlt2), hll])
              have HTT := Lib.hid ((HT.out.below HB17.out).retop)
              rw [hll] at HTT
              have HJL := Lib.hid (show JJ < ll.length by rw [← hll, HQ.out]; exact hlt2)
              have HIT := Lib.hid (HI.out.below HB17.out)
              have HBT := Lib.hid (HBW.out.trans (HB17.out.mono hszW))
              have HGL := Lib.hid (show (ll.getD JJ []).length ≤ 100 by rw [← hll]; have := HGL0.out JJ; omega)
              clear HT HI KH KF HBW HBU HF HCU HYL HGN HGN2 HGG HUL HFIT HB17 hll
              go_wp2
              -- the drum goes to its group
              have hS0 : Below w1.heap.size w1 w17.drew := HBT.out.drew
              have htd := HTT.out.below (below_drew w17)
              have hoi := HIT.out.below (below_drew w17)
              obtain ⟨gh1, u0, hqb, hgb, hgl, hgc, hou, hun⟩ := DX.get htd HJL.out
              injection hqb with hqb
              injection hqb with hqb
              subst hqb
              refine wp_region_S (fun V => Below w1.heap.size w1 V) (by kernel_rfl) hS0 ?_
              refine take_val 0 (.slice (some ⟨gh0, 0, none⟩) q vc) rfl (by kernel_rfl) (by kernel_rfl) (by kernel_rfl) (fun _ _ _ h => h) rfl (fun V hV => by simp [go_sem]) hS0 ?_
              simp only [List.getElem_toArray, List.getElem_cons_zero, List.getElem_cons_succ, Act.put, List.setIfInBounds_toArray, List.set_cons_zero, List.set_cons_succ]
              refine take_val 1 (.int .i64 (JJ : Nat)) rfl (by kernel_rfl) (by kernel_rfl) (by kernel_rfl) (fun _ _ _ h => h) rfl (fun V hV => by simp [go_sem]) hS0 ?_
              simp only [List.getElem_toArray, List.getElem_cons_zero, List.getElem_cons_succ, Act.put, List.setIfInBounds_toArray, List.set_cons_zero, List.set_cons_succ]
              refine take_val 2 (.slice (some ⟨gh0, 0, none⟩) q vc) rfl (by kernel_rfl) (by kernel_rfl) (by kernel_rfl) (fun _ _ _ h => h) rfl (fun V hV => by simp [go_sem]) hS0 ?_
              simp only [List.getElem_toArray, List.getElem_cons_zero, List.getElem_cons_succ, Act.put, List.setIfInBounds_toArray, List.set_cons_zero, List.set_cons_succ]
              refine take_val 3 (.int .i64 (JJ : Nat)) rfl (by kernel_rfl) (by kernel_rfl) (by kernel_rfl) (fun _ _ _ h => h) rfl (fun V hV => by simp [go_sem]) hS0 ?_
              simp only [List.getElem_toArray, List.getElem_cons_zero, List.getElem_cons_succ, Act.put, List.setIfInBounds_toArray, List.set_cons_zero, List.set_cons_succ]
              refine take_val 4 (.pointer (some ⟨gh0, JJ, none⟩)) rfl (by kernel_rfl) (by kernel_rfl) (by kernel_rfl) (fun _ _ _ h => h) rfl (fun V hV => by simp [go_sem, hJI]) hS0 ?_
              simp only [List.getElem_toArray, List.getElem_cons_zero, List.getElem_cons_succ, Act.put, List.setIfInBounds_toArray, List.set_cons_zero, List.set_cons_succ]
              refine take_val 6 (.slice (some ⟨g, off, none⟩) m d) rfl (by kernel_rfl) (by kernel_rfl) (by kernel_rfl) (fun _ _ _ h => h) rfl (fun V hV => by simp [go_sem]) hS0 ?_
              simp only [List.getElem_toArray, List.getElem_cons_zero, List.getElem_cons_succ, Act.put, List.setIfInBounds_toArray, List.set_cons_zero, List.set_cons_succ]
              refine take_val 7 (.int .i64 (t : Nat)) rfl (by kernel_rfl) (by kernel_rfl) (by kernel_rfl) (fun _ _ _ h => h) rfl (fun V hV => by simp [go_sem]) hS0 ?_
              simp only [List.getElem_toArray, List.getElem_cons_zero, List.getElem_cons_succ, Act.put, List.setIfInBounds_toArray, List.set_cons_zero, List.set_cons_succ]
              refine take_val 8 (.pointer (some ⟨g, off + t * 96, none⟩)) rfl (by kernel_rfl) (by kernel_rfl) (by kernel_rfl) (fun _ _ _ h => h) rfl (fun V hV => by simp [go_sem, hlt']) hS0 ?_
              simp only [List.getElem_toArray, List.getElem_cons_zero, List.getElem_cons_succ, Act.put, List.setIfInBounds_toArray, List.set_cons_zero, List.set_cons_succ]
              refine take_val 9 (.agg (dc (L t))) rfl (by kernel_rfl) (by kernel_rfl) (by kernel_rfl) (fun _ _ _ h => h) rfl (fun V hV => ex_load_drum_mid _ rfl g (off + t * 96) rfl (L t) (HC.out.below hV hg)) hS0 ?_
              simp only [List.getElem_toArray, List.getElem_cons_zero, List.getElem_cons_succ, Act.put, List.setIfInBounds_toArray, List.set_cons_zero, List.set_cons_succ]
              have hS1 := hS0.alloc hS0.size (.cells (dc (L t)) 71)
              have hgc1 : (w17.drew.alloc (.cells (dc (L t)) 71)).cell? ⟨gh0, JJ, none⟩ = some u0 := (((Below.refl _ _).alloc (Nat.le_refl _) (.cells (dc (L t)) 71)).cell (p := ⟨gh0, JJ, none⟩) hgl).trans hgc
              have hrow := heap_alloc_new w17.drew (.cells (dc (L t)) 71)
              refine' cut_with (A := (_ : Prop)) (fun hcont => ?_) ?_
              rotate_left
              · refine step_two 5 10 _ _ _ _ (by kernel_rfl) rfl rfl rfl rfl (ex_load_ds _ rfl gh0 JJ u0 rfl hgc) (ex_build1 _ rfl (L t) rfl) hS0 hS1 ?_ ?_
                · --
                  simp only [List.getElem_toArray, List.getElem_cons_zero, List.getElem_cons_succ, Act.put, List.setIfInBounds_toArray, List.set_cons_zero, List.set_cons_succ]
                  refine step_val 10 _ _ (by kernel_rfl) rfl rfl (ex_build1 _ rfl (L t) rfl) hS1 ?_
                  simp only [List.getElem_toArray, List.getElem_cons_zero, List.getElem_cons_succ, Act.put, List.setIfInBounds_toArray, List.set_cons_zero, List.set_cons_succ]
                  exact hcont
                · --
                  simp only [List.getElem_toArray, List.getElem_cons_zero, List.getElem_cons_succ, Act.put, List.setIfInBounds_toArray, List.set_cons_zero, List.set_cons_succ]
                  refine step_val 5 _ _ (by kernel_rfl) rfl rfl (ex_load_ds _ rfl gh0 JJ u0 rfl hgc1) hS1 ?_
                  simp only [List.getElem_toArray, List.getElem_cons_zero, List.getElem_cons_succ, Act.put, List.setIfInBounds_toArray, List.set_cons_zero, List.set_cons_succ]
                  exact hcont
              have htd1 := (htd.alloc (.cells (dc (L t)) 71)).retop
              have hoi1 := hoi.alloc (.cells (dc (L t)) 71)
              have hou1 := hou.alloc (.cells (dc (L t)) 71)
              generalize w17.drew.alloc (.cells (dc (L t)) 71) = V at hS1 hgc1 hrow htd1 hoi1 hou1 ⊢
              generalize w17.drew.heap.size = gd at hrow ⊢
              clear hS0 htd hoi hgl hgc hou
              refine step_append_D 11 (by kernel_rfl) rfl rfl _ _ rfl w1.heap.size u0 _ rfl hou1 ⟨gd, 0, none⟩ 1 [L t] 1 rfl rfl (one_cells (enc := encD) (T' := 71) (f := (0, 0)) (by rw [encD_arr]; exact hrow)) (by rw [List.length_map]; have := HGL.out; omega) hS1.size ?_
              intro v6 w6 ho6 hg6 hb6 hat6
              obtain ⟨vb6, vc6, rfl⟩ := OwnD.form ho6
              have hS6 := hS1.trans hb6
              refine ⟨hS6, ?_⟩
              simp only [List.getElem_toArray, List.getElem_cons_zero, List.getElem_cons_succ, Act.put, List.setIfInBounds_toArray, List.set_cons_zero, List.set_cons_succ]
              obtain ⟨hdx, N6, f6, hbk, hjN⟩ := DX.grow htd1 HJL.out hgc1 hg6 t ho6 hat6
              have hoi6 := (hoi1.keepD hou1 hg6).setDs (k := JJ) (x := .slice vb6 ((ll.getD JJ []).map L ++ [L t]).length vc6) hbk
              have hS9 := hS6.setCell (p := ⟨gh0, JJ, none⟩) hgb (.slice vb6 ((ll.getD JJ []).map L ++ [L t]).length vc6)
              rw [grp_more gs JJ t HLM.out] at hdx
              refine take_val 12 (.pointer (some ⟨gh0, JJ, none⟩)) rfl (by kernel_rfl) (by kernel_rfl) (by kernel_rfl) (fun _ _ _ h => h) rfl (fun V hV => by simp [go_sem, hJI]) hS6 ?_
              simp only [List.getElem_toArray, List.getElem_cons_zero, List.getElem_cons_succ, Act.put, List.setIfInBounds_toArray, List.set_cons_zero, List.set_cons_succ]
              refine step_skip 13 _ (by kernel_rfl) rfl rfl (ex_store_ds _ _ rfl gh0 JJ vb6 _ vc6 _ rfl rfl (hbk.cell JJ hjN) (hbk.frozen JJ)) hS9 ?_
              simp only [List.getElem_toArray, List.getElem_cons_zero, List.getElem_cons_succ, Act.put, List.setIfInBounds_toArray, List.set_cons_zero, List.set_cons_succ]
              refine wpAnyH_done (by kernel_rfl) ?_ _
              generalize w6.setCell ⟨gh0, JJ, none⟩ (.slice vb6 ((ll.getD JJ []).map L ++ [L t]).length vc6) = w9 at hdx hoi6 hS9 ⊢
              have HSET := Lib.hid hdx; have HOI9 := Lib.hid hoi6; have HB9 := Lib.hid hS9; have hsz9 := hS9.size
              clear hS1 hgc1 hrow htd1 hoi1 hou1 ho6 hg6 hb6 hat6 hS6 hdx hbk hoi6 hS9
              go_wp2_with (at_builtin; refine append_intg rfl _ _ rfl w1.heap.size _ rs rfl (HOI9.out.alloc _) w9.heap.size (JJ : Int) rfl (by simp) (by have := HRL.out; omega) (by simp; omega) ?_; intro v10 w10 ho10 hg10 hb10; have HO10 := Lib.hid ho10; have HD10 := Lib.hid (((HSET.out.alloc _).keepI (HOI9.out.alloc _) hg10).retop); have HB10 := Lib.hid (((HB9.out.alloc hsz9 _).trans hb10)); clear ho10 hg10 hb10)
              go_roundw
              case rel => exact ⟨HB10.out, t + 1, by omega, by go_num, by rw [HSU2.out]; exact HO10.out, by rw [HSU1.out]; exact HD10.out⟩
              case measure => simp [intOf]; omega
          · have hJI : ¬ (JJ : Int) < q := by omega
            have hjq : JJ = q := by omega
            subst hjq
            have hjj := jOf_none (k := k) (R := R) (n := n) (L := L) (gs := gs) (i := t) (by rw [HQ.out]; exact HK.out)
            rw [hjj, HQ.out] at HSU1 HSU2
            clear hjj
            have HMORE := Lib.hid (more_new (gs := gs) (j := JJ) (by rw [HQ.out]; omega))
            have hS0 := below_drew wr
            go_wp2
            refine wp_region_S (fun V => Below wr.heap.size wr V) (by kernel_rfl) hS0 ?_
            refine take_val 0 (.int .i64 (JJ : Nat)) rfl (by kernel_rfl) (by kernel_rfl) (by kernel_rfl) (fun _ _ _ h => h) rfl (fun V hV => by simp [go_sem]) hS0 ?_
            simp only [List.getElem_toArray, List.getElem_cons_zero, List.getElem_cons_succ, Act.put, List.setIfInBounds_toArray, List.set_cons_zero, List.set_cons_succ]
            refine take_val 1 (.slice vb JJ vc) rfl (by kernel_rfl) (by kernel_rfl) (by kernel_rfl) (fun _ _ _ h => h) rfl (fun V hV => by simp [go_sem]) hS0 ?_
            simp only [List.getElem_toArray, List.getElem_cons_zero, List.getElem_cons_succ, Act.put, List.setIfInBounds_toArray, List.set_cons_zero, List.set_cons_succ]
            refine take_val 2 (.int .i64 (JJ : Nat)) rfl (by kernel_rfl) (by kernel_rfl) (by kernel_rfl) (fun _ _ _ h => h) rfl (fun V hV => by simp [go_sem]) hS0 ?_
            simp only [List.getElem_toArray, List.getElem_cons_zero, List.getElem_cons_succ, Act.put, List.setIfInBounds_toArray, List.set_cons_zero, List.set_cons_succ]
            refine take_val 3 (.bool false) rfl (by kernel_rfl) (by kernel_rfl) (by kernel_rfl) (fun _ _ _ h => h) rfl (fun V hV => by simp [go_sem]) hS0 ?_
            simp only [List.getElem_toArray, List.getElem_cons_zero, List.getElem_cons_succ, Act.put, List.setIfInBounds_toArray, List.set_cons_zero, List.set_cons_succ]
            refine take_val 4 (.bool false) rfl (by kernel_rfl) (by kernel_rfl) (by kernel_rfl) (fun _ _ _ h => h) rfl (fun V hV => by simp [go_sem]) hS0 ?_
            simp only [List.getElem_toArray, List.getElem_cons_zero, List.getElem_cons_succ, Act.put, List.setIfInBounds_toArray, List.set_cons_zero, List.set_cons_succ]
            refine skip_val 5 rfl (by kernel_rfl) (by kernel_rfl) (by kernel_rfl) (fun _ _ _ h => h) rfl hS0 ?_
            simp only [List.getElem_toArray, List.getElem_cons_zero, List.getElem_cons_succ, Act.put, List.setIfInBounds_toArray, List.set_cons_zero, List.set_cons_succ]
            refine skip_val 6 rfl (by kernel_rfl) (by kernel_rfl) (by kernel_rfl) (fun _ _ _ h => h) rfl hS0 ?_
            simp only [List.getElem_toArray, List.getElem_cons_zero, List.getElem_cons_succ, Act.put, List.setIfInBounds_toArray, List.set_cons_zero, List.set_cons_succ]
            refine skip_val 7 rfl (by kernel_rfl) (by kernel_rfl) (by kernel_rfl) (fun _ _ _ h => h) rfl hS0 ?_
            simp only [List.getElem_toArray, List.getElem_cons_zero, List.getElem_cons_succ, Act.put, List.setIfInBounds_toArray, List.set_cons_zero, List.set_cons_succ]
            refine skip_val 8 rfl (by kernel_rfl) (by kernel_rfl) (by kernel_rfl) (fun _ _ _ h => h) rfl hS0 ?_
            simp only [List.getElem_toArray, List.getElem_cons_zero, List.getElem_cons_succ, Act.put, List.setIfInBounds_toArray, List.set_cons_zero, List.set_cons_succ]
            refine skip_val 9 rfl (by kernel_rfl) (by kernel_rfl) (by kernel_rfl) (fun _ _ _ h => h) rfl hS0 ?_
            simp only [List.getElem_toArray, List.getElem_cons_zero, List.getElem_cons_succ, Act.put, List.setIfInBounds_toArray, List.set_cons_zero, List.set_cons_succ]
            refine skip_val 10 rfl (by kernel_rfl) (by kernel_rfl) (by kernel_rfl) (fun _ _ _ h => h) rfl hS0 ?_
            simp only [List.getElem_toArray, List.getElem_cons_zero, List.getElem_cons_succ, Act.put, List.setIfInBounds_toArray, List.set_cons_zero, List.set_cons_succ]
            refine skip_val 11 rfl (by kernel_rfl) (by kernel_rfl) (by kernel_rfl) (fun _ _ _ h => h) rfl hS0 ?_
            simp only [List.getElem_toArray, List.getElem_cons_zero, List.getElem_cons_succ, Act.put, List.setIfInBounds_toArray, List.set_cons_zero, List.set_cons_succ]
            refine skip_val 12 rfl (by kernel_rfl) (by kernel_rfl) (by kernel_rfl) (fun _ _ _ h => h) rfl hS0 ?_
            simp only [List.getElem_toArray, List.getElem_cons_zero, List.getElem_cons_succ, Act.put, List.setIfInBounds_toArray, List.set_cons_zero, List.set_cons_succ]
            refine skip_val 13 rfl (by kernel_rfl) (by kernel_rfl) (by kernel_rfl) (fun _ _ _ h => h) rfl hS0 ?_
            simp only [List.getElem_toArray, List.getElem_cons_zero, List.getElem_cons_succ, Act.put, List.setIfInBounds_toArray, List.set_cons_zero, List.set_cons_succ]
            refine skip_val 14 rfl (by kernel_rfl) (by kernel_rfl) (by kernel_rfl) (fun _ _ _ h => h) rfl hS0 ?_
            simp only [List.getElem_toArray, List.getElem_cons_zero, List.getElem_cons_succ, Act.put, List.setIfInBounds_toArray, List.set_cons_zero, List.set_cons_succ]
            refine skip_val 15 rfl (by kernel_rfl) (by kernel_rfl) (by kernel_rfl) (fun _ _ _ h => h) rfl hS0 ?_
            simp only [List.getElem_toArray, List.getElem_cons_zero, List.getElem_cons_succ, Act.put, List.setIfInBounds_toArray, List.set_cons_zero, List.set_cons_succ]
            refine skip_val 16 rfl (by kernel_rfl) (by kernel_rfl) (by kernel_rfl) (fun _ _ _ h => h) rfl hS0 ?_
            simp only [List.getElem_toArray, List.getElem_cons_zero, List.getElem_cons_succ, Act.put, List.setIfInBounds_toArray, List.set_cons_zero, List.set_cons_succ]
            refine skip_val 17 rfl (by kernel_rfl) (by kernel_rfl) (by kernel_rfl) (fun _ _ _ h => h) rfl hS0 ?_
            simp only [List.getElem_toArray, List.getElem_cons_zero, List.getElem_cons_succ, Act.put, List.setIfInBounds_toArray, List.set_cons_zero, List.set_cons_succ]
            refine skip_val 18 rfl (by kernel_rfl) (by kernel_rfl) (by kernel_rfl) (fun _ _ _ h => h) rfl hS0 ?_
            simp only [List.getElem_toArray, List.getElem_cons_zero, List.getElem_cons_succ, Act.put, List.setIfInBounds_toArray, List.set_cons_zero, List.set_cons_succ]
            refine take_val 19 (.bool false) rfl (by kernel_rfl) (by kernel_rfl) (by kernel_rfl) (fun _ _ _ h => h) rfl (fun V hV => by simp [go_sem]) hS0 ?_
            simp only [List.getElem_toArray, List.getElem_cons_zero, List.getElem_cons_succ, Act.put, List.setIfInBounds_toArray, List.set_cons_zero, List.set_cons_succ]
            refine wpAnyH_done (by kernel_rfl) ?_ _
            have HZT := Lib.hid ((HT.out.below hS0).retop)
            have HZI := Lib.hid (HI.out.below hS0)
            have HZB := Lib.hid (HBW.out.drew)
            have hszz := HZB.out.size
            generalize wr.drew = Z at HZT HZI HZB hszz ⊢
            clear hS0 HT HI HBW HBU KH KF
            have HNU := Lib.hid ((OwnD.nil Z Z.heap.size (Nat.le_refl _)).alloc (.cells #[.slice (some ⟨Z.heap.size, 0, none⟩) 0 0] 48))
            go_wp2_with (at_builtin; refine append_rowD rfl _ _ rfl w1.heap.size Z.heap.size _ L gs rfl ((HZT.out.alloc _).alloc _) (Z.heap.size + 1) (.slice (some ⟨Z.heap.size, 0, none⟩) 0 0) rfl (by simp) HNU.out (by simp [Value.ownBlock]) hszz (by rw [HQ.out]; omega) (by simp; omega) ?_; intro v5 w5 ho5 hb5 hg5; have HO5 := Lib.hid ho5; have HI5 := Lib.hid (((HZI.out.alloc _).alloc _).keepDs ((HZT.out.alloc _).alloc _) hg5); have HB5 := Lib.hid (((HZB.out.alloc hszz _).alloc (by simp; omega) _).trans hb5); clear ho5 hb5 hg5)
            obtain ⟨qb, qc, rfl⟩ := DX.form HO5.out
            have hl9 : (gs ++ [([] : List Nat)]).length = JJ + 1 := by rw [List.length_append, HQ.out]; rfl
            have hg9 : ((gs ++ [([] : List Nat)]).getD JJ []).length ≤ 100 := by simp [List.getD, ← HQ.out]
            obtain ⟨ll, hll⟩ : ∃ ll, gs ++ [([] : List Nat)] = ll := ⟨_, rfl⟩
            rw [hll] at HO5 HMORE hl9 hg9 ⊢
            have HLM := HMORE; have HTT := HO5; have HIT := HI5; have HBT := HB5
            have HGL := Lib.hid hg9
            have HJL := Lib.hid (show JJ < ll.length by omega)
            obtain ⟨QN, hQN⟩ : ∃ QN, ll.length = QN := ⟨_, rfl⟩
            rw [hQN] at HTT ⊢
            have hJI2 : (JJ : Int) < QN := by omega
            clear hJI hl9 hg9 hll hQN HZT HZI HZB HNU HMORE HO5 HI5 HB5
            -- the drum goes to its group
            have hS0 : Below w1.heap.size w1 w5.drew := HBT.out.drew
            have htd := HTT.out.below (below_drew w5)
            have hoi := HIT.out.below (below_drew w5)
            obtain ⟨gh, u0, hqb, hgb, hgl, hgc, hou, hun⟩ := DX.get htd HJL.out
            subst hqb
            refine wp_region_S (fun V => Below w1.heap.size w1 V) (by kernel_rfl) hS0 ?_
            refine take_val 0 (.slice (some ⟨gh, 0, none⟩) QN qc) rfl (by kernel_rfl) (by kernel_rfl) (by kernel_rfl) (fun _ _ _ h => h) rfl (fun V hV => by simp [go_sem]) hS0 ?_
            simp only [List.getElem_toArray, List.getElem_cons_zero, List.getElem_cons_succ, Act.put, List.setIfInBounds_toArray, List.set_cons_zero, List.set_cons_succ]
            refine take_val 1 (.int .i64 (JJ : Nat)) rfl (by kernel_rfl) (by kernel_rfl) (by kernel_rfl) (fun _ _ _ h => h) rfl (fun V hV => by simp [go_sem]) hS0 ?_
            simp only [List.getElem_toArray, List.getElem_cons_zero, List.getElem_cons_succ, Act.put, List.setIfInBounds_toArray, List.set_cons_zero, List.set_cons_succ]
            refine take_val 2 (.slice (some ⟨gh, 0, none⟩) QN qc) rfl (by kernel_rfl) (by kernel_rfl) (by kernel_rfl) (fun _ _ _ h => h) rfl (fun V hV => by simp [go_sem]) hS0 ?_
            simp only [List.getElem_toArray, List.getElem_cons_zero, List.getElem_cons_succ, Act.put, List.setIfInBounds_toArray, List.set_cons_zero, List.set_cons_succ]
            refine take_val 3 (.int .i64 (JJ : Nat)) rfl (by kernel_rfl) (by kernel_rfl) (by kernel_rfl) (fun _ _ _ h => h) rfl (fun V hV => by simp [go_sem]) hS0 ?_
            simp only [List.getElem_toArray, List.getElem_cons_zero, List.getElem_cons_succ, Act.put, List.setIfInBounds_toArray, List.set_cons_zero, List.set_cons_succ]
            refine take_val 4 (.pointer (some ⟨gh, JJ, none⟩)) rfl (by kernel_rfl) (by kernel_rfl) (by kernel_rfl) (fun _ _ _ h => h) rfl (fun V hV => by simp [go_sem, hJI2]) hS0 ?_
            simp only [List.getElem_toArray, List.getElem_cons_zero, List.getElem_cons_succ, Act.put, List.setIfInBounds_toArray, List.set_cons_zero, List.set_cons_succ]
            refine take_val 6 (.slice (some ⟨g, off, none⟩) m d) rfl (by kernel_rfl) (by kernel_rfl) (by kernel_rfl) (fun _ _ _ h => h) rfl (fun V hV => by simp [go_sem]) hS0 ?_
            simp only [List.getElem_toArray, List.getElem_cons_zero, List.getElem_cons_succ, Act.put, List.setIfInBounds_toArray, List.set_cons_zero, List.set_cons_succ]
            refine take_val 7 (.int .i64 (t : Nat)) rfl (by kernel_rfl) (by kernel_rfl) (by kernel_rfl) (fun _ _ _ h => h) rfl (fun V hV => by simp [go_sem]) hS0 ?_
            simp only [List.getElem_toArray, List.getElem_cons_zero, List.getElem_cons_succ, Act.put, List.setIfInBounds_toArray, List.set_cons_zero, List.set_cons_succ]
            refine take_val 8 (.pointer (some ⟨g, off + t * 96, none⟩)) rfl (by kernel_rfl) (by kernel_rfl) (by kernel_rfl) (fun _ _ _ h => h) rfl (fun V hV => by simp [go_sem, hlt']) hS0 ?_
            simp only [List.getElem_toArray, List.getElem_cons_zero, List.getElem_cons_succ, Act.put, List.setIfInBounds_toArray, List.set_cons_zero, List.set_cons_succ]
            refine take_val 9 (.agg (dc (L t))) rfl (by kernel_rfl) (by kernel_rfl) (by kernel_rfl) (fun _ _ _ h => h) rfl (fun V hV => ex_load_drum_mid _ rfl g (off + t * 96) rfl (L t) (HC.out.below hV hg)) hS0 ?_
            simp only [List.getElem_toArray, List.getElem_cons_zero, List.getElem_cons_succ, Act.put, List.setIfInBounds_toArray, List.set_cons_zero, List.set_cons_succ]
            have hS1 := hS0.alloc hS0.size (.cells (dc (L t)) 71)
            have hgc1 : (w5.drew.alloc (.cells (dc (L t)) 71)).cell? ⟨gh, JJ, none⟩ = some u0 := (((Below.refl _ _).alloc (Nat.le_refl _) (.cells (dc (L t)) 71)).cell (p := ⟨gh, JJ, none⟩) hgl).trans hgc
            have hrow := heap_alloc_new w5.drew (.cells (dc (L t)) 71)
            refine' cut_with (A := (_ : Prop)) (fun hcont => ?_) ?_
            rotate_left
            · refine step_two 5 10 _ _ _ _ (by kernel_rfl) rfl rfl rfl rfl (ex_load_ds _ rfl gh JJ u0 rfl hgc) (ex_build1 _ rfl (L t) rfl) hS0 hS1 ?_ ?_
              · --
                simp only [List.getElem_toArray, List.getElem_cons_zero, List.getElem_cons_succ, Act.put, List.setIfInBounds_toArray, List.set_cons_zero, List.set_cons_succ]
                refine step_val 10 _ _ (by kernel_rfl) rfl rfl (ex_build1 _ rfl (L t) rfl) hS1 ?_
                simp only [List.getElem_toArray, List.getElem_cons_zero, List.getElem_cons_succ, Act.put, List.setIfInBounds_toArray, List.set_cons_zero, List.set_cons_succ]
                exact hcont
              · --
                simp only [List.getElem_toArray, List.getElem_cons_zero, List.getElem_cons_succ, Act.put, List.setIfInBounds_toArray, List.set_cons_zero, List.set_cons_succ]
                refine step_val 5 _ _ (by kernel_rfl) rfl rfl (ex_load_ds _ rfl gh JJ u0 rfl hgc1) hS1 ?_
                simp only [List.getElem_toArray, List.getElem_cons_zero, List.getElem_cons_succ, Act.put, List.setIfInBounds_toArray, List.set_cons_zero, List.set_cons_succ]
                exact hcont
            have htd1 := (htd.alloc (.cells (dc (L t)) 71)).retop
            have hoi1 := hoi.alloc (.cells (dc (L t)) 71)
            have hou1 := hou.alloc (.cells (dc (L t)) 71)
            generalize w5.drew.alloc (.cells (dc (L t)) 71) = V at hS1 hgc1 hrow htd1 hoi1 hou1 ⊢
            generalize w5.drew.heap.size = gd at hrow ⊢
            clear hS0 htd hoi hgl hgc hou
            refine step_append_D 11 (by kernel_rfl) rfl rfl _ _ rfl w1.heap.size u0 _ rfl hou1 ⟨gd, 0, none⟩ 1 [L t] 1 rfl rfl (one_cells (enc := encD) (T' := 71) (f := (0, 0)) (by rw [encD_arr]; exact hrow)) (by rw [List.length_map]; have := HGL.out; omega) hS1.size ?_
            intro v6 w6 ho6 hg6 hb6 hat6
            obtain ⟨vb6, vc6, rfl⟩ := OwnD.form ho6
            have hS6 := hS1.trans hb6
            refine ⟨hS6, ?_⟩
            simp only [List.getElem_toArray, List.getElem_cons_zero, List.getElem_cons_succ, Act.put, List.setIfInBounds_toArray, List.set_cons_zero, List.set_cons_succ]
            obtain ⟨hdx, N6, f6, hbk, hjN⟩ := DX.grow htd1 HJL.out hgc1 hg6 t ho6 hat6
            have hoi6 := (hoi1.keepD hou1 hg6).setDs (k := JJ) (x := .slice vb6 ((ll.getD JJ []).map L ++ [L t]).length vc6) hbk
            have hS9 := hS6.setCell (p := ⟨gh, JJ, none⟩) hgb (.slice vb6 ((ll.getD JJ []).map L ++ [L t]).length vc6)
            rw [grp_more gs JJ t HLM.out] at hdx
            refine take_val 12 (.pointer (some ⟨gh, JJ, none⟩)) rfl (by kernel_rfl) (by kernel_rfl) (by kernel_rfl) (fun _ _ _ h => h) rfl (fun V hV => by simp [go_sem, hJI2]) hS6 ?_
            simp only [List.getElem_toArray, List.getElem_cons_zero, List.getElem_cons_succ, Act.put, List.setIfInBounds_toArray, List.set_cons_zero, List.set_cons_succ]
            refine step_skip 13 _ (by kernel_rfl) rfl rfl (ex_store_ds _ _ rfl gh JJ vb6 _ vc6 _ rfl rfl (hbk.cell JJ hjN) (hbk.frozen JJ)) hS9 ?_
            simp only [List.getElem_toArray, List.getElem_cons_zero, List.getElem_cons_succ, Act.put, List.setIfInBounds_toArray, List.set_cons_zero, List.set_cons_succ]
            refine wpAnyH_done (by kernel_rfl) ?_ _
            generalize w6.setCell ⟨gh, JJ, none⟩ (.slice vb6 ((ll.getD JJ []).map L ++ [L t]).length vc6) = w9 at hdx hoi6 hS9 ⊢
            have HSET := Lib.hid hdx; have HOI9 := Lib.hid hoi6; have HB9 := Lib.hid hS9; have hsz9 := hS9.size
            clear hS1 hgc1 hrow htd1 hoi1 hou1 ho6 hg6 hb6 hat6 hS6 hdx hbk hoi6 hS9
            go_wp2_with (at_builtin; refine append_intg rfl _ _ rfl w1.heap.size _ rs rfl (HOI9.out.alloc _) w9.heap.size (JJ : Int) rfl (by simp) (by have := HRL.out; omega) (by simp; omega) ?_; intro v10 w10 ho10 hg10 hb10; have HO10 := Lib.hid ho10; have HD10 := Lib.hid (((HSET.out.alloc _).keepI (HOI9.out.alloc _) hg10).retop); have HB10 := Lib.hid (((HB9.out.alloc hsz9 _).trans hb10)); clear ho10 hg10 hb10)
            go_roundw
            case rel => exact ⟨HB10.out, t + 1, by omega, by go_num, by rw [HSU2.out]; exact HO10.out, by rw [HSU1.out]; exact HD10.out⟩
            case measure => simp [intOf]; omega
      · have htm : t = m := by omega
        subst htm
        have HN1 := Lib.hid (show ((sg k R n L t).1.length : Int) = q by rw [HGS0.out, HQ.out])
        go_wp2
        go_ret3
        exact ⟨_, by rw [H2.out, H3.out, HN1.out]; rfl, HB00.out.trans (HB.out.mono hsz1), by rw [H1.out, HRS0.out]; exact OwnI.mono HO1.out hsz1⟩
  · obtain ⟨h1, h2, h3⟩ := sg_no hv
    have hv2 : (lcode (okAll s n P R m L) m == 0) = false := by simpa using hv
    have hv3 : (lcode (okAll s n P R m L) m != 0) = true := by simp [hv]
    have H1 := Lib.hid h1; have H2 := Lib.hid h2; have H3 := Lib.hid h3
    obtain ⟨x, hx⟩ : ∃ x, lcode (okAll s n P R m L) m = x := ⟨_, rfl⟩
    rw [hx] at hv hv2 hv3 H3 ⊢
    have HE := Lib.hid (OwnI.nil w1 w.heap.size hsz1)
    have HB1 := Lib.hid (HB00.out.alloc hsz1 (.cells #[] 2))
    clear hx h1 h2 h3
    go_wp2
    go_ret3
    exact ⟨_, by rw [H2.out, H3.out]; rfl, HB1.out, by rw [H1.out]; exact HE.out⟩
end Go.Proofs.Ytpfjmoodfodfhaa
