/- Texts of this claim, put together in their order of building. No conditions. -/
import Derived.Outline
import Derived.Test.YtlcfjeofphncgaaQ5
namespace Go.Proofs.Ytlcfjeofphncgaa
open Go.RowKit
set_option linter.unusedVariables false
set_option linter.unusedSimpArgs false
set_option maxRecDepth 100000 in
set_option maxHeartbeats 8000000 in
theorem implShareGroups_any (s : Int) (a : Option Addr) (n c : Nat) (P R : Nat → Int) (b : Option Addr) (m d : Nat) (L : Nat → Nat → Nat) (w : World) (hs : -32768 ≤ s ∧ s ≤ 32767) (hn : n ≤ 1048576) (hP : I8 P) (hR : I8 R) (hh : HamAt w a n P R) (hm : m ≤ 1048576) (hL : L32 L) (hl : DrumsAt w b m L) :
    Calls Try.prog 13 #[.agg #[.int .i16 s, .slice a n c], .slice b m d] w fun e w' => ∃ v, e = .returned (.tuple #[v, .int .i64 (sgN s n P R m L), .int .i64 (sgC s n P R m L)]) ∧ Below w.heap.size w w' ∧ OwnI w' w.heap.size v (sgV s n P R m L) := by
  have HP := Lib.hid hP; have HR := Lib.hid hR; have HL := Lib.hid hL; clear hP hR hL
  have KB := Kp.base w
  have KH := kp_ham hh; have KL := kp_drums hl; clear hh hl
  replace KB := KB.alloc (.cells #[.int .i16 s, .slice a n c] 27)
  replace KH := KH.alloc (.cells #[.int .i16 s, .slice a n c] 27)
  replace KL := KL.alloc (.cells #[.int .i16 s, .slice a n c] 27)
  have KF := kp_new1 w #[.int .i16 s, .slice a n c] 27 (g := w.heap.size) (by simp)
  have HZ := Lib.hid (show (w.alloc (.cells #[.int .i16 s, .slice a n c] 27)).heap.size = w.heap.size + 1 by simp)
  go_enter Try.func13, Try.ntmps13
  go_wp2_with (first | (with_reducible refine load_iframe rfl _ rfl w.heap.size rfl _ s a n c KF.here ?_))
  generalize (w.alloc (.cells #[.int .i16 s, .slice a n c] 27)) = W at KB KH KL KF HZ ⊢
  refine (listCode_any s a n c P R b m d L W hs hn HP.out HR.out KH.here hm KL.here).mono ?_
  rintro e w1 ⟨rfl, hb1⟩
  replace KB := KB.on hb1
  replace KH := KH.on hb1
  replace KL := KL.on hb1
  replace KF := KF.on hb1
  clear hb1
  by_cases hv : lcode (okAll s n P R m L) m = 0
  · obtain ⟨h1, h2, h3⟩ := sg_yes hv
    obtain ⟨hok, hm8⟩ := lcode_zero hv
    obtain ⟨hS, hN, _⟩ := vFrame_iff.1 (okAll_iff.1 hok).1
    have H1 := Lib.hid h1; have H2 := Lib.hid h2; have H3 := Lib.hid h3
    rw [hv]
    clear h1 h2 h3 hv hok
    obtain ⟨k, rfl⟩ : ∃ k : Nat, s = k := ⟨s.toNat, by omega⟩
    rw [Int.toNat_natCast] at H1 H2
    have hsz1 := KB.here.size
    have HB00 := Lib.hid KB.here
    have hE1 := OwnI.nil w1 w1.heap.size (Nat.le_refl _)
    have hE2 := OwnD.nil (w1.alloc (.cells #[] 2)) w1.heap.size (by simp)
    rw [size_alloc1] at hE2
    have HE1 := Lib.hid hE1; have HE2 := Lib.hid hE2; clear hE1 hE2
    clear KB
    go_wp2
    go_loopw [8, 9, 23] (fun v u i w' => Below w1.heap.size w1 w' ∧ ∃ t : Nat, t ≤ m ∧ i = .int .i64 t ∧ OwnI w' w1.heap.size v (sg k R n L t).2 ∧ OwnD w' w1.heap.size u ((sg k R n L t).1.map (uniL L))) (fun _ _ i _ => m - (intOf i).toNat)
    case atStart => exact ⟨((Below.refl _ _).alloc (Nat.le_refl _) _).alloc (by simp) _, 0, by omega, rfl, by rw [sg_zero]; exact (HE1.out.alloc _), by rw [sg_zero]; exact HE2.out⟩
    case round =>
      clear HE1 HE2
      obtain ⟨hb, t, ht, rfl, ho1, ho2⟩ := hrel
      have hsu := sg_succ k R n L t
      have hl1 := sg_len1 k R n L t
      have hl2 := sg_len2 k R n L t
      obtain ⟨gs, hgs⟩ : ∃ gs, (sg k R n L t).1 = gs := ⟨_, rfl⟩
      obtain ⟨rs, hrs⟩ : ∃ rs, (sg k R n L t).2 = rs := ⟨_, rfl⟩
      rw [hgs] at hsu hl1 ho2
      rw [hrs] at hsu hl2 ho1
      have HSU1 := Lib.hid (congrArg Prod.fst hsu); have HSU2 := Lib.hid (congrArg Prod.snd hsu)
      dsimp only at HSU1 HSU2
      have HRL := Lib.hid (show rs.length ≤ 100 by omega)
      have HGS0 := Lib.hid hgs; have HRS0 := Lib.hid hrs
      clear hsu hl2 hgs hrs
      obtain ⟨vb, vc, rfl⟩ := OwnD.form ho2
      rw [List.length_map] at ho2 ⊢
      obtain ⟨q, hq⟩ : ∃ q, gs.length = q := ⟨_, rfl⟩
      rw [hq] at ho2 hl1 ⊢
      have HQ := Lib.hid hq; clear hq
      have HO1 := Lib.hid ho1; have HO2 := Lib.hid ho2
      have HLT := Lib.hid (OwnD.lt ho2)
      clear ho1 ho2
      replace KH := KH.on hb
      replace KL := KL.on hb
      replace KF := KF.on hb
      have hszw := hb.size
      have HB := Lib.hid hb; clear hb
      by_cases hlt : t < m
      · have hlt' : (t : Int) < m := by omega
        have hx := DrumsAt.get KL.here (show 0 < m by omega)
        obtain ⟨g, off, rfl, hg, hc⟩ := hx
        have HC := Lib.hid (hc t hlt); clear hc
        go_wp2_with (first | (with_reducible refine load_drum_mid rfl _ rfl g (off + t * 96) rfl (L t) HC.out ?_) | (with_reducible refine copy_drum rfl rfl rfl _ _ rfl (L t) rfl rfl ?_; intro V hb2 hz2 hg2; have HB2 := Lib.hid hb2; have HZ2 := Lib.hid hz2; have KD := kp_drum hg2; clear hb2 hz2 hg2) | fail)
        have hb2 := HB2.out
        have hz2 := HZ2.out
        replace KH := KH.on hb2
        replace KF := KF.on hb2
        have hoV := HO2.out.below hb2
        have hiV := HO1.out.below hb2
        have hda := OwnD.readAt hoV
        rw [List.length_map, HQ.out] at hda
        refine (indexFuncShare_any vb q vc _ (.pointer (some ⟨w.heap.size, 0, none⟩)) (.pointer (some ⟨wr.heap.size, 0, none⟩)) (fun x => fit k R n L (gs.getD x []) t) V (by omega) hda ?_).mono ?_
        · intro Z x hx hbz
          have hx' : x < gs.length := by rw [HQ.out]; exact hx
          have h9 := shareGroups1_any w.heap.size wr.heap.size _ _ k a n c P R ((gs.map (uniL L)).getD x D0) (L t) Z (by omega) hN HR.out (getD_32 HL.out gs x) (HL.out t) (KF.at hbz) (KD.at hbz) (KH.at hbz)
          rw [← fit_eq hx'] at h9
          exact h9
        rintro e w2 ⟨r, rfl, hr, hb3⟩
        replace KD := KD.on hb3
        have hbT := HB.out.trans ((hb2.trans (hb3.mono hb2.size)).mono hszw)
        have hoT := hoV.below hb3
        have hiT := hiV.below hb3
        have hz3 := hb3.size
        have hszT : wr.heap.size < w2.heap.size := by omega
        have HB2w := Lib.hid hbT; have HOT := Lib.hid hoT; have HIT := Lib.hid hiT
        have HD2 := Lib.hid KD.here
        have hne0 : some wr.heap.size ≠ (Value.slice vb q vc).ownBlock := fun e => by have := (HLT.out _ e.symm).2; omega
        have HNE0 := Lib.hid hne0
        clear hoV hiV hda hb3 hbT hoT hiT hb2 hne0 HB2 HO1 HO2 HLT KH KL KF KD HC HB HZ2 hz2 hz3
        rcases hr with ⟨rfl, hnone⟩ | ⟨JJ, rfl, hj, hp, hmin⟩
        · have hjj := jOf_none (k := k) (R := R) (n := n) (L := L) (gs := gs) (i := t) (by rw [HQ.out]; exact hnone)
          rw [hjj, HQ.out] at HSU1 HSU2
          clear hnone hjj
          have hmore : gs.map (uniL L) ++ [D0] = (more gs q).map (uniL L) := by rw [more_new (by rw [HQ.out]; omega), List.map_append, List.map_cons, List.map_nil, uniL_nil]
          have HMORE := Lib.hid hmore; clear hmore
          go_wp2_with (first | (with_reducible refine build_drum rfl rfl ?_) | (with_reducible refine build1 rfl _ rfl D0 rfl ?_) | (at_builtin; refine append_drum_at rfl _ _ rfl w1.heap.size _ (gs.map (uniL L)) rfl (HOT.out.alloc _) w2.heap.size D0 rfl (heap_alloc_new _ _) (by rw [List.length_map, HQ.out]; omega) (by have := HB2w.out.size; simp; omega) ?_; intro v5 w5 ho5 hg5 hb5 hat5; have HO5 := Lib.hid ho5; have HI5 := Lib.hid ((HIT.out.alloc _).keepD (HOT.out.alloc _) hg5); have HD5 := Lib.hid ((hg5.block wr.heap.size (by simp; omega) HNE0.out).trans (HD2.out.alloc (.cells (dc D0) 33))); have HB5 := Lib.hid ((HB2w.out.alloc HB2w.out.size (.cells (dc D0) 33)).trans hb5); have HAT := Lib.hid hat5; clear ho5 hg5 hb5 hat5))
          have HNE := Lib.hid (show some wr.heap.size ≠ v5.ownBlock from by
            rcases HAT.out with e | e
            · rw [e]; exact HNE0.out
            · rw [e]; intro h; injection h with h; simp at h; omega)
          clear HOT HIT HD2 HAT HNE0
          obtain ⟨qb, qc, rfl⟩ := OwnD.form HO5.out
          obtain ⟨ll, hll⟩ : ∃ ll, gs.map (uniL L) ++ [D0] = ll := ⟨_, rfl⟩
          have hlen : ll.length = q + 1 := by rw [← hll, List.length_append, List.length_map, HQ.out]; rfl
          rw [hll] at HO5 HNE HMORE ⊢
          obtain ⟨QN, hQN⟩ : ∃ QN, ll.length = QN := ⟨_, rfl⟩
          rw [hQN] at HO5 HNE ⊢
          have hqn : QN = q + 1 := by omega
          obtain ⟨JJ, hJJ⟩ : ∃ JJ, q = JJ := ⟨q, rfl⟩
          subst hJJ
          have hJI : (q : Int) < QN := by omega
          have HJL := Lib.hid (show q < ll.length by omega)
          have HLM := HMORE; have HOT := HO5; have HIT := HI5; have HDT := HD5; have HBT := HB5
          clear hlen hQN hll HMORE HO5 HI5 HD5 HB5 hqn
          -- the union goes to its place
          have hS0 : Below w1.heap.size w1 w5.drew ∧ DrumAt w5.drew 33 wr.heap.size (L t) := ⟨HBT.out.drew, HDT.out⟩
          have hod := HOT.out.below (below_drew w5)
          have hoi := HIT.out.below (below_drew w5)
          obtain ⟨gg, hqb, hgb, hgl, hgc⟩ := OwnD.cells hod (by have := HJL.out; omega)
          subst hqb
          have hne : wr.heap.size ≠ gg := fun e => HNE.out (by rw [e]; rfl)
          have hgj := Lib.hid (hgc q HJL.out)
          obtain ⟨UU, hUU⟩ : ∃ UU, ll.getD q D0 = UU := ⟨_, rfl⟩
          rw [hUU] at hgj
          have HU32 : D32 UU := by rw [← hUU, HLM.out]; exact getD_32 HL.out _ _
          have HGS := Lib.hid (grp_set (i := t) HLM.out HJL.out)
          rw [hUU] at HGS
          clear hgc hUU
          refine wp_region_S (fun V => Below w1.heap.size w1 V ∧ DrumAt V 33 wr.heap.size (L t)) (by kernel_rfl) hS0 ?_
          refine take_val 0 (.slice (some ⟨gg, 0, none⟩) QN qc) rfl (by kernel_rfl) (by kernel_rfl) (by kernel_rfl) (fun _ _ _ h => h) rfl (fun V hV => by simp [go_sem]) hS0 ?_
          simp only [List.getElem_toArray, List.getElem_cons_zero, List.getElem_cons_succ, Act.put, List.setIfInBounds_toArray, List.set_cons_zero, List.set_cons_succ]
          refine take_val 1 (.int .i64 (q : Nat)) rfl (by kernel_rfl) (by kernel_rfl) (by kernel_rfl) (fun _ _ _ h => h) rfl (fun V hV => by simp [go_sem]) hS0 ?_
          simp only [List.getElem_toArray, List.getElem_cons_zero, List.getElem_cons_succ, Act.put, List.setIfInBounds_toArray, List.set_cons_zero, List.set_cons_succ]
          refine take_val 2 (.slice (some ⟨gg, 0, none⟩) QN qc) rfl (by kernel_rfl) (by kernel_rfl) (by kernel_rfl) (fun _ _ _ h => h) rfl (fun V hV => by simp [go_sem]) hS0 ?_
          simp only [List.getElem_toArray, List.getElem_cons_zero, List.getElem_cons_succ, Act.put, List.setIfInBounds_toArray, List.set_cons_zero, List.set_cons_succ]
          refine take_val 3 (.int .i64 (q : Nat)) rfl (by kernel_rfl) (by kernel_rfl) (by kernel_rfl) (fun _ _ _ h => h) rfl (fun V hV => by simp [go_sem]) hS0 ?_
          simp only [List.getElem_toArray, List.getElem_cons_zero, List.getElem_cons_succ, Act.put, List.setIfInBounds_toArray, List.set_cons_zero, List.set_cons_succ]
          refine take_val 4 (.pointer (some ⟨gg, q * 96, none⟩)) rfl (by kernel_rfl) (by kernel_rfl) (by kernel_rfl) (fun _ _ _ h => h) rfl (fun V hV => by simp [go_sem, hJI]) hS0 ?_
          simp only [List.getElem_toArray, List.getElem_cons_zero, List.getElem_cons_succ, Act.put, List.setIfInBounds_toArray, List.set_cons_zero, List.set_cons_succ]
          refine take_val 6 (.agg (dc (L t))) rfl (by kernel_rfl) (by kernel_rfl) (by kernel_rfl) (fun _ _ _ h => h) rfl (fun V hV => ex_load_drum _ rfl wr.heap.size rfl _ (L t) hV.2) hS0 ?_
          simp only [List.getElem_toArray, List.getElem_cons_zero, List.getElem_cons_succ, Act.put, List.setIfInBounds_toArray, List.set_cons_zero, List.set_cons_succ]
          refine step_val 5 _ _ (by kernel_rfl) rfl rfl (ex_load_drum_mid _ rfl gg (q * 96) rfl UU hgj.out) hS0 ?_
          simp only [List.getElem_toArray, List.getElem_cons_zero, List.getElem_cons_succ, Act.put, List.setIfInBounds_toArray, List.set_cons_zero, List.set_cons_succ]
          have hl2 := DrumsAt.two w5.drew UU (L t) (twoL UU (L t)) rfl rfl
          have hS1 : Below w1.heap.size w1 (w5.drew.alloc (.cells (dc UU ++ dc (L t)) 33)) ∧ DrumAt (w5.drew.alloc (.cells (dc UU ++ dc (L t)) 33)) 33 wr.heap.size (L t) := ⟨hS0.1.alloc hS0.1.size _, hS0.2.alloc _⟩
          refine step_val 7 _ _ (by kernel_rfl) rfl rfl (ex_build2 _ _ rfl UU (L t) rfl rfl) hS1 ?_
          simp only [List.getElem_toArray, List.getElem_cons_zero, List.getElem_cons_succ, Act.put, List.setIfInBounds_toArray, List.set_cons_zero, List.set_cons_succ]
          refine step_call 8 36 #[.slice (some ⟨w5.drew.heap.size, 0, none⟩) 2 2] (by kernel_rfl) rfl rfl (by simp [go_sem]) ?_
          refine (union_any _ 2 2 (twoL UU (L t)) _ (by omega) (twoL_32 HU32 (HL.out t)) hl2).mono ?_
          rw [union_two]
          obtain ⟨XX, hXX⟩ : ∃ XX, (fun y => UU y ||| L t y) = XX := ⟨_, rfl⟩
          rw [hXX] at HGS ⊢
          clear hXX
          rintro e w8 ⟨rfl, hb8⟩
          have hS8 : Below w1.heap.size w1 w8 ∧ DrumAt w8 33 wr.heap.size (L t) := ⟨hS1.1.trans (hb8.mono hS1.1.size), hS1.2.below hb8 hS1.2.lt⟩
          refine ⟨_, rfl, hS8, ?_⟩
          simp only [List.getElem_toArray, List.getElem_cons_zero, List.getElem_cons_succ, Act.put, List.setIfInBounds_toArray, List.set_cons_zero, List.set_cons_succ]
          have hod8 := (hod.alloc (.cells (dc UU ++ dc (L t)) 33)).below hb8
          have hoi8 := (hoi.alloc (.cells (dc UU ++ dc (L t)) 33)).below hb8
          obtain ⟨hset, hth, NN, ff, ff2, hbk, hlek, _⟩ := OwnD.set hod8 HJL.out XX
          have hoi9 := hoi8.setD hbk (dc XX).toList hlek
          have hS9 : Below w1.heap.size w1 (w8.setCells gg (q * 96) (dc XX).toList) ∧ DrumAt (w8.setCells gg (q * 96) (dc XX).toList) 33 wr.heap.size (L t) := ⟨below_setCells hgb _ hS8.1, (heap_setCells_other _ hne).trans hS8.2⟩
          refine take_val 9 (.pointer (some ⟨gg, q * 96, none⟩)) rfl (by kernel_rfl) (by kernel_rfl) (by kernel_rfl) (fun _ _ _ h => h) rfl (fun V hV => by simp [go_sem, hJI]) hS8 ?_
          simp only [List.getElem_toArray, List.getElem_cons_zero, List.getElem_cons_succ, Act.put, List.setIfInBounds_toArray, List.set_cons_zero, List.set_cons_succ]
          refine step_skip 10 _ (by kernel_rfl) rfl rfl (ex_store_drum_mid _ _ rfl gg (q * 96) XX rfl rfl hth) hS9 ?_
          simp only [List.getElem_toArray, List.getElem_cons_zero, List.getElem_cons_succ, Act.put, List.setIfInBounds_toArray, List.set_cons_zero, List.set_cons_succ]
          refine wpAnyH_done (by kernel_rfl) ?_ _
          rw [HGS.out] at hset
          have hb9 := hS9.1
          generalize w8.setCells gg (q * 96) (dc XX).toList = w9 at hset hoi9 hb9 ⊢
          have HSET := Lib.hid hset; have HOI9 := Lib.hid hoi9; have HB9 := Lib.hid hb9; have hsz9 := hb9.size
          clear hS0 hod hoi hS1 hS8 hod8 hoi8 hset hth hbk hlek hoi9 hS9 hb9 hl2 hb8 hgj HGS HU32
          go_wp2_with (at_builtin; refine append_intg rfl _ _ rfl w1.heap.size _ rs rfl (HOI9.out.alloc _) w9.heap.size (q : Int) rfl (by simp) (by have := HRL.out; omega) (by simp; omega) ?_; intro v10 w10 ho10 hg10 hb10; have HO10 := Lib.hid ho10; have HD10 := Lib.hid ((HSET.out.alloc _).keep (HOI9.out.alloc _) hg10); have HB10 := Lib.hid (((HB9.out.alloc hsz9 _).trans hb10)); clear ho10 hg10 hb10)
          go_roundw
          case rel => exact ⟨HB10.out, t + 1, by omega, by go_num, by rw [HSU2.out]; exact HO10.out, by rw [HSU1.out]; exact HD10.out⟩
          case measure => simp [intOf]; omega
        · have hjj := jOf_at (k := k) (R := R) (n := n) (L := L) (gs := gs) (i := t) (by rw [HQ.out]; exact hj) hp hmin
          rw [hjj] at HSU1 HSU2
          clear hp hmin hjj
          have HMORE := Lib.hid (more_in (gs := gs) (j := JJ) (by rw [HQ.out]; exact hj))
          have hjj2 : ¬ (JJ : Int) < 0 := by omega
          have hJI : (JJ : Int) < q := by omega
          obtain ⟨ll, hll⟩ : ∃ ll, gs.map (uniL L) = ll := ⟨_, rfl⟩
          have HJL := Lib.hid (show JJ < ll.length by rw [← hll, List.length_map, HQ.out]; exact hj)
          have HLM := Lib.hid (show ll = (more gs JJ).map (uniL L) by rw [HMORE.out, hll])
          rw [hll] at HOT
          obtain ⟨QN, hQN⟩ : ∃ QN, q = QN := ⟨q, rfl⟩
          obtain ⟨qb, hqb⟩ : ∃ qb, vb = qb := ⟨vb, rfl⟩
          obtain ⟨qc, hqc⟩ : ∃ qc, vc = qc := ⟨vc, rfl⟩
          subst hQN hqb hqc
          have HNE := HNE0; have HBT := HB2w; have HDT := HD2
          clear hll HMORE HNE0 HB2w HD2
          go_wp2
          -- the union goes to its place
          have hS0 : Below w1.heap.size w1 w2.drew ∧ DrumAt w2.drew 33 wr.heap.size (L t) := ⟨HBT.out.drew, HDT.out⟩
          have hod := HOT.out.below (below_drew w2)
          have hoi := HIT.out.below (below_drew w2)
          obtain ⟨gg, hqb, hgb, hgl, hgc⟩ := OwnD.cells hod (by have := HJL.out; omega)
          subst hqb
          have hne : wr.heap.size ≠ gg := fun e => HNE.out (by rw [e]; rfl)
          have hgj := Lib.hid (hgc JJ HJL.out)
          obtain ⟨UU, hUU⟩ : ∃ UU, ll.getD JJ D0 = UU := ⟨_, rfl⟩
          rw [hUU] at hgj
          have HU32 : D32 UU := by rw [← hUU, HLM.out]; exact getD_32 HL.out _ _
          have HGS := Lib.hid (grp_set (i := t) HLM.out HJL.out)
          rw [hUU] at HGS
          clear hgc hUU
          refine wp_region_S (fun V => Below w1.heap.size w1 V ∧ DrumAt V 33 wr.heap.size (L t)) (by kernel_rfl) hS0 ?_
          refine take_val 0 (.slice (some ⟨gg, 0, none⟩) q vc) rfl (by kernel_rfl) (by kernel_rfl) (by kernel_rfl) (fun _ _ _ h => h) rfl (fun V hV => by simp [go_sem]) hS0 ?_
          simp only [List.getElem_toArray, List.getElem_cons_zero, List.getElem_cons_succ, Act.put, List.setIfInBounds_toArray, List.set_cons_zero, List.set_cons_succ]
          refine take_val 1 (.int .i64 (JJ : Nat)) rfl (by kernel_rfl) (by kernel_rfl) (by kernel_rfl) (fun _ _ _ h => h) rfl (fun V hV => by simp [go_sem]) hS0 ?_
          simp only [List.getElem_toArray, List.getElem_cons_zero, List.getElem_cons_succ, Act.put, List.setIfInBounds_toArray, List.set_cons_zero, List.set_cons_succ]
          refine take_val 2 (.slice (some ⟨gg, 0, none⟩) q vc) rfl (by kernel_rfl) (by kernel_rfl) (by kernel_rfl) (fun _ _ _ h => h) rfl (fun V hV => by simp [go_sem]) hS0 ?_
          simp only [List.getElem_toArray, List.getElem_cons_zero, List.getElem_cons_succ, Act.put, List.setIfInBounds_toArray, List.set_cons_zero, List.set_cons_succ]
          refine take_val 3 (.int .i64 (JJ : Nat)) rfl (by kernel_rfl) (by kernel_rfl) (by kernel_rfl) (fun _ _ _ h => h) rfl (fun V hV => by simp [go_sem]) hS0 ?_
          simp only [List.getElem_toArray, List.getElem_cons_zero, List.getElem_cons_succ, Act.put, List.setIfInBounds_toArray, List.set_cons_zero, List.set_cons_succ]
          refine take_val 4 (.pointer (some ⟨gg, JJ * 96, none⟩)) rfl (by kernel_rfl) (by kernel_rfl) (by kernel_rfl) (fun _ _ _ h => h) rfl (fun V hV => by simp [go_sem, hJI]) hS0 ?_
          simp only [List.getElem_toArray, List.getElem_cons_zero, List.getElem_cons_succ, Act.put, List.setIfInBounds_toArray, List.set_cons_zero, List.set_cons_succ]
          refine take_val 6 (.agg (dc (L t))) rfl (by kernel_rfl) (by kernel_rfl) (by kernel_rfl) (fun _ _ _ h => h) rfl (fun V hV => ex_load_drum _ rfl wr.heap.size rfl _ (L t) hV.2) hS0 ?_
          simp only [List.getElem_toArray, List.getElem_cons_zero, List.getElem_cons_succ, Act.put, List.setIfInBounds_toArray, List.set_cons_zero, List.set_cons_succ]
          refine step_val 5 _ _ (by kernel_rfl) rfl rfl (ex_load_drum_mid _ rfl gg (JJ * 96) rfl UU hgj.out) hS0 ?_
          simp only [List.getElem_toArray, List.getElem_cons_zero, List.getElem_cons_succ, Act.put, List.setIfInBounds_toArray, List.set_cons_zero, List.set_cons_succ]
          have hl2 := DrumsAt.two w2.drew UU (L t) (twoL UU (L t)) rfl rfl
          have hS1 : Below w1.heap.size w1 (w2.drew.alloc (.cells (dc UU ++ dc (L t)) 33)) ∧ DrumAt (w2.drew.alloc (.cells (dc UU ++ dc (L t)) 33)) 33 wr.heap.size (L t) := ⟨hS0.1.alloc hS0.1.size _, hS0.2.alloc _⟩
          refine step_val 7 _ _ (by kernel_rfl) rfl rfl (ex_build2 _ _ rfl UU (L t) rfl rfl) hS1 ?_
          simp only [List.getElem_toArray, List.getElem_cons_zero, List.getElem_cons_succ, Act.put, List.setIfInBounds_toArray, List.set_cons_zero, List.set_cons_succ]
          refine step_call 8 36 #[.slice (some ⟨w2.drew.heap.size, 0, none⟩) 2 2] (by kernel_rfl) rfl rfl (by simp [go_sem]) ?_
          refine (union_any _ 2 2 (twoL UU (L t)) _ (by omega) (twoL_32 HU32 (HL.out t)) hl2).mono ?_
          rw [union_two]
          obtain ⟨XX, hXX⟩ : ∃ XX, (fun y => UU y ||| L t y) = XX := ⟨_, rfl⟩
          rw [hXX] at HGS ⊢
          clear hXX
          rintro e w8 ⟨rfl, hb8⟩
          have hS8 : Below w1.heap.size w1 w8 ∧ DrumAt w8 33 wr.heap.size (L t) := ⟨hS1.1.trans (hb8.mono hS1.1.size), hS1.2.below hb8 hS1.2.lt⟩
          refine ⟨_, rfl, hS8, ?_⟩
          simp only [List.getElem_toArray, List.getElem_cons_zero, List.getElem_cons_succ, Act.put, List.setIfInBounds_toArray, List.set_cons_zero, List.set_cons_succ]
          have hod8 := (hod.alloc (.cells (dc UU ++ dc (L t)) 33)).below hb8
          have hoi8 := (hoi.alloc (.cells (dc UU ++ dc (L t)) 33)).below hb8
          obtain ⟨hset, hth, NN, ff, ff2, hbk, hlek, _⟩ := OwnD.set hod8 HJL.out XX
          have hoi9 := hoi8.setD hbk (dc XX).toList hlek
          have hS9 : Below w1.heap.size w1 (w8.setCells gg (JJ * 96) (dc XX).toList) ∧ DrumAt (w8.setCells gg (JJ * 96) (dc XX).toList) 33 wr.heap.size (L t) := ⟨below_setCells hgb _ hS8.1, (heap_setCells_other _ hne).trans hS8.2⟩
          refine take_val 9 (.pointer (some ⟨gg, JJ * 96, none⟩)) rfl (by kernel_rfl) (by kernel_rfl) (by kernel_rfl) (fun _ _ _ h => h) rfl (fun V hV => by simp [go_sem, hJI]) hS8 ?_
          simp only [List.getElem_toArray, List.getElem_cons_zero, List.getElem_cons_succ, Act.put, List.setIfInBounds_toArray, List.set_cons_zero, List.set_cons_succ]
          refine step_skip 10 _ (by kernel_rfl) rfl rfl (ex_store_drum_mid _ _ rfl gg (JJ * 96) XX rfl rfl hth) hS9 ?_
          simp only [List.getElem_toArray, List.getElem_cons_zero, List.getElem_cons_succ, Act.put, List.setIfInBounds_toArray, List.set_cons_zero, List.set_cons_succ]
          refine wpAnyH_done (by kernel_rfl) ?_ _
          rw [HGS.out] at hset
          have hb9 := hS9.1
          generalize w8.setCells gg (JJ * 96) (dc XX).toList = w9 at hset hoi9 hb9 ⊢
          have HSET := Lib.hid hset; have HOI9 := Lib.hid hoi9; have HB9 := Lib.hid hb9; have hsz9 := hb9.size
          clear hS0 hod hoi hS1 hS8 hod8 hoi8 hset hth hbk hlek hoi9 hS9 hb9 hl2 hb8 hgj HGS HU32
          go_wp2_with (at_builtin; refine append_intg rfl _ _ rfl w1.heap.size _ rs rfl (HOI9.out.alloc _) w9.heap.size (JJ : Int) rfl (by simp) (by have := HRL.out; omega) (by simp; omega) ?_; intro v10 w10 ho10 hg10 hb10; have HO10 := Lib.hid ho10; have HD10 := Lib.hid ((HSET.out.alloc _).keep (HOI9.out.alloc _) hg10); have HB10 := Lib.hid (((HB9.out.alloc hsz9 _).trans hb10)); clear ho10 hg10 hb10)
          go_roundw
          case rel => exact ⟨HB10.out, t + 1, by omega, by go_num, by rw [HSU2.out]; exact HO10.out, by rw [HSU1.out]; exact HD10.out⟩
          case measure => simp [intOf]; omega
      · have htm : t = m := by omega
        subst htm
        have HN1 := Lib.hid (show ((sg k R n L t).1.length : Int) = q by rw [HGS0.out, HQ.out])
        go_wp2_with (go_at_call 43; refine (sizeDrum_any _ _ _ _ (by omega)).mono ?_; rintro e w' ⟨rfl, rfl⟩)
        go_ret3
        exact ⟨_, by rw [H2.out, H3.out, HN1.out]; rfl, HB00.out.trans (HB.out.mono hsz1), by rw [H1.out, HRS0.out]; exact OwnI.mono HO1.out hsz1⟩
  · obtain ⟨h1, h2, h3⟩ := sg_no hv
    have hv2 : (lcode (okAll s n P R m L) m == 0) = false := by simpa using hv
    have hv3 : (lcode (okAll s n P R m L) m != 0) = true := by simp [hv]
    have H1 := Lib.hid h1; have H2 := Lib.hid h2; have H3 := Lib.hid h3
    obtain ⟨x, hx⟩ : ∃ x, lcode (okAll s n P R m L) m = x := ⟨_, rfl⟩
    rw [hx] at hv hv2 hv3 H3 ⊢
    have hb := KB.here
    clear hx h1 h2 h3
    go_wp2
    go_ret3
    exact ⟨_, by rw [H2.out, H3.out]; rfl, hb, by rw [H1.out]; exact OwnI.none0 _ _⟩
end Go.Proofs.Ytlcfjeofphncgaa
namespace Go.Proofs.Ytlcfjeofphncgaa
open Go.RowKit
set_option linter.unusedVariables false
set_option linter.unusedSimpArgs false

set_option maxRecDepth 100000 in
set_option maxHeartbeats 20000000 in
theorem lawSharedDrums (a0 : Option Addr) (n0 c0 : Nat) (B0 : Nat → Int) (a1 : Option Addr) (n1 c1 : Nat) (B1 : Nat → Int) (w : World) (hn0 : n0 ≤ 9223372036854775807) (hu0 : U8 B0) (hb0 : BytIn w w.heap.size a0 n0 B0) (hn1 : n1 ≤ 9223372036854775807) (hu1 : U8 B1) (hb1 : BytIn w w.heap.size a1 n1 B1) :
    Calls Try.prog 3 #[.slice a0 n0 c0, .slice a1 n1 c1] w fun e w' => e = .returned (.bool true) ∧ Below w.heap.size w w' := by
  by_cases h0 : (3000 : Int) < n0
  · go_enter Try.func3, Try.ntmps3
    go_wp2
    go_ret
    exact ⟨rfl, Below.refl _ _⟩
  by_cases h1 : (3000 : Int) < n1
  · go_enter Try.func3, Try.ntmps3
    go_wp2
    go_ret
    exact ⟨rfl, Below.refl _ _⟩
  have HU0 := Lib.hid hu0; have HU1 := Lib.hid hu1; have HB0 := Lib.hid hb0
  have KB := Kp.base w
  have KY := kp_byt hb1 rfl
  clear hu0 hu1 hb0 hb1
  go_enter Try.func3, Try.ntmps3
  go_wp2_with fail
  refine (a2Long_any a0 n0 c0 a1 n1 c1 _ (by omega) (by omega)).mono ?_
  rintro e w' ⟨rfl, rfl⟩
  go_wp2_with fail
  refine (dataFrame_6_any a0 n0 c0 B0 w (by omega) HU0.out HB0.out).mono ?_
  rintro e w1 ⟨s, b, n, hc, P, R, rfl, hs, hn, hP, hR, hv, hh, hb⟩
  obtain ⟨k, rfl⟩ : ∃ k : Nat, s = k := ⟨s.toNat, by omega⟩
  have HV := Lib.hid hv; have HP := Lib.hid hP; have HR := Lib.hid hR; have KH := kp_ham hh
  replace KB := KB.on hb
  replace KY := KY.on hb
  clear hv hP hR hh hb
  have KF := kp_new w1 #[.int .i16 (k : Int), .slice b n hc] 27
  replace KB := KB.alloc (.cells #[.int .i16 (k : Int), .slice b n hc] 27)
  replace KY := KY.alloc (.cells #[.int .i16 (k : Int), .slice b n hc] 27)
  replace KH := KH.alloc (.cells #[.int .i16 (k : Int), .slice b n hc] 27)
  obtain ⟨gf, hgf⟩ : ∃ gf, w1.heap.size = gf := ⟨_, rfl⟩
  rw [hgf] at KF
  go_wp2_with (first | (with_reducible refine load_iframe rfl _ rfl gf rfl _ (k : Int) b n hc KF.here ?_) | fail)
  clear hgf
  generalize w1.alloc (.cells #[.int .i16 (k : Int), .slice b n hc] 27) = w2 at KB KY KH KF ⊢
  refine (a2Drums_any a1 n1 c1 B1 k b n hc P R w2 (by omega) HU1.out (KY.here.mono KB.here.size) (by omega) hn HV.out KH.here).mono ?_
  rintro e w3 ⟨⟨L, vb, vc, rfl, hl5, hdr, hown⟩, hb3⟩
  have hok := okAll_iff.2 ⟨HV.out, fun i hi => (hdr i hi).2⟩
  have HL := Lib.hid hdr.l32
  have HVD := Lib.hid (fun i (hi : i < L.length) => (hdr i hi).2)
  have KL := kp_drums (OwnD.readAt hown)
  obtain ⟨Ld, hLd⟩ : ∃ Ld : Nat → Nat → Nat, (fun i => L.getD i D0) = Ld := ⟨_, rfl⟩
  have hLd2 : ∀ i, L.getD i D0 = Ld i := fun i => by rw [← hLd]
  simp only [hLd2] at HL HVD KL hok
  obtain ⟨l, hl⟩ : ∃ l, L.length = l := ⟨_, rfl⟩
  rw [hl] at HVD KL hok hl5 ⊢
  have HOK := Lib.hid hok
  replace KB := KB.on hb3
  replace KH := KH.on hb3
  replace KF := KF.on hb3
  clear hdr hown hLd hLd2 hl hok hb3 KY
  have hlc := Lib.hid (show lcode (okAll (k : Int) n P R l Ld) l = 0 by rw [HOK.out]; exact lcode_few (by omega))
  obtain ⟨S, hS⟩ : ∃ S, shRes (k : Int) n P R l Ld = S := ⟨_, rfl⟩
  obtain ⟨sc, hsc⟩ : ∃ x, scode (okAll (k : Int) n P R l Ld) l (-1) = x := ⟨_, rfl⟩
  obtain ⟨U, hU⟩ : ∃ U, unionTo Ld l = U := ⟨_, rfl⟩
  obtain ⟨cs, hcs⟩ : ∃ x, (sg k R n Ld l).2 = x := ⟨_, rfl⟩
  obtain ⟨G, hG⟩ : ∃ x, (sg k R n Ld l).1.length = x := ⟨_, rfl⟩
  have hcl : cs.length = l := by rw [← hcs]; exact sg_len2 k R n Ld l
  obtain ⟨q, hq⟩ : ∃ q, decide (0 < l) = q := ⟨_, rfl⟩
  have hq0 : (sc == 0) = q := by
    rw [← hsc, ← hq]
    by_cases h : l = 0
    · rw [scode_none (-1) hlc.out (by omega) h]; subst h; rfl
    · rw [scode_ok (-1) hlc.out (by omega) h]; simp; omega
  have HQ := Lib.hid hq; have HQ0 := Lib.hid hq0; have HCL := Lib.hid hcl
  have HSC := Lib.hid hsc; have HSD := Lib.hid hS; have HUD := Lib.hid hU; have HCS := Lib.hid hcs; have HGL := Lib.hid hG
  clear hq hq0 hcl hsc hS hU hcs hG
  go_wp2_with (first | (with_reducible refine load_iframe rfl _ rfl gf rfl _ (k : Int) b n hc KF.here ?_) | fail)
  refine (implSharedPins_any (k : Int) b n hc P R vb l vc Ld w3 (by omega) (by omega) HP.out HR.out KH.here (by omega) HL.out KL.here).mono ?_
  rw [HSD.out, HSC.out]
  rintro e w4 ⟨rfl, hb⟩
  replace KB := KB.on hb
  replace KH := KH.on hb
  replace KF := KF.on hb
  replace KL := KL.on hb
  clear hb
  obtain ⟨g5, hg5⟩ : ∃ g, w4.heap.size = g := ⟨_, rfl⟩
  go_wp2_with (first | (refine copy_drum rfl rfl rfl _ _ rfl S rfl rfl ?_; intro w5 hbn hsn hrn; rw [hg5] at hrn ⊢; have KD5 := kp_drum hrn; replace KB := KB.on hbn; replace KH := KH.on hbn; replace KF := KF.on hbn; replace KL := KL.on hbn; clear hbn hsn hrn hg5) | (with_reducible refine load_iframe rfl _ rfl gf rfl _ (k : Int) b n hc KF.here ?_) | fail)
  refine (specSharedPins_any (k : Int) b n hc P R vb l vc Ld w5 (by omega) (by omega) HP.out HR.out KH.here (by omega) HL.out KL.here).mono ?_
  rw [HSD.out, HSC.out]
  rintro e w6 ⟨rfl, hb⟩
  replace KB := KB.on hb
  replace KH := KH.on hb
  replace KF := KF.on hb
  replace KL := KL.on hb
  replace KD5 := KD5.on hb
  clear hb
  obtain ⟨g7, hg7⟩ : ∃ g, w6.heap.size = g := ⟨_, rfl⟩
  go_wp2_with (first | (refine copy_drum rfl rfl rfl _ _ rfl S rfl rfl ?_; intro w7 hbn hsn hrn; rw [hg7] at hrn ⊢; have KD7 := kp_drum hrn; replace KB := KB.on hbn; replace KH := KH.on hbn; replace KF := KF.on hbn; replace KL := KL.on hbn; replace KD5 := KD5.on hbn; clear hbn hsn hrn hg7) | (with_reducible refine load_iframe rfl _ rfl gf rfl _ (k : Int) b n hc KF.here ?_) | fail)
  refine (implUnionOf_any (k : Int) b n hc P R vb l vc Ld w7 (by omega) (by omega) HP.out HR.out KH.here (by omega) HL.out KL.here).mono ?_
  rw [uniRes_yes hlc.out, HUD.out, hlc.out]
  rintro e w8 ⟨rfl, hb⟩
  replace KB := KB.on hb
  replace KH := KH.on hb
  replace KF := KF.on hb
  replace KL := KL.on hb
  replace KD5 := KD5.on hb
  replace KD7 := KD7.on hb
  clear hb
  obtain ⟨g9, hg9⟩ : ∃ g, w8.heap.size = g := ⟨_, rfl⟩
  go_wp2_with (first | (refine copy_drum rfl rfl rfl _ _ rfl U rfl rfl ?_; intro w9 hbn hsn hrn; rw [hg9] at hrn ⊢; have KD9 := kp_drum hrn; replace KB := KB.on hbn; replace KH := KH.on hbn; replace KF := KF.on hbn; replace KL := KL.on hbn; replace KD5 := KD5.on hbn; replace KD7 := KD7.on hbn; clear hbn hsn hrn hg9) | (with_reducible refine load_iframe rfl _ rfl gf rfl _ (k : Int) b n hc KF.here ?_) | fail)
  refine (specUnionOf_any (k : Int) b n hc P R vb l vc Ld w9 (by omega) (by omega) HP.out HR.out KH.here (by omega) HL.out KL.here).mono ?_
  rw [uniRes_yes hlc.out, HUD.out, hlc.out]
  rintro e w10 ⟨rfl, hb⟩
  replace KB := KB.on hb
  replace KH := KH.on hb
  replace KF := KF.on hb
  replace KL := KL.on hb
  replace KD5 := KD5.on hb
  replace KD7 := KD7.on hb
  replace KD9 := KD9.on hb
  clear hb
  obtain ⟨g11, hg11⟩ : ∃ g, w10.heap.size = g := ⟨_, rfl⟩
  go_wp2_with (first | (refine copy_drum rfl rfl rfl _ _ rfl U rfl rfl ?_; intro w11 hbn hsn hrn; rw [hg11] at hrn ⊢; have KD11 := kp_drum hrn; replace KB := KB.on hbn; replace KH := KH.on hbn; replace KF := KF.on hbn; replace KL := KL.on hbn; replace KD5 := KD5.on hbn; replace KD7 := KD7.on hbn; replace KD9 := KD9.on hbn; clear hbn hsn hrn hg11) | (with_reducible refine load_iframe rfl _ rfl gf rfl _ (k : Int) b n hc KF.here ?_) | fail)
  refine (implPinsNeeded_any (k : Int) b n hc P R vb l vc Ld w11 (by omega) (by omega) HP.out HR.out KH.here (by omega) HL.out KL.here).mono ?_
  rw [pnRes_yes hlc.out, hlc.out]
  obtain ⟨pn, hpn⟩ : ∃ x, mostTo Ld l = x := ⟨_, rfl⟩
  rw [hpn]; have HPN := Lib.hid hpn; clear hpn
  rintro e w12 ⟨rfl, hb⟩
  replace KB := KB.on hb
  replace KH := KH.on hb
  replace KF := KF.on hb
  replace KL := KL.on hb
  replace KD5 := KD5.on hb
  replace KD7 := KD7.on hb
  replace KD9 := KD9.on hb
  replace KD11 := KD11.on hb
  clear hb
  go_wp2_with (first | (with_reducible refine load_iframe rfl _ rfl gf rfl _ (k : Int) b n hc KF.here ?_) | fail)
  refine (implShareGroups_any (k : Int) b n hc P R vb l vc Ld w12 (by omega) (by omega) HP.out HR.out KH.here (by omega) HL.out KL.here).mono ?_
  rw [(sg_yes hlc.out).1, (sg_yes hlc.out).2.1, (sg_yes hlc.out).2.2, Int.toNat_natCast, HCS.out, HGL.out]
  rintro e w13 ⟨v1, rfl, hb, ho⟩
  obtain ⟨z1, zc1, rfl, hz⟩ := OwnI.at ho
  rw [HCL.out] at hz ⊢
  have KZ1 := kp_int hz
  replace KB := KB.on hb
  replace KH := KH.on hb
  replace KF := KF.on hb
  replace KL := KL.on hb
  replace KD5 := KD5.on hb
  replace KD7 := KD7.on hb
  replace KD9 := KD9.on hb
  replace KD11 := KD11.on hb
  clear ho hz hb
  go_wp2_with (first | (with_reducible refine load_iframe rfl _ rfl gf rfl _ (k : Int) b n hc KF.here ?_) | fail)
  refine (specShareGroups_any (k : Int) b n hc P R vb l vc Ld w13 (by omega) (by omega) HP.out HR.out KH.here (by omega) HL.out KL.here).mono ?_
  rw [(sg_yes hlc.out).1, (sg_yes hlc.out).2.1, (sg_yes hlc.out).2.2, Int.toNat_natCast, HCS.out, HGL.out]
  rintro e w14 ⟨v2, rfl, hb, ho⟩
  obtain ⟨z2, zc2, rfl, hz⟩ := OwnI.at ho
  rw [HCL.out] at hz ⊢
  have KZ2 := kp_int hz
  replace KB := KB.on hb
  replace KH := KH.on hb
  replace KF := KF.on hb
  replace KL := KL.on hb
  replace KD5 := KD5.on hb
  replace KD7 := KD7.on hb
  replace KD9 := KD9.on hb
  replace KD11 := KD11.on hb
  replace KZ1 := KZ1.on hb
  clear ho hz hb
  have hss : (sc != sc) = false := by simp
  have hpp : (pn != pn) = false := by simp
  have hgg : ((G : Int) != (G : Int)) = false := by simp
  have hll : ((l : Int) != (l : Int)) = false := by simp
  have hqq : (!q == q) = false := by cases q <;> rfl
  go_wp2_with (first | (with_reducible refine load_GfV (ex_load_drum _ rfl g5 rfl _ S KD5.here) rfl ?_) | (with_reducible refine load_GfV (ex_load_drum _ rfl g7 rfl _ S KD7.here) rfl ?_) | (with_reducible refine load_GfV (ex_load_drum _ rfl g9 rfl _ U KD9.here) rfl ?_) | (with_reducible refine load_GfV (ex_load_drum _ rfl g11 rfl _ U KD11.here) rfl ?_) | (refine neq_drumG _ _ rfl _ rfl rfl rfl ?_) | (with_reducible refine load_iframe rfl _ rfl gf rfl _ (k : Int) b n hc KF.here ?_) | fail)
  refine (same_15_any z1 z2 l zc1 zc2 (fun i => cs.getD i 0) w14 (by omega) KZ1.here KZ2.here).mono ?_
  rintro e w15 ⟨rfl, hb⟩
  replace KB := KB.on hb
  replace KH := KH.on hb
  replace KF := KF.on hb
  replace KL := KL.on hb
  replace KD5 := KD5.on hb
  replace KD7 := KD7.on hb
  replace KD9 := KD9.on hb
  replace KD11 := KD11.on hb
  replace KZ1 := KZ1.on hb
  replace KZ2 := KZ2.on hb
  clear hb
  have hq := HQ.out; have hq0 := HQ0.out
  go_wp2_with (first | (with_reducible refine load_iframe rfl _ rfl gf rfl _ (k : Int) b n hc KF.here ?_) | fail)
  clear hq hq0 hqq hss hpp hgg hll
  go_loopw [23, 24] (fun most i W => Below w15.heap.size w15 W ∧ ∃ t : Nat, t ≤ l ∧ i = .int .i64 t ∧ most = .int .i64 (mostTo Ld t : Nat)) (fun _ i _ => l - (intOf i).toNat)
  case atStart => exact ⟨Below.refl _ _, 0, by omega, rfl, by rw [mostTo_zero]; rfl⟩
  case round =>
    obtain ⟨hb, t, ht, rfl, rfl⟩ := hrel
    replace KB := KB.on hb
    replace KH := KH.on hb
    replace KF := KF.on hb
    replace KL := KL.on hb
    replace KD5 := KD5.on hb
    replace KD7 := KD7.on hb
    replace KD9 := KD9.on hb
    replace KD11 := KD11.on hb
    replace KZ1 := KZ1.on hb
    replace KZ2 := KZ2.on hb
    by_cases hlt : t < l
    · have ht' : (t : Int) < l := by omega
      have HB0 := Lib.hid hb; clear hb
      obtain ⟨g, off, hvb, hg, hc⟩ := DrumsAt.get KL.here (show 0 < l by omega)
      have HC := Lib.hid hc; clear hc
      subst hvb
      obtain ⟨D, hD⟩ : ∃ D, Ld t = D := ⟨_, rfl⟩
      have hcD := HC.out t hlt
      rw [hD] at hcD
      have HCD := Lib.hid hcD; clear hcD
      have HVT := Lib.hid (show vDrum (k : Int) n D = true by rw [← hD]; exact HVD.out t hlt)
      have HLT := Lib.hid (show D32 D by rw [← hD]; exact HL.out t)
      have hmx := mostTo_succ Ld t
      have hml := mostTo_le Ld t
      have hml2 := mostTo_le Ld (t + 1)
      rw [hD] at hmx
      have HDE := Lib.hid hD; clear hD
      go_wp2
      have hS0 : Below wr.heap.size wr wr.drew := (Below.refl _ _).drew
      refine wp_region_S (fun V => Below wr.heap.size wr V) (by kernel_rfl) hS0 ?_
      refine take_val 0 (.agg #[.int .i16 (k : Int), .slice b n hc]) rfl (by kernel_rfl) (by kernel_rfl) (by kernel_rfl) (fun _ _ _ h => h) rfl (fun V hV => ex_load_iframe _ rfl gf rfl _ (k : Int) b n hc (KF.at hV)) hS0 ?_
      simp only [List.getElem_toArray, List.getElem_cons_zero, List.getElem_cons_succ, Act.put, List.setIfInBounds_toArray, List.set_cons_zero, List.set_cons_succ]
      refine take_val 1 (.slice (some ⟨g, off, none⟩) l vc) rfl (by kernel_rfl) (by kernel_rfl) (by kernel_rfl) (fun _ _ _ h => h) rfl (fun V hV => by simp [go_sem]) hS0 ?_
      simp only [List.getElem_toArray, List.getElem_cons_zero, List.getElem_cons_succ, Act.put, List.setIfInBounds_toArray, List.set_cons_zero, List.set_cons_succ]
      refine take_val 2 (.int .i64 (t : Int)) rfl (by kernel_rfl) (by kernel_rfl) (by kernel_rfl) (fun _ _ _ h => h) rfl (fun V hV => by simp [go_sem]) hS0 ?_
      simp only [List.getElem_toArray, List.getElem_cons_zero, List.getElem_cons_succ, Act.put, List.setIfInBounds_toArray, List.set_cons_zero, List.set_cons_succ]
      refine take_val 3 (.pointer (some ⟨g, off + t * 96, none⟩)) rfl (by kernel_rfl) (by kernel_rfl) (by kernel_rfl) (fun _ _ _ h => h) rfl (fun V hV => by simp [go_sem, hlt, ht']) hS0 ?_
      simp only [List.getElem_toArray, List.getElem_cons_zero, List.getElem_cons_succ, Act.put, List.setIfInBounds_toArray, List.set_cons_zero, List.set_cons_succ]
      refine take_val 4 (.agg (dc D)) rfl (by kernel_rfl) (by kernel_rfl) (by kernel_rfl) (fun _ _ _ h => h) rfl (fun V hV => ex_load_drum_mid _ rfl g (off + t * 96) rfl D (HCD.out.below hV hg)) hS0 ?_
      simp only [List.getElem_toArray, List.getElem_cons_zero, List.getElem_cons_succ, Act.put, List.setIfInBounds_toArray, List.set_cons_zero, List.set_cons_succ]
      have KQ := kp_start wr
      have hd := below_drew wr
      replace KB := KB.on hd
      replace KH := KH.on hd
      replace KF := KF.on hd
      replace KL := KL.on hd
      replace KD5 := KD5.on hd
      replace KD7 := KD7.on hd
      replace KD9 := KD9.on hd
      replace KD11 := KD11.on hd
      replace KZ1 := KZ1.on hd
      replace KZ2 := KZ2.on hd
      clear hd
      refine step_call 5 16 #[.agg #[.int .i16 (k : Int), .slice b n hc], .agg (dc D)] (by kernel_rfl) rfl rfl (by simp [go_sem]) ?_
      refine (implCountPins_ok (k : Int) b n hc P R D _ HV.out HVT.out HP.out HR.out KH.here HLT.out).mono ?_
      rintro e V2 ⟨rfl, hb2⟩
      replace KB := KB.on hb2
      replace KH := KH.on hb2
      replace KF := KF.on hb2
      replace KL := KL.on hb2
      replace KD5 := KD5.on hb2
      replace KD7 := KD7.on hb2
      replace KD9 := KD9.on hb2
      replace KD11 := KD11.on hb2
      replace KZ1 := KZ1.on hb2
      replace KZ2 := KZ2.on hb2
      replace KQ := KQ.on hb2
      have hS2 := KQ.here
      refine ⟨_, rfl, hS2, ?_⟩
      simp only [List.getElem_toArray, List.getElem_cons_zero, List.getElem_cons_succ, Act.put, List.setIfInBounds_toArray, List.set_cons_zero, List.set_cons_succ]
      refine take_val 6 (.tuple #[.int .i64 (cnt D), .int .i64 0]) rfl (by kernel_rfl) (by kernel_rfl) (by kernel_rfl) (fun _ _ _ h => h) rfl (fun V hV => by simp [go_sem]) hS2 ?_
      simp only [List.getElem_toArray, List.getElem_cons_zero, List.getElem_cons_succ, Act.put, List.setIfInBounds_toArray, List.set_cons_zero, List.set_cons_succ]
      refine take_val 7 (.int .i64 (cnt D)) rfl (by kernel_rfl) (by kernel_rfl) (by kernel_rfl) (fun _ _ _ h => h) rfl (fun V hV => by simp [go_sem]) hS2 ?_
      simp only [List.getElem_toArray, List.getElem_cons_zero, List.getElem_cons_succ, Act.put, List.setIfInBounds_toArray, List.set_cons_zero, List.set_cons_succ]
      refine take_val 8 (.int .i64 0) rfl (by kernel_rfl) (by kernel_rfl) (by kernel_rfl) (fun _ _ _ h => h) rfl (fun V hV => by simp [go_sem]) hS2 ?_
      simp only [List.getElem_toArray, List.getElem_cons_zero, List.getElem_cons_succ, Act.put, List.setIfInBounds_toArray, List.set_cons_zero, List.set_cons_succ]
      refine take_val 9 (.int .i64 (cnt D)) rfl (by kernel_rfl) (by kernel_rfl) (by kernel_rfl) (fun _ _ _ h => h) rfl (fun V hV => by simp [go_sem]) hS2 ?_
      simp only [List.getElem_toArray, List.getElem_cons_zero, List.getElem_cons_succ, Act.put, List.setIfInBounds_toArray, List.set_cons_zero, List.set_cons_succ]
      refine take_val 10 (.int .i64 0) rfl (by kernel_rfl) (by kernel_rfl) (by kernel_rfl) (fun _ _ _ h => h) rfl (fun V hV => by simp [go_sem]) hS2 ?_
      simp only [List.getElem_toArray, List.getElem_cons_zero, List.getElem_cons_succ, Act.put, List.setIfInBounds_toArray, List.set_cons_zero, List.set_cons_succ]
      refine wpAnyH_done (by kernel_rfl) ?_ _
      have HB1 := Lib.hid (HB0.out.trans (KQ.here.mono HB0.out.size))
      have hgV2 := Nat.lt_of_lt_of_le hg KQ.here.size
      have HCD2 := Lib.hid (HCD.out.below KQ.here hg)
      clear hb2 hS2 hS0 KQ HB0
      obtain ⟨x, hx⟩ : ∃ x, mostTo Ld t = x := ⟨_, rfl⟩
      obtain ⟨y, hy⟩ : ∃ y, cnt D = y := ⟨_, rfl⟩
      obtain ⟨M, hM⟩ : ∃ M, mostTo Ld (t + 1) = M := ⟨_, rfl⟩
      have HM := Lib.hid hM
      rw [hx, hy, hM] at hmx
      rw [hx, hy]
      have hmm : (if (x : Int) < (y : Int) then (y : Int) else (x : Int)) = (M : Int) := by
        rw [hmx, mxN_max]; split <;> omega
      clear hx hy hM hmx hml hml2
      go_wp2_with (first | (with_reducible refine max_arm rfl _ _ rfl (x : Int) (y : Int) (M : Int) rfl rfl hmm ?_) | fail)
      clear hmm
      have hl0 : 0 < l := by omega
      have hSi : S = interTo Ld l := by rw [← HSD.out]; exact shRes_yes (scode_ok (-1) hlc.out (by omega) (by omega))
      have hd32 : ∀ j, S j < 4294967296 := fun j => by rw [hSi]; exact interTo_32 HL.out l j
      have hu32 : ∀ j, U j < 4294967296 := fun j => by rw [← HUD.out]; exact unionTo_32 HL.out l j
      have HS1 := Lib.hid (fun j => show bits .andNot .u32 (S j : Int) (D j : Int) = 0 by rw [bits_andNot_u32 (hd32 j) (HLT.out j), hSi, ← HDE.out, shared_in Ld hlt j]; rfl)
      have HS2 := Lib.hid (fun j => show bits .andNot .u32 (D j : Int) (U j : Int) = 0 by rw [bits_andNot_u32 (HLT.out j) (hu32 j), ← HUD.out, ← HDE.out, in_union Ld hlt j]; rfl)
      clear hSi hd32 hu32
      obtain ⟨V3, rfl⟩ : ∃ V3, V3 = V2 := ⟨V2, rfl⟩
      go_loopw [27] (fun i W => Below V3.heap.size V3 W ∧ ∃ j : Nat, j ≤ 96 ∧ i = .int .i64 j) (fun i _ => 96 - (intOf i).toNat)
      case atStart => exact ⟨Below.refl _ _, 0, by omega, rfl⟩
      case round =>
        obtain ⟨hb, j, hj, rfl⟩ := hrel
        replace KB := KB.on hb
        replace KH := KH.on hb
        replace KF := KF.on hb
        replace KL := KL.on hb
        replace KD5 := KD5.on hb
        replace KD7 := KD7.on hb
        replace KD9 := KD9.on hb
        replace KD11 := KD11.on hb
        replace KZ1 := KZ1.on hb
        replace KZ2 := KZ2.on hb
        by_cases hj96 : j < 96
        · have hj' : (j : Int) < 96 := by omega
          have e7 := KD7.here.cell j hj96
          have e11 := KD11.here.cell j hj96
          have eD := (hb.cell (p := ⟨g, off + t * 96 + j, none⟩) hgV2).trans (HCD2.out j hj96)
          have hs1 := HS1.out j
          have hs2 := HS2.out j
          have q9 := i64_id (x := (j : Int) + 1) (by omega)
          go_wp2
          go_quiet (fail)
          clear e7 e11 eD hs1 hs2
          go_wp2
          go_roundw
          case rel => exact ⟨below_drewN hb _, j + 1, by omega, by go_num⟩
          case measure => simp [intOf]; omega
        · have hj' : ¬ (j : Int) < 96 := by omega
          have HB2 := Lib.hid (HB1.out.trans (hb.mono HB1.out.size))
          have hbw := Lib.hid hb; have hbsz := Lib.hid hb.size
          clear hb
          obtain ⟨g2, o2, hz2, hg2, hcz⟩ := IntAt.get KZ2.here hl0
          subst hz2
          have hct := hcz t hlt
          clear hcz
          have hrng := sg_rng (k := k) (R := R) (n := n) (L := Ld) hlt
          rw [HCS.out, HGL.out] at hrng
          obtain ⟨ct, hctt⟩ : ∃ c, cs.getD t 0 = c := ⟨_, rfl⟩
          simp only [hctt] at hct hrng
          have HCT := Lib.hid hctt; clear hctt
          have hc0 : ¬ ct < 0 := by omega
          have hcG : ¬ (G : Int) ≤ ct := by omega
          have HCTC := Lib.hid hct
          go_wp2
          clear hct hc0 hcG
          have HGW := Lib.hid (Nat.lt_of_lt_of_le hgV2 hbsz.out)
          have HCDW := Lib.hid (HCD2.out.below hbw.out hgV2)
          refine wp_region_S (fun V => Below wr.heap.size wr V) (by kernel_rfl) (Below.refl _ _).drew ?_
          have hS0 : Below wr.heap.size wr wr.drew := (Below.refl _ _).drew
          refine take_val 0 (.agg #[.int .i16 (k : Int), .slice b n hc]) rfl (by kernel_rfl) (by kernel_rfl) (by kernel_rfl) (fun _ _ _ h => h) rfl (fun V hV => ex_load_iframe _ rfl gf rfl _ (k : Int) b n hc (KF.at hV)) hS0 ?_
          simp only [List.getElem_toArray, List.getElem_cons_zero, List.getElem_cons_succ, Act.put, List.setIfInBounds_toArray, List.set_cons_zero, List.set_cons_succ]
          refine take_val 1 (.slice (some ⟨g, off, none⟩) l vc) rfl (by kernel_rfl) (by kernel_rfl) (by kernel_rfl) (fun _ _ _ h => h) rfl (fun V hV => by simp [go_sem]) hS0 ?_
          simp only [List.getElem_toArray, List.getElem_cons_zero, List.getElem_cons_succ, Act.put, List.setIfInBounds_toArray, List.set_cons_zero, List.set_cons_succ]
          refine take_val 2 (.int .i64 (t : Int)) rfl (by kernel_rfl) (by kernel_rfl) (by kernel_rfl) (fun _ _ _ h => h) rfl (fun V hV => by simp [go_sem]) hS0 ?_
          simp only [List.getElem_toArray, List.getElem_cons_zero, List.getElem_cons_succ, Act.put, List.setIfInBounds_toArray, List.set_cons_zero, List.set_cons_succ]
          refine take_val 3 (.pointer (some ⟨g, off + t * 96, none⟩)) rfl (by kernel_rfl) (by kernel_rfl) (by kernel_rfl) (fun _ _ _ h => h) rfl (fun V hV => by simp [go_sem, hlt, ht']) hS0 ?_
          simp only [List.getElem_toArray, List.getElem_cons_zero, List.getElem_cons_succ, Act.put, List.setIfInBounds_toArray, List.set_cons_zero, List.set_cons_succ]
          refine take_val 4 (.agg (dc D)) rfl (by kernel_rfl) (by kernel_rfl) (by kernel_rfl) (fun _ _ _ h => h) rfl (fun V hV => ex_load_drum_mid _ rfl g (off + t * 96) rfl D (HCDW.out.below hV HGW.out)) hS0 ?_
          simp only [List.getElem_toArray, List.getElem_cons_zero, List.getElem_cons_succ, Act.put, List.setIfInBounds_toArray, List.set_cons_zero, List.set_cons_succ]
          have KQ := kp_start wr
          have hd := below_drew wr
          replace KB := KB.on hd
          replace KH := KH.on hd
          replace KF := KF.on hd
          replace KL := KL.on hd
          replace KD5 := KD5.on hd
          replace KD7 := KD7.on hd
          replace KD9 := KD9.on hd
          replace KD11 := KD11.on hd
          replace KZ1 := KZ1.on hd
          replace KZ2 := KZ2.on hd
          clear hd
          refine step_call 5 17 #[.agg #[.int .i16 (k : Int), .slice b n hc], .agg (dc D)] (by kernel_rfl) rfl rfl (by simp [go_sem]) ?_
          refine (specIsPlayable_ok (k : Int) b n hc P R D _ HV.out HVT.out HP.out HR.out KH.here HLT.out).mono ?_
          obtain ⟨al, hal⟩ : ∃ al, freeB k R n D = al := ⟨_, rfl⟩
          rw [Int.toNat_natCast, hal]
          have HAL := Lib.hid hal; clear hal
          rintro e V5 ⟨rfl, hb2⟩
          replace KB := KB.on hb2
          replace KH := KH.on hb2
          replace KF := KF.on hb2
          replace KL := KL.on hb2
          replace KD5 := KD5.on hb2
          replace KD7 := KD7.on hb2
          replace KD9 := KD9.on hb2
          replace KD11 := KD11.on hb2
          replace KZ1 := KZ1.on hb2
          replace KZ2 := KZ2.on hb2
          replace KQ := KQ.on hb2
          have hS2 := KQ.here
          refine ⟨_, rfl, hS2, ?_⟩
          simp only [List.getElem_toArray, List.getElem_cons_zero, List.getElem_cons_succ, Act.put, List.setIfInBounds_toArray, List.set_cons_zero, List.set_cons_succ]
          refine take_val 6 (.tuple #[.bool al, .int .i64 0]) rfl (by kernel_rfl) (by kernel_rfl) (by kernel_rfl) (fun _ _ _ h => h) rfl (fun V hV => by simp [go_sem]) hS2 ?_
          simp only [List.getElem_toArray, List.getElem_cons_zero, List.getElem_cons_succ, Act.put, List.setIfInBounds_toArray, List.set_cons_zero, List.set_cons_succ]
          refine take_val 7 (.bool al) rfl (by kernel_rfl) (by kernel_rfl) (by kernel_rfl) (fun _ _ _ h => h) rfl (fun V hV => by simp [go_sem]) hS2 ?_
          simp only [List.getElem_toArray, List.getElem_cons_zero, List.getElem_cons_succ, Act.put, List.setIfInBounds_toArray, List.set_cons_zero, List.set_cons_succ]
          refine take_val 8 (.int .i64 0) rfl (by kernel_rfl) (by kernel_rfl) (by kernel_rfl) (fun _ _ _ h => h) rfl (fun V hV => by simp [go_sem]) hS2 ?_
          simp only [List.getElem_toArray, List.getElem_cons_zero, List.getElem_cons_succ, Act.put, List.setIfInBounds_toArray, List.set_cons_zero, List.set_cons_succ]
          refine take_val 9 (.bool al) rfl (by kernel_rfl) (by kernel_rfl) (by kernel_rfl) (fun _ _ _ h => h) rfl (fun V hV => by simp [go_sem]) hS2 ?_
          simp only [List.getElem_toArray, List.getElem_cons_zero, List.getElem_cons_succ, Act.put, List.setIfInBounds_toArray, List.set_cons_zero, List.set_cons_succ]
          refine take_val 10 (.int .i64 0) rfl (by kernel_rfl) (by kernel_rfl) (by kernel_rfl) (fun _ _ _ h => h) rfl (fun V hV => by simp [go_sem]) hS2 ?_
          simp only [List.getElem_toArray, List.getElem_cons_zero, List.getElem_cons_succ, Act.put, List.setIfInBounds_toArray, List.set_cons_zero, List.set_cons_succ]
          refine wpAnyH_done (by kernel_rfl) ?_ _
          have HB5 := Lib.hid (HB2.out.trans (KQ.here.mono HB2.out.size))
          have HCD5 := Lib.hid (HCDW.out.below KQ.here HGW.out)
          have HG5 := Lib.hid (Nat.lt_of_lt_of_le HGW.out KQ.here.size)
          clear hb2 hS2 hS0 KQ
          go_wp2
          go_loopw [30] (fun i W => Below V5.heap.size V5 W ∧ ∃ r : Nat, r ≤ t ∧ i = .int .i64 r) (fun i _ => t - (intOf i).toNat)
          case atStart => exact ⟨Below.refl _ _, 0, by omega, rfl⟩
          case round =>
            obtain ⟨hb, r, hr, rfl⟩ := hrel
            replace KB := KB.on hb
            replace KH := KH.on hb
            replace KF := KF.on hb
            replace KL := KL.on hb
            replace KD5 := KD5.on hb
            replace KD7 := KD7.on hb
            replace KD9 := KD9.on hb
            replace KD11 := KD11.on hb
            replace KZ1 := KZ1.on hb
            replace KZ2 := KZ2.on hb
            have HBR := Lib.hid hb
            by_cases hrt : r < t
            · have hrt' : (r : Int) < t := by omega
              have hrl : r < l := by omega
              have hrl' : (r : Int) < l := by omega
              have q9 := i64_id (x := (r : Int) + 1) (by omega)
              have HGE := Lib.hid (Nat.lt_of_lt_of_le HG5.out hb.size)
              have HCDD := Lib.hid (HCD5.out.below hb HG5.out)
              obtain ⟨g3, o3, e3, hg3, hc3⟩ := DrumsAt.get KL.here (show 0 < l by omega)
              injection e3 with e3
              injection e3 with e3 e4
              subst e3; subst e4
              obtain ⟨E, hE⟩ : ∃ E, Ld r = E := ⟨_, rfl⟩
              have hcE := hc3 r hrl
              rw [hE] at hcE
              have HCEE := Lib.hid hcE
              have HET := Lib.hid (show D32 E by rw [← hE]; exact HL.out r)
              have HVE := Lib.hid (show vDrum (k : Int) n E = true by rw [← hE]; exact HVD.out r hrl)
              obtain ⟨kn, hkn⟩ : ∃ kn, freeB k R n (unionTo (twoL E D) 2) = kn := ⟨_, rfl⟩
              have hok2 : ok2 (k : Int) n P R E D = true := ok2_iff.2 ⟨HV.out, HVE.out, HVT.out⟩
              have HKN := Lib.hid (show csV (k : Int) n P R E D = kn ∧ unl (ok2 (k : Int) n P R E D) 1 = 0 by rw [csV_yes hok2, hok2, unl_true, Int.toNat_natCast]; exact ⟨hkn, rfl⟩)
              have hk1 : cs.getD r 0 = ct → kn = true := fun h => by rw [← hkn, ← hE, ← HDE.out]; exact sg_share hlt hrt (by rw [HCS.out, h, HCT.out])
              have hk2 : kn = true → al = true := fun h => by rw [← HAL.out]; exact share_alone (D := E) (hkn.trans h)
              have HK1 := Lib.hid hk1; have HK2 := Lib.hid hk2
              clear hE hcE hc3 hg3 hkn hok2 hk1 hk2 hb
              go_wp2
              refine wp_region_S (fun V => Below wr.heap.size wr V) (by kernel_rfl) (Below.refl _ _).drew ?_
              have hS0 : Below wr.heap.size wr wr.drew := (Below.refl _ _).drew
              refine take_val 0 (.agg #[.int .i16 (k : Int), .slice b n hc]) rfl (by kernel_rfl) (by kernel_rfl) (by kernel_rfl) (fun _ _ _ h => h) rfl (fun V hV => ex_load_iframe _ rfl gf rfl _ (k : Int) b n hc (KF.at hV)) hS0 ?_
              simp only [List.getElem_toArray, List.getElem_cons_zero, List.getElem_cons_succ, Act.put, List.setIfInBounds_toArray, List.set_cons_zero, List.set_cons_succ]
              refine take_val 1 (.slice (some ⟨g, off, none⟩) l vc) rfl (by kernel_rfl) (by kernel_rfl) (by kernel_rfl) (fun _ _ _ h => h) rfl (fun V hV => by simp [go_sem]) hS0 ?_
              simp only [List.getElem_toArray, List.getElem_cons_zero, List.getElem_cons_succ, Act.put, List.setIfInBounds_toArray, List.set_cons_zero, List.set_cons_succ]
              refine take_val 2 (.int .i64 (r : Int)) rfl (by kernel_rfl) (by kernel_rfl) (by kernel_rfl) (fun _ _ _ h => h) rfl (fun V hV => by simp [go_sem]) hS0 ?_
              simp only [List.getElem_toArray, List.getElem_cons_zero, List.getElem_cons_succ, Act.put, List.setIfInBounds_toArray, List.set_cons_zero, List.set_cons_succ]
              refine take_val 3 (.pointer (some ⟨g, off + r * 96, none⟩)) rfl (by kernel_rfl) (by kernel_rfl) (by kernel_rfl) (fun _ _ _ h => h) rfl (fun V hV => by simp [go_sem, hrl, hrl']) hS0 ?_
              simp only [List.getElem_toArray, List.getElem_cons_zero, List.getElem_cons_succ, Act.put, List.setIfInBounds_toArray, List.set_cons_zero, List.set_cons_succ]
              refine take_val 4 (.agg (dc E)) rfl (by kernel_rfl) (by kernel_rfl) (by kernel_rfl) (fun _ _ _ h => h) rfl (fun V hV => ex_load_drum_mid _ rfl g (off + r * 96) rfl E (HCEE.out.below hV HGE.out)) hS0 ?_
              simp only [List.getElem_toArray, List.getElem_cons_zero, List.getElem_cons_succ, Act.put, List.setIfInBounds_toArray, List.set_cons_zero, List.set_cons_succ]
              refine take_val 5 (.slice (some ⟨g, off, none⟩) l vc) rfl (by kernel_rfl) (by kernel_rfl) (by kernel_rfl) (fun _ _ _ h => h) rfl (fun V hV => by simp [go_sem]) hS0 ?_
              simp only [List.getElem_toArray, List.getElem_cons_zero, List.getElem_cons_succ, Act.put, List.setIfInBounds_toArray, List.set_cons_zero, List.set_cons_succ]
              refine take_val 6 (.int .i64 (t : Int)) rfl (by kernel_rfl) (by kernel_rfl) (by kernel_rfl) (fun _ _ _ h => h) rfl (fun V hV => by simp [go_sem]) hS0 ?_
              simp only [List.getElem_toArray, List.getElem_cons_zero, List.getElem_cons_succ, Act.put, List.setIfInBounds_toArray, List.set_cons_zero, List.set_cons_succ]
              refine take_val 7 (.pointer (some ⟨g, off + t * 96, none⟩)) rfl (by kernel_rfl) (by kernel_rfl) (by kernel_rfl) (fun _ _ _ h => h) rfl (fun V hV => by simp [go_sem, hlt, ht']) hS0 ?_
              simp only [List.getElem_toArray, List.getElem_cons_zero, List.getElem_cons_succ, Act.put, List.setIfInBounds_toArray, List.set_cons_zero, List.set_cons_succ]
              refine take_val 8 (.agg (dc D)) rfl (by kernel_rfl) (by kernel_rfl) (by kernel_rfl) (fun _ _ _ h => h) rfl (fun V hV => ex_load_drum_mid _ rfl g (off + t * 96) rfl D (HCDD.out.below hV HGE.out)) hS0 ?_
              simp only [List.getElem_toArray, List.getElem_cons_zero, List.getElem_cons_succ, Act.put, List.setIfInBounds_toArray, List.set_cons_zero, List.set_cons_succ]
              have KQ := kp_start wr
              have hd := below_drew wr
              replace KB := KB.on hd
              replace KH := KH.on hd
              replace KF := KF.on hd
              replace KL := KL.on hd
              replace KD5 := KD5.on hd
              replace KD7 := KD7.on hd
              replace KD9 := KD9.on hd
              replace KD11 := KD11.on hd
              replace KZ1 := KZ1.on hd
              replace KZ2 := KZ2.on hd
              clear hd
              refine step_call 9 18 #[.agg #[.int .i16 (k : Int), .slice b n hc], .agg (dc E), .agg (dc D)] (by kernel_rfl) rfl rfl (by simp [go_sem]) ?_
              refine (implCanShare_any (k : Int) b n hc P R E D _ (by omega) (by omega) HP.out HR.out KH.here HET.out HLT.out).mono ?_
              rw [HKN.out.1, HKN.out.2]
              rintro e V6 ⟨rfl, hb2⟩
              replace KB := KB.on hb2
              replace KH := KH.on hb2
              replace KF := KF.on hb2
              replace KL := KL.on hb2
              replace KD5 := KD5.on hb2
              replace KD7 := KD7.on hb2
              replace KD9 := KD9.on hb2
              replace KD11 := KD11.on hb2
              replace KZ1 := KZ1.on hb2
              replace KZ2 := KZ2.on hb2
              replace KQ := KQ.on hb2
              have hS2 := KQ.here
              refine ⟨_, rfl, hS2, ?_⟩
              simp only [List.getElem_toArray, List.getElem_cons_zero, List.getElem_cons_succ, Act.put, List.setIfInBounds_toArray, List.set_cons_zero, List.set_cons_succ]
              refine take_val 10 (.tuple #[.bool kn, .int .i64 0]) rfl (by kernel_rfl) (by kernel_rfl) (by kernel_rfl) (fun _ _ _ h => h) rfl (fun V hV => by simp [go_sem]) hS2 ?_
              simp only [List.getElem_toArray, List.getElem_cons_zero, List.getElem_cons_succ, Act.put, List.setIfInBounds_toArray, List.set_cons_zero, List.set_cons_succ]
              refine take_val 11 (.bool kn) rfl (by kernel_rfl) (by kernel_rfl) (by kernel_rfl) (fun _ _ _ h => h) rfl (fun V hV => by simp [go_sem]) hS2 ?_
              simp only [List.getElem_toArray, List.getElem_cons_zero, List.getElem_cons_succ, Act.put, List.setIfInBounds_toArray, List.set_cons_zero, List.set_cons_succ]
              refine take_val 12 (.int .i64 0) rfl (by kernel_rfl) (by kernel_rfl) (by kernel_rfl) (fun _ _ _ h => h) rfl (fun V hV => by simp [go_sem]) hS2 ?_
              simp only [List.getElem_toArray, List.getElem_cons_zero, List.getElem_cons_succ, Act.put, List.setIfInBounds_toArray, List.set_cons_zero, List.set_cons_succ]
              refine take_val 13 (.bool kn) rfl (by kernel_rfl) (by kernel_rfl) (by kernel_rfl) (fun _ _ _ h => h) rfl (fun V hV => by simp [go_sem]) hS2 ?_
              simp only [List.getElem_toArray, List.getElem_cons_zero, List.getElem_cons_succ, Act.put, List.setIfInBounds_toArray, List.set_cons_zero, List.set_cons_succ]
              refine take_val 14 (.int .i64 0) rfl (by kernel_rfl) (by kernel_rfl) (by kernel_rfl) (fun _ _ _ h => h) rfl (fun V hV => by simp [go_sem]) hS2 ?_
              simp only [List.getElem_toArray, List.getElem_cons_zero, List.getElem_cons_succ, Act.put, List.setIfInBounds_toArray, List.set_cons_zero, List.set_cons_succ]
              refine wpAnyH_done (by kernel_rfl) ?_ _
              have HB6 := Lib.hid (HBR.out.trans (KQ.here.mono HBR.out.size))
              have HCEE := Lib.hid (HCEE.out.below KQ.here HGE.out)
              have HCDD := Lib.hid (HCDD.out.below KQ.here HGE.out)
              have HGE := Lib.hid (Nat.lt_of_lt_of_le HGE.out KQ.here.size)
              clear hb2 hS2 hS0 KQ
              go_wp2
              refine wp_region_S (fun V => Below V6.heap.size V6 V) (by kernel_rfl) (Below.refl _ _).drew ?_
              have hS0 : Below V6.heap.size V6 V6.drew := (Below.refl _ _).drew
              refine take_val 0 (.agg #[.int .i16 (k : Int), .slice b n hc]) rfl (by kernel_rfl) (by kernel_rfl) (by kernel_rfl) (fun _ _ _ h => h) rfl (fun V hV => ex_load_iframe _ rfl gf rfl _ (k : Int) b n hc (KF.at hV)) hS0 ?_
              simp only [List.getElem_toArray, List.getElem_cons_zero, List.getElem_cons_succ, Act.put, List.setIfInBounds_toArray, List.set_cons_zero, List.set_cons_succ]
              refine take_val 1 (.slice (some ⟨g, off, none⟩) l vc) rfl (by kernel_rfl) (by kernel_rfl) (by kernel_rfl) (fun _ _ _ h => h) rfl (fun V hV => by simp [go_sem]) hS0 ?_
              simp only [List.getElem_toArray, List.getElem_cons_zero, List.getElem_cons_succ, Act.put, List.setIfInBounds_toArray, List.set_cons_zero, List.set_cons_succ]
              refine take_val 2 (.int .i64 (r : Int)) rfl (by kernel_rfl) (by kernel_rfl) (by kernel_rfl) (fun _ _ _ h => h) rfl (fun V hV => by simp [go_sem]) hS0 ?_
              simp only [List.getElem_toArray, List.getElem_cons_zero, List.getElem_cons_succ, Act.put, List.setIfInBounds_toArray, List.set_cons_zero, List.set_cons_succ]
              refine take_val 3 (.pointer (some ⟨g, off + r * 96, none⟩)) rfl (by kernel_rfl) (by kernel_rfl) (by kernel_rfl) (fun _ _ _ h => h) rfl (fun V hV => by simp [go_sem, hrl, hrl']) hS0 ?_
              simp only [List.getElem_toArray, List.getElem_cons_zero, List.getElem_cons_succ, Act.put, List.setIfInBounds_toArray, List.set_cons_zero, List.set_cons_succ]
              refine take_val 4 (.agg (dc E)) rfl (by kernel_rfl) (by kernel_rfl) (by kernel_rfl) (fun _ _ _ h => h) rfl (fun V hV => ex_load_drum_mid _ rfl g (off + r * 96) rfl E (HCEE.out.below hV HGE.out)) hS0 ?_
              simp only [List.getElem_toArray, List.getElem_cons_zero, List.getElem_cons_succ, Act.put, List.setIfInBounds_toArray, List.set_cons_zero, List.set_cons_succ]
              refine take_val 5 (.slice (some ⟨g, off, none⟩) l vc) rfl (by kernel_rfl) (by kernel_rfl) (by kernel_rfl) (fun _ _ _ h => h) rfl (fun V hV => by simp [go_sem]) hS0 ?_
              simp only [List.getElem_toArray, List.getElem_cons_zero, List.getElem_cons_succ, Act.put, List.setIfInBounds_toArray, List.set_cons_zero, List.set_cons_succ]
              refine take_val 6 (.int .i64 (t : Int)) rfl (by kernel_rfl) (by kernel_rfl) (by kernel_rfl) (fun _ _ _ h => h) rfl (fun V hV => by simp [go_sem]) hS0 ?_
              simp only [List.getElem_toArray, List.getElem_cons_zero, List.getElem_cons_succ, Act.put, List.setIfInBounds_toArray, List.set_cons_zero, List.set_cons_succ]
              refine take_val 7 (.pointer (some ⟨g, off + t * 96, none⟩)) rfl (by kernel_rfl) (by kernel_rfl) (by kernel_rfl) (fun _ _ _ h => h) rfl (fun V hV => by simp [go_sem, hlt, ht']) hS0 ?_
              simp only [List.getElem_toArray, List.getElem_cons_zero, List.getElem_cons_succ, Act.put, List.setIfInBounds_toArray, List.set_cons_zero, List.set_cons_succ]
              refine take_val 8 (.agg (dc D)) rfl (by kernel_rfl) (by kernel_rfl) (by kernel_rfl) (fun _ _ _ h => h) rfl (fun V hV => ex_load_drum_mid _ rfl g (off + t * 96) rfl D (HCDD.out.below hV HGE.out)) hS0 ?_
              simp only [List.getElem_toArray, List.getElem_cons_zero, List.getElem_cons_succ, Act.put, List.setIfInBounds_toArray, List.set_cons_zero, List.set_cons_succ]
              have KQ := kp_start V6
              have hd := below_drew V6
              replace KB := KB.on hd
              replace KH := KH.on hd
              replace KF := KF.on hd
              replace KL := KL.on hd
              replace KD5 := KD5.on hd
              replace KD7 := KD7.on hd
              replace KD9 := KD9.on hd
              replace KD11 := KD11.on hd
              replace KZ1 := KZ1.on hd
              replace KZ2 := KZ2.on hd
              clear hd
              refine step_call 9 19 #[.agg #[.int .i16 (k : Int), .slice b n hc], .agg (dc E), .agg (dc D)] (by kernel_rfl) rfl rfl (by simp [go_sem]) ?_
              refine (specCanShare_any (k : Int) b n hc P R E D _ (by omega) (by omega) HP.out HR.out KH.here HET.out HLT.out).mono ?_
              rw [HKN.out.1, HKN.out.2]
              rintro e V7 ⟨rfl, hb2⟩
              replace KB := KB.on hb2
              replace KH := KH.on hb2
              replace KF := KF.on hb2
              replace KL := KL.on hb2
              replace KD5 := KD5.on hb2
              replace KD7 := KD7.on hb2
              replace KD9 := KD9.on hb2
              replace KD11 := KD11.on hb2
              replace KZ1 := KZ1.on hb2
              replace KZ2 := KZ2.on hb2
              replace KQ := KQ.on hb2
              have hS2 := KQ.here
              refine ⟨_, rfl, hS2, ?_⟩
              simp only [List.getElem_toArray, List.getElem_cons_zero, List.getElem_cons_succ, Act.put, List.setIfInBounds_toArray, List.set_cons_zero, List.set_cons_succ]
              refine take_val 10 (.tuple #[.bool kn, .int .i64 0]) rfl (by kernel_rfl) (by kernel_rfl) (by kernel_rfl) (fun _ _ _ h => h) rfl (fun V hV => by simp [go_sem]) hS2 ?_
              simp only [List.getElem_toArray, List.getElem_cons_zero, List.getElem_cons_succ, Act.put, List.setIfInBounds_toArray, List.set_cons_zero, List.set_cons_succ]
              refine take_val 11 (.bool kn) rfl (by kernel_rfl) (by kernel_rfl) (by kernel_rfl) (fun _ _ _ h => h) rfl (fun V hV => by simp [go_sem]) hS2 ?_
              simp only [List.getElem_toArray, List.getElem_cons_zero, List.getElem_cons_succ, Act.put, List.setIfInBounds_toArray, List.set_cons_zero, List.set_cons_succ]
              refine take_val 12 (.int .i64 0) rfl (by kernel_rfl) (by kernel_rfl) (by kernel_rfl) (fun _ _ _ h => h) rfl (fun V hV => by simp [go_sem]) hS2 ?_
              simp only [List.getElem_toArray, List.getElem_cons_zero, List.getElem_cons_succ, Act.put, List.setIfInBounds_toArray, List.set_cons_zero, List.set_cons_succ]
              refine take_val 13 (.bool kn) rfl (by kernel_rfl) (by kernel_rfl) (by kernel_rfl) (fun _ _ _ h => h) rfl (fun V hV => by simp [go_sem]) hS2 ?_
              simp only [List.getElem_toArray, List.getElem_cons_zero, List.getElem_cons_succ, Act.put, List.setIfInBounds_toArray, List.set_cons_zero, List.set_cons_succ]
              refine take_val 14 (.int .i64 0) rfl (by kernel_rfl) (by kernel_rfl) (by kernel_rfl) (fun _ _ _ h => h) rfl (fun V hV => by simp [go_sem]) hS2 ?_
              simp only [List.getElem_toArray, List.getElem_cons_zero, List.getElem_cons_succ, Act.put, List.setIfInBounds_toArray, List.set_cons_zero, List.set_cons_succ]
              refine wpAnyH_done (by kernel_rfl) ?_ _
              have HB7 := Lib.hid (HB6.out.trans (KQ.here.mono HB6.out.size))
              have HCEE := Lib.hid (HCEE.out.below KQ.here HGE.out)
              have HCDD := Lib.hid (HCDD.out.below KQ.here HGE.out)
              have HGE := Lib.hid (Nat.lt_of_lt_of_le HGE.out KQ.here.size)
              clear hb2 hS2 hS0 KQ
              go_wp2
              obtain ⟨g4, o4, e4, hg4, hcz⟩ := IntAt.get KZ2.here hl0
              injection e4 with e4
              injection e4 with e4 e5
              subst e4; subst e5
              have hcr := hcz r hrl
              have hct := hcz t hlt
              simp only [HCT.out] at hct
              obtain ⟨cr, hcrr⟩ : ∃ c, cs.getD r 0 = c := ⟨_, rfl⟩
              simp only [hcrr] at hcr
              have HK3 := Lib.hid (show cr = ct → kn = true from fun h => HK1.out (hcrr.trans h))
              clear hcz hcrr
              cases kn
              · have hne : (cr == ct) = false := by
                  have h9 : ¬ cr = ct := fun h => by have := HK3.out h; cases this
                  simp [h9]
                go_quiet (fail)
                go_wp2
                go_roundw
                case rel => exact ⟨below_drewN HB7.out _, r + 1, by omega, by go_num⟩
                case measure => simp [intOf]; omega
              · have hal := HK2.out rfl
                subst hal
                by_cases he : cr = ct
                · rw [he] at hcr
                  go_quiet (fail)
                  go_wp2
                  go_roundw
                  case rel => exact ⟨below_drewN HB7.out _, r + 1, by omega, by go_num⟩
                  case measure => simp [intOf]; omega
                · have hne : (cr == ct) = false := by simp [he]
                  go_quiet (fail)
                  go_wp2
                  go_roundw
                  case rel => exact ⟨below_drewN HB7.out _, r + 1, by omega, by go_num⟩
                  case measure => simp [intOf]; omega
            · have hrt' : ¬ (r : Int) < t := by omega
              have q9 := i64_id (x := (t : Int) + 1) (by omega)
              go_wp2
              go_roundw
              case rel => exact ⟨HB5.out.trans (HBR.out.mono HB5.out.size), t + 1, by omega, by go_num, by rw [HM.out]⟩
              case measure => simp [intOf]; omega
    · have ht' : ¬ (t : Int) < l := by omega
      have htl : t = l := by omega
      have hmo : mostTo Ld t = pn := by rw [htl]; exact HPN.out
      rw [hmo]
      have HB0 := Lib.hid hb
      clear htl hmo ht hlt hb
      obtain ⟨U0, rfl⟩ : ∃ U0, U0 = wr := ⟨wr, rfl⟩
      go_wp2
      go_loopw [35] (fun i W => Below U0.heap.size U0 W ∧ ∃ q : Nat, q ≤ G ∧ i = .int .i64 q) (fun i _ => G - (intOf i).toNat)
      case atStart => exact ⟨Below.refl _ _, 0, by omega, rfl⟩
      case round =>
        obtain ⟨hb, gg, hgg, rfl⟩ := hrel
        replace KB := KB.on hb
        replace KH := KH.on hb
        replace KF := KF.on hb
        replace KL := KL.on hb
        replace KD5 := KD5.on hb
        replace KD7 := KD7.on hb
        replace KD9 := KD9.on hb
        replace KD11 := KD11.on hb
        replace KZ1 := KZ1.on hb
        replace KZ2 := KZ2.on hb
        by_cases hgl : gg < G
        · have hgl' : (gg : Int) < G := by omega
          have HBG := Lib.hid hb; clear hb
          obtain ⟨V0, rfl⟩ : ∃ V0, V0 = wr := ⟨wr, rfl⟩
          have HO0 := Lib.hid (OwnD.nil V0 V0.heap.size (Nat.le_refl _))
          have HA0 := Lib.hid ((Below.refl V0.heap.size V0).alloc (Nat.le_refl _) (.cells #[] 33))
          have hGl := HGL.out
          have hgf := Lib.hid (gdr_facts (k := k) (R := R) (n := n) (L := Ld) (l := l) (g := gg) (by omega))
          rw [HCS.out] at hgf
          go_wp2
          go_loopw [36, 37] (fun v i W => Below V0.heap.size V0 W ∧ ∃ t : Nat, t ≤ l ∧ i = .int .i64 t ∧ OwnD W V0.heap.size v (gdr Ld cs gg t)) (fun _ i _ => l - (intOf i).toNat)
          case atStart => exact ⟨HA0.out, 0, by omega, rfl, by rw [gdr_zero]; exact HO0.out⟩
          case round =>
            clear HO0 HA0
            obtain ⟨hb, t, ht, rfl, hown⟩ := hrel
            obtain ⟨vd, vdc, rfl⟩ := OwnD.form hown
            replace KB := KB.on hb
            replace KH := KH.on hb
            replace KF := KF.on hb
            replace KL := KL.on hb
            replace KD5 := KD5.on hb
            replace KD7 := KD7.on hb
            replace KD9 := KD9.on hb
            replace KD11 := KD11.on hb
            replace KZ1 := KZ1.on hb
            replace KZ2 := KZ2.on hb
            by_cases hlt : t < l
            · have ht' : (t : Int) < l := by omega
              have hl0 : 0 < l := by omega
              have q9 := i64_id (x := (t : Int) + 1) (by omega)
              obtain ⟨g2, o2, hz2, hg2, hcz⟩ := IntAt.get KZ2.here hl0
              subst hz2
              have hct := hcz t hlt
              clear hcz
              obtain ⟨ct, hctt⟩ : ∃ c, cs.getD t 0 = c := ⟨_, rfl⟩
              simp only [hctt] at hct
              have HCT := Lib.hid hctt; clear hctt
              have HOW := Lib.hid hown
              have HBT := Lib.hid hb
              clear hown hb
              by_cases he : ct = gg
              · have hyes := Lib.hid (gdr_yes (L := Ld) (cs := cs) (g := gg) (i := t) (HCT.out.trans he))
                have hgll := gdr_len (L := Ld) (g := gg) cs t
                rw [he] at hct
                obtain ⟨g, off, hvb, hg, hc⟩ := DrumsAt.get KL.here hl0
                subst hvb
                have HCD := Lib.hid (hc t hlt)
                have HG := Lib.hid hg
                have HE := Lib.hid he
                clear hc he hg
                have hsz := HBT.out.size
                have HOB := Lib.hid (HOW.out.alloc (.cells (dc (Ld t)) 33))
                have HBB := Lib.hid (HBT.out.alloc hsz (.cells (dc (Ld t)) 33))
                have hszA := Lib.hid (Nat.le_trans hsz (show wr.heap.size ≤ (wr.alloc (.cells (dc (Ld t)) 33)).heap.size by simp))
                go_wp2_with (first | (with_reducible refine load_drum_mid rfl _ rfl g (off + t * 96) rfl (Ld t) HCD.out ?_) | (with_reducible refine build1 rfl _ rfl (Ld t) rfl ?_) | (at_builtin; refine append_drum_at rfl _ _ rfl V0.heap.size _ _ rfl HOB.out wr.heap.size (Ld t) rfl (heap_alloc_new wr _) (by omega) hszA.out ?_; intro v9 w9 hown9 hgr9 hb9 hat9; rw [← hyes.out] at hown9; have HO9 := Lib.hid hown9; have HB9 := Lib.hid (HBB.out.trans hb9); clear hown9 hgr9 hb9 hat9) | fail)
                go_roundw
                case rel => exact ⟨HB9.out, t + 1, by omega, by go_num, HO9.out⟩
                case measure => simp [intOf]; omega
              · have hno := Lib.hid (gdr_no (L := Ld) (cs := cs) (g := gg) (i := t) (by rw [HCT.out]; exact he))
                have hne : (ct == (gg : Int)) = false := by simp [he]
                go_wp2
                go_roundw
                case rel => exact ⟨HBT.out, t + 1, by omega, by go_num, by rw [hno.out]; exact HOW.out⟩
                case measure => simp [intOf]; omega
            · have ht' : ¬ (t : Int) < l := by omega
              have htl : t = l := by omega
              have HBT := Lib.hid hb
              have hz32 := gdr_32 (g := gg) (cs := cs) (i := t) HL.out
              have hzv : ∀ i, i < (gdr Ld cs gg t).length → vDrum (k : Int) n ((gdr Ld cs gg t).getD i D0) = true := fun i hi => by
                obtain ⟨t', ht', e⟩ := gdr_get hi
                rw [e]; exact HVD.out t' (by omega)
              have hzl5 := gdr_len (L := Ld) (g := gg) cs t
              have hgf2 := hgf.out
              rw [← htl] at hgf2
              obtain ⟨z, hz⟩ : ∃ z, gdr Ld cs gg t = z := ⟨_, rfl⟩
              rw [hz] at hown hz32 hzv hzl5 hgf2 ⊢
              clear hz
              have KDZ := kp_drums (OwnD.readAt hown)
              obtain ⟨Lz, hLz⟩ : ∃ Lz : Nat → Nat → Nat, (fun i => z.getD i D0) = Lz := ⟨_, rfl⟩
              have hLz2 : ∀ i, z.getD i D0 = Lz i := fun i => by rw [← hLz]
              simp only [hLz2] at KDZ hz32 hzv hgf2
              obtain ⟨zl, hzl⟩ : ∃ x, z.length = x := ⟨_, rfl⟩
              rw [hzl] at KDZ hzv hgf2 hzl5 ⊢
              have HZOK := Lib.hid (okAll_iff.2 ⟨HV.out, hzv⟩)
              have HZLC := Lib.hid (show lcode (okAll (k : Int) n P R zl Lz) zl = 0 by rw [HZOK.out]; exact lcode_few (by omega))
              have HZ32 := Lib.hid hz32; have HZV := Lib.hid (vDrum_union zl hzv); have HZU := Lib.hid (unionTo_32 hz32 zl)
              obtain ⟨UZ, hUZ⟩ : ∃ x, unionTo Lz zl = x := ⟨_, rfl⟩
              rw [hUZ] at HZV HZU hgf2
              have HUZ := Lib.hid hUZ; have HGF2 := Lib.hid hgf2
              have hz0 := hgf2.1
              have hz5 : zl ≤ 5 := by omega
              have hG5 : G ≤ l := by rw [← HGL.out]; exact sg_len1 k R n Ld l
              clear hown hb hz32 hzv hLz hLz2 hzl hUZ hgf2 htl ht hlt
              go_wp2_with (first | (with_reducible refine load_iframe rfl _ rfl gf rfl _ (k : Int) b n hc KF.here ?_) | fail)
              refine (specUnionOf_any (k : Int) b n hc P R vd zl vdc Lz wr (by omega) (by omega) HP.out HR.out KH.here (by omega) HZ32.out KDZ.here).mono ?_
              rw [uniRes_yes HZLC.out, HUZ.out, HZLC.out]
              rintro e W5 ⟨rfl, hb⟩
              replace KB := KB.on hb
              replace KH := KH.on hb
              replace KF := KF.on hb
              replace KL := KL.on hb
              replace KD5 := KD5.on hb
              replace KD7 := KD7.on hb
              replace KD9 := KD9.on hb
              replace KD11 := KD11.on hb
              replace KZ1 := KZ1.on hb
              replace KZ2 := KZ2.on hb
              have HB5 := Lib.hid (HBT.out.trans (hb.mono HBT.out.size))
              clear hb
              obtain ⟨gz, hgz⟩ : ∃ g, W5.heap.size = g := ⟨_, rfl⟩
              go_wp2_with (first | (refine copy_drum rfl rfl rfl _ _ rfl UZ rfl rfl ?_; intro W6 hbn hsn hrn; rw [hgz] at hrn ⊢; have KDU := kp_drum hrn; have HB6 := Lib.hid (HB5.out.trans (hbn.mono HB5.out.size)); replace KB := KB.on hbn; replace KH := KH.on hbn; replace KF := KF.on hbn; replace KL := KL.on hbn; replace KD5 := KD5.on hbn; replace KD7 := KD7.on hbn; replace KD9 := KD9.on hbn; replace KD11 := KD11.on hbn; replace KZ1 := KZ1.on hbn; replace KZ2 := KZ2.on hbn; clear hbn hsn hrn hgz) | (with_reducible refine load_iframe rfl _ rfl gf rfl _ (k : Int) b n hc KF.here ?_) | (with_reducible refine load_drum rfl _ rfl gz rfl _ UZ KDU.here ?_) | fail)
              refine (implIsPlayable_ok (k : Int) b n hc P R UZ W6 HV.out HZV.out HP.out HR.out KH.here HZU.out).mono ?_
              obtain ⟨fz, hfz⟩ : ∃ al, freeB k R n UZ = al := ⟨_, rfl⟩
              rw [Int.toNat_natCast, hfz]
              have HFZ := Lib.hid (show 1 < zl → fz = true from fun h => by rw [← hfz]; exact HGF2.out.2 h)
              rintro e W7 ⟨rfl, hb⟩
              have HB7 := Lib.hid (HBG.out.trans ((HB6.out.trans (hb.mono HB6.out.size)).mono HBG.out.size))
              clear hb hfz
              have q9 := i64_id (x := (gg : Int) + 1) (by omega)
              have hne0 : ((zl : Int) == 0) = false := by simp; omega
              by_cases h1z : 1 < zl
              · have h1z' : (1 : Int) < zl := by omega
                have hfz := HFZ.out h1z
                subst hfz
                go_wp2
                go_roundw
                case rel => exact ⟨HB7.out, gg + 1, by omega, by go_num⟩
                case measure => simp [intOf]; omega
              · have h1z' : ¬ (1 : Int) < zl := by omega
                go_wp2
                go_roundw
                case rel => exact ⟨HB7.out, gg + 1, by omega, by go_num⟩
                case measure => simp [intOf]; omega
        · have hgl' : ¬ (gg : Int) < G := by omega
          have hpp : (pn == pn) = true := by simp
          go_wp2
          go_ret
          exact ⟨by simp, KB.here⟩
end Go.Proofs.Ytlcfjeofphncgaa
