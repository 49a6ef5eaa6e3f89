/- ShareGroups, by the program: the function. No conditions. -/
import Derived.Test.YtpfjmoodfodfhaaSh
import Derived.Outline
namespace Go.Proofs.Ytpfjmoodfodfhaa
open Go.RowKit
set_option linter.unusedVariables false
set_option linter.unusedSimpArgs false
set_option maxRecDepth 100000 in
set_option maxHeartbeats 8000000 in
theorem implShareGroups_any (s : Int) (a : Option Addr) (n c : Nat) (P R : Nat → Int) (b : Option Addr) (m d : Nat) (L : Nat → Nat → Nat) (w : World) (hs : -32768 ≤ s ∧ s ≤ 32767) (hn : n ≤ 1048576) (hP : I8 P) (hR : I8 R) (hh : HamAt w a n P R) (hm : m ≤ 1048576) (hL : L32 L) (hl : DrumsAt w b m L) :
    Calls Try.prog 23 #[.agg #[.int .i16 s, .slice a n c], .slice b m d] w fun e w' => ∃ v, e = .returned (.tuple #[v, .int .i64 (sgN s n P R m L), .int .i64 (sgC s n P R m L)]) ∧ Below w.heap.size w w' ∧ OwnI w' w.heap.size v (sgV s n P R m L) := by
  have HP := Lib.hid hP; have HR := Lib.hid hR; have HL := Lib.hid hL; clear hP hR hL
  have KB := Kp.base w
  have KH := kp_ham hh; have KL := kp_drums hl; clear hh hl
  replace KB := KB.alloc (.cells #[.int .i16 s, .slice a n c] 27)
  replace KH := KH.alloc (.cells #[.int .i16 s, .slice a n c] 27)
  replace KL := KL.alloc (.cells #[.int .i16 s, .slice a n c] 27)
  have KF := kp_new1 w #[.int .i16 s, .slice a n c] 27 (g := w.heap.size) (by simp)
  have HZ := Lib.hid (show (w.alloc (.cells #[.int .i16 s, .slice a n c] 27)).heap.size = w.heap.size + 1 by simp)
  go_enter Try.func23, Try.ntmps23
  go_wp2_with (first | (with_reducible refine load_iframe rfl _ rfl w.heap.size rfl _ s a n c KF.here ?_))
  generalize (w.alloc (.cells #[.int .i16 s, .slice a n c] 27)) = W at KB KH KL KF HZ ⊢
  refine (listCode_any s a n c P R b m d L W hs hn HP.out HR.out KH.here hm KL.here).mono ?_
  rintro e w1 ⟨rfl, hb1⟩
  replace KB := KB.on hb1
  replace KH := KH.on hb1
  replace KL := KL.on hb1
  replace KF := KF.on hb1
  clear hb1
  by_cases hv : lcode (okAll s n P R m L) m = 0
  · obtain ⟨h1, h2, h3⟩ := sg_yes hv
    obtain ⟨hok, hm8⟩ := lcode_zero hv
    obtain ⟨hS, hN, _⟩ := vFrame_iff.1 (okAll_iff.1 hok).1
    have H1 := Lib.hid h1; have H2 := Lib.hid h2; have H3 := Lib.hid h3
    rw [hv]
    clear h1 h2 h3 hv hok
    obtain ⟨k, rfl⟩ : ∃ k : Nat, s = k := ⟨s.toNat, by omega⟩
    rw [Int.toNat_natCast] at H1 H2
    have hsz1 := KB.here.size
    have HB00 := Lib.hid KB.here
    have hE1 := OwnI.nil w1 w1.heap.size (Nat.le_refl _)
    have hE2 := OwnD.nil (w1.alloc (.cells #[] 2)) w1.heap.size (by simp)
    rw [size_alloc1] at hE2
    have HE1 := Lib.hid hE1; have HE2 := Lib.hid hE2; clear hE1 hE2
    clear KB
    go_wp2
    go_loopw [8, 9, 23] (fun v u i w' => Below w1.heap.size w1 w' ∧ ∃ t : Nat, t ≤ m ∧ i = .int .i64 t ∧ OwnI w' w1.heap.size v (sg k R n L t).2 ∧ OwnD w' w1.heap.size u ((sg k R n L t).1.map (uniL L))) (fun _ _ i _ => m - (intOf i).toNat)
    case atStart => exact ⟨((Below.refl _ _).alloc (Nat.le_refl _) _).alloc (by simp) _, 0, by omega, rfl, by rw [sg_zero]; exact (HE1.out.alloc _), by rw [sg_zero]; exact HE2.out⟩
    case round =>
      clear HE1 HE2
      obtain ⟨hb, t, ht, rfl, ho1, ho2⟩ := hrel
      have hsu := sg_succ k R n L t
      have hl1 := sg_len1 k R n L t
      have hl2 := sg_len2 k R n L t
      obtain ⟨gs, hgs⟩ : ∃ gs, (sg k R n L t).1 = gs := ⟨_, rfl⟩
      obtain ⟨rs, hrs⟩ : ∃ rs, (sg k R n L t).2 = rs := ⟨_, rfl⟩
      rw [hgs] at hsu hl1 ho2
      rw [hrs] at hsu hl2 ho1
      have HSU1 := Lib.hid (congrArg Prod.fst hsu); have HSU2 := Lib.hid (congrArg Prod.snd hsu)
      dsimp only at HSU1 HSU2
      have HRL := Lib.hid (show rs.length ≤ 100 by omega)
      have HGS0 := Lib.hid hgs; have HRS0 := Lib.hid hrs
      clear hsu hl2 hgs hrs
      obtain ⟨vb, vc, rfl⟩ := OwnD.form ho2
      rw [List.length_map] at ho2 ⊢
      obtain ⟨q, hq⟩ : ∃ q, gs.length = q := ⟨_, rfl⟩
      rw [hq] at ho2 hl1 ⊢
      have HQ := Lib.hid hq; clear hq
      have HO1 := Lib.hid ho1; have HO2 := Lib.hid ho2
      have HLT := Lib.hid (OwnD.lt ho2)
      clear ho1 ho2
      replace KH := KH.on hb
      replace KL := KL.on hb
      replace KF := KF.on hb
      have hszw := hb.size
      have HB := Lib.hid hb; clear hb
      by_cases hlt : t < m
      · have hlt' : (t : Int) < m := by omega
        have hx := DrumsAt.get KL.here (show 0 < m by omega)
        obtain ⟨g, off, rfl, hg, hc⟩ := hx
        have HC := Lib.hid (hc t hlt); clear hc
        go_wp2_with (first | (with_reducible refine load_drum_mid rfl _ rfl g (off + t * 96) rfl (L t) HC.out ?_) | (with_reducible refine copy_drum rfl rfl rfl _ _ rfl (L t) rfl rfl ?_; intro V hb2 hz2 hg2; have HB2 := Lib.hid hb2; have HZ2 := Lib.hid hz2; have KD := kp_drum hg2; clear hb2 hz2 hg2) | fail)
        have hb2 := HB2.out
        have hz2 := HZ2.out
        replace KH := KH.on hb2
        replace KF := KF.on hb2
        have hoV := HO2.out.below hb2
        have hiV := HO1.out.below hb2
        have hda := OwnD.readAt hoV
        rw [List.length_map, HQ.out] at hda
        refine (indexFuncShare_any vb q vc _ (.pointer (some ⟨w.heap.size, 0, none⟩)) (.pointer (some ⟨wr.heap.size, 0, none⟩)) (fun x => fit k R n L (gs.getD x []) t) V (by omega) hda ?_).mono ?_
        · intro Z x hx hbz
          have hx' : x < gs.length := by rw [HQ.out]; exact hx
          have h9 := shareGroups1_any w.heap.size wr.heap.size _ _ k a n c P R ((gs.map (uniL L)).getD x D0) (L t) Z (by omega) hN HR.out (getD_32 HL.out gs x) (HL.out t) (KF.at hbz) (KD.at hbz) (KH.at hbz)
          rw [← fit_eq hx'] at h9
          exact h9
        rintro e w2 ⟨r, rfl, hr, hb3⟩
        replace KD := KD.on hb3
        have hbT := HB.out.trans ((hb2.trans (hb3.mono hb2.size)).mono hszw)
        have hoT := hoV.below hb3
        have hiT := hiV.below hb3
        have hz3 := hb3.size
        have hszT : wr.heap.size < w2.heap.size := by omega
        have HB2w := Lib.hid hbT; have HOT := Lib.hid hoT; have HIT := Lib.hid hiT
        have HD2 := Lib.hid KD.here
        have hne0 : some wr.heap.size ≠ (Value.slice vb q vc).ownBlock := fun e => by have := (HLT.out _ e.symm).2; omega
        have HNE0 := Lib.hid hne0
        clear hoV hiV hda hb3 hbT hoT hiT hb2 hne0 HB2 HO1 HO2 HLT KH KL KF KD HC HB HZ2 hz2 hz3
        rcases hr with ⟨rfl, hnone⟩ | ⟨JJ, rfl, hj, hp, hmin⟩
        · have hjj := jOf_none (k := k) (R := R) (n := n) (L := L) (gs := gs) (i := t) (by rw [HQ.out]; exact hnone)
          rw [hjj, HQ.out] at HSU1 HSU2
          clear hnone hjj
          have hmore : gs.map (uniL L) ++ [D0] = (more gs q).map (uniL L) := by rw [more_new (by rw [HQ.out]; omega), List.map_append, List.map_cons, List.map_nil, uniL_nil]
          have HMORE := Lib.hid hmore; clear hmore
          go_wp2_with (first | (with_reducible refine build_drum rfl rfl ?_) | (with_reducible refine build1 rfl _ rfl D0 rfl ?_) | (at_builtin; refine append_drum_at rfl _ _ rfl w1.heap.size _ (gs.map (uniL L)) rfl (HOT.out.alloc _) w2.heap.size D0 rfl (heap_alloc_new _ _) (by rw [List.length_map, HQ.out]; omega) (by have := HB2w.out.size; simp; omega) ?_; intro v5 w5 ho5 hg5 hb5 hat5; have HO5 := Lib.hid ho5; have HI5 := Lib.hid ((HIT.out.alloc _).keepD (HOT.out.alloc _) hg5); have HD5 := Lib.hid ((hg5.block wr.heap.size (by simp; omega) HNE0.out).trans (HD2.out.alloc (.cells (dc D0) 71))); have HB5 := Lib.hid ((HB2w.out.alloc HB2w.out.size (.cells (dc D0) 71)).trans hb5); have HAT := Lib.hid hat5; clear ho5 hg5 hb5 hat5))
          have HNE := Lib.hid (show some wr.heap.size ≠ v5.ownBlock from by
            rcases HAT.out with e | e
            · rw [e]; exact HNE0.out
            · rw [e]; intro h; injection h with h; simp at h; omega)
          clear HOT HIT HD2 HAT HNE0
          obtain ⟨qb, qc, rfl⟩ := OwnD.form HO5.out
          obtain ⟨ll, hll⟩ : ∃ ll, gs.map (uniL L) ++ [D0] = ll := ⟨_, rfl⟩
          have hlen : ll.length = q + 1 := by rw [← hll, List.length_append, List.length_map, HQ.out]; rfl
          rw [hll] at HO5 HNE HMORE ⊢
          obtain ⟨QN, hQN⟩ : ∃ QN, ll.length = QN := ⟨_, rfl⟩
          rw [hQN] at HO5 HNE ⊢
          have hqn : QN = q + 1 := by omega
          obtain ⟨JJ, hJJ⟩ : ∃ JJ, q = JJ := ⟨q, rfl⟩
          subst hJJ
          have hJI : (q : Int) < QN := by omega
          have HJL := Lib.hid (show q < ll.length by omega)
          have HLM := HMORE; have HOT := HO5; have HIT := HI5; have HDT := HD5; have HBT := HB5
          clear hlen hQN hll HMORE HO5 HI5 HD5 HB5 hqn
          -- the union goes to its place
          have hS0 : Below w1.heap.size w1 w5.drew ∧ DrumAt w5.drew 71 wr.heap.size (L t) := ⟨HBT.out.drew, HDT.out⟩
          have hod := HOT.out.below (below_drew w5)
          have hoi := HIT.out.below (below_drew w5)
          obtain ⟨gg, hqb, hgb, hgl, hgc⟩ := OwnD.cells hod (by have := HJL.out; omega)
          subst hqb
          have hne : wr.heap.size ≠ gg := fun e => HNE.out (by rw [e]; rfl)
          have hgj := Lib.hid (hgc q HJL.out)
          obtain ⟨UU, hUU⟩ : ∃ UU, ll.getD q D0 = UU := ⟨_, rfl⟩
          rw [hUU] at hgj
          have HU32 : D32 UU := by rw [← hUU, HLM.out]; exact getD_32 HL.out _ _
          have HGS := Lib.hid (grp_set (i := t) HLM.out HJL.out)
          rw [hUU] at HGS
          clear hgc hUU
          refine wp_region_S (fun V => Below w1.heap.size w1 V ∧ DrumAt V 71 wr.heap.size (L t)) (by kernel_rfl) hS0 ?_
          refine take_val 0 (.slice (some ⟨gg, 0, none⟩) QN qc) rfl (by kernel_rfl) (by kernel_rfl) (by kernel_rfl) (fun _ _ _ h => h) rfl (fun V hV => by simp [go_sem]) hS0 ?_
          simp only [List.getElem_toArray, List.getElem_cons_zero, List.getElem_cons_succ, Act.put, List.setIfInBounds_toArray, List.set_cons_zero, List.set_cons_succ]
          refine take_val 1 (.int .i64 (q : Nat)) rfl (by kernel_rfl) (by kernel_rfl) (by kernel_rfl) (fun _ _ _ h => h) rfl (fun V hV => by simp [go_sem]) hS0 ?_
          simp only [List.getElem_toArray, List.getElem_cons_zero, List.getElem_cons_succ, Act.put, List.setIfInBounds_toArray, List.set_cons_zero, List.set_cons_succ]
          refine take_val 2 (.slice (some ⟨gg, 0, none⟩) QN qc) rfl (by kernel_rfl) (by kernel_rfl) (by kernel_rfl) (fun _ _ _ h => h) rfl (fun V hV => by simp [go_sem]) hS0 ?_
          simp only [List.getElem_toArray, List.getElem_cons_zero, List.getElem_cons_succ, Act.put, List.setIfInBounds_toArray, List.set_cons_zero, List.set_cons_succ]
          refine take_val 3 (.int .i64 (q : Nat)) rfl (by kernel_rfl) (by kernel_rfl) (by kernel_rfl) (fun _ _ _ h => h) rfl (fun V hV => by simp [go_sem]) hS0 ?_
          simp only [List.getElem_toArray, List.getElem_cons_zero, List.getElem_cons_succ, Act.put, List.setIfInBounds_toArray, List.set_cons_zero, List.set_cons_succ]
          refine take_val 4 (.pointer (some ⟨gg, q * 96, none⟩)) rfl (by kernel_rfl) (by kernel_rfl) (by kernel_rfl) (fun _ _ _ h => h) rfl (fun V hV => by simp [go_sem, hJI]) hS0 ?_
          simp only [List.getElem_toArray, List.getElem_cons_zero, List.getElem_cons_succ, Act.put, List.setIfInBounds_toArray, List.set_cons_zero, List.set_cons_succ]
          refine take_val 6 (.agg (dc (L t))) rfl (by kernel_rfl) (by kernel_rfl) (by kernel_rfl) (fun _ _ _ h => h) rfl (fun V hV => ex_load_drum _ rfl wr.heap.size rfl _ (L t) hV.2) hS0 ?_
          simp only [List.getElem_toArray, List.getElem_cons_zero, List.getElem_cons_succ, Act.put, List.setIfInBounds_toArray, List.set_cons_zero, List.set_cons_succ]
          refine step_val 5 _ _ (by kernel_rfl) rfl rfl (ex_load_drum_mid _ rfl gg (q * 96) rfl UU hgj.out) hS0 ?_
          simp only [List.getElem_toArray, List.getElem_cons_zero, List.getElem_cons_succ, Act.put, List.setIfInBounds_toArray, List.set_cons_zero, List.set_cons_succ]
          have hl2 := DrumsAt.two w5.drew UU (L t) (twoL UU (L t)) rfl rfl
          have hS1 : Below w1.heap.size w1 (w5.drew.alloc (.cells (dc UU ++ dc (L t)) 71)) ∧ DrumAt (w5.drew.alloc (.cells (dc UU ++ dc (L t)) 71)) 71 wr.heap.size (L t) := ⟨hS0.1.alloc hS0.1.size _, hS0.2.alloc _⟩
          refine step_val 7 _ _ (by kernel_rfl) rfl rfl (ex_build2 _ _ rfl UU (L t) rfl rfl) hS1 ?_
          simp only [List.getElem_toArray, List.getElem_cons_zero, List.getElem_cons_succ, Act.put, List.setIfInBounds_toArray, List.set_cons_zero, List.set_cons_succ]
          refine step_call 8 74 #[.slice (some ⟨w5.drew.heap.size, 0, none⟩) 2 2] (by kernel_rfl) rfl rfl (by simp [go_sem]) ?_
          refine (union_any _ 2 2 (twoL UU (L t)) _ (by omega) (twoL_32 HU32 (HL.out t)) hl2).mono ?_
          rw [union_two]
          obtain ⟨XX, hXX⟩ : ∃ XX, (fun y => UU y ||| L t y) = XX := ⟨_, rfl⟩
          rw [hXX] at HGS ⊢
          clear hXX
          rintro e w8 ⟨rfl, hb8⟩
          have hS8 : Below w1.heap.size w1 w8 ∧ DrumAt w8 71 wr.heap.size (L t) := ⟨hS1.1.trans (hb8.mono hS1.1.size), hS1.2.below hb8 hS1.2.lt⟩
          refine ⟨_, rfl, hS8, ?_⟩
          simp only [List.getElem_toArray, List.getElem_cons_zero, List.getElem_cons_succ, Act.put, List.setIfInBounds_toArray, List.set_cons_zero, List.set_cons_succ]
          have hod8 := (hod.alloc (.cells (dc UU ++ dc (L t)) 71)).below hb8
          have hoi8 := (hoi.alloc (.cells (dc UU ++ dc (L t)) 71)).below hb8
          obtain ⟨hset, hth, NN, ff, ff2, hbk, hlek, _⟩ := OwnD.set hod8 HJL.out XX
          have hoi9 := hoi8.setD hbk (dc XX).toList hlek
          have hS9 : Below w1.heap.size w1 (w8.setCells gg (q * 96) (dc XX).toList) ∧ DrumAt (w8.setCells gg (q * 96) (dc XX).toList) 71 wr.heap.size (L t) := ⟨below_setCells hgb _ hS8.1, (heap_setCells_other _ hne).trans hS8.2⟩
          refine take_val 9 (.pointer (some ⟨gg, q * 96, none⟩)) rfl (by kernel_rfl) (by kernel_rfl) (by kernel_rfl) (fun _ _ _ h => h) rfl (fun V hV => by simp [go_sem, hJI]) hS8 ?_
          simp only [List.getElem_toArray, List.getElem_cons_zero, List.getElem_cons_succ, Act.put, List.setIfInBounds_toArray, List.set_cons_zero, List.set_cons_succ]
          refine step_skip 10 _ (by kernel_rfl) rfl rfl (ex_store_drum_mid _ _ rfl gg (q * 96) XX rfl rfl hth) hS9 ?_
          simp only [List.getElem_toArray, List.getElem_cons_zero, List.getElem_cons_succ, Act.put, List.setIfInBounds_toArray, List.set_cons_zero, List.set_cons_succ]
          refine wpAnyH_done (by kernel_rfl) ?_ _
          rw [HGS.out] at hset
          have hb9 := hS9.1
          generalize w8.setCells gg (q * 96) (dc XX).toList = w9 at hset hoi9 hb9 ⊢
          have HSET := Lib.hid hset; have HOI9 := Lib.hid hoi9; have HB9 := Lib.hid hb9; have hsz9 := hb9.size
          clear hS0 hod hoi hS1 hS8 hod8 hoi8 hset hth hbk hlek hoi9 hS9 hb9 hl2 hb8 hgj HGS HU32
          go_wp2_with (at_builtin; refine append_intg rfl _ _ rfl w1.heap.size _ rs rfl (HOI9.out.alloc _) w9.heap.size (q : Int) rfl (by simp) (by have := HRL.out; omega) (by simp; omega) ?_; intro v10 w10 ho10 hg10 hb10; have HO10 := Lib.hid ho10; have HD10 := Lib.hid ((HSET.out.alloc _).keep (HOI9.out.alloc _) hg10); have HB10 := Lib.hid (((HB9.out.alloc hsz9 _).trans hb10)); clear ho10 hg10 hb10)
          go_roundw
          case rel => exact ⟨HB10.out, t + 1, by omega, by go_num, by rw [HSU2.out]; exact HO10.out, by rw [HSU1.out]; exact HD10.out⟩
          case measure => simp [intOf]; omega
        · have hjj := jOf_at (k := k) (R := R) (n := n) (L := L) (gs := gs) (i := t) (by rw [HQ.out]; exact hj) hp hmin
          rw [hjj] at HSU1 HSU2
          clear hp hmin hjj
          have HMORE := Lib.hid (more_in (gs := gs) (j := JJ) (by rw [HQ.out]; exact hj))
          have hjj2 : ¬ (JJ : Int) < 0 := by omega
          have hJI : (JJ : Int) < q := by omega
          obtain ⟨ll, hll⟩ : ∃ ll, gs.map (uniL L) = ll := ⟨_, rfl⟩
          have HJL := Lib.hid (show JJ < ll.length by rw [← hll, List.length_map, HQ.out]; exact hj)
          have HLM := Lib.hid (show ll = (more gs JJ).map (uniL L) by rw [HMORE.out, hll])
          rw [hll] at HOT
          obtain ⟨QN, hQN⟩ : ∃ QN, q = QN := ⟨q, rfl⟩
          obtain ⟨qb, hqb⟩ : ∃ qb, vb = qb := ⟨vb, rfl⟩
          obtain ⟨qc, hqc⟩ : ∃ qc, vc = qc := ⟨vc, rfl⟩
          subst hQN hqb hqc
          have HNE := HNE0; have HBT := HB2w; have HDT := HD2
          clear hll HMORE HNE0 HB2w HD2
          go_wp2
          -- the union goes to its place
          have hS0 : Below w1.heap.size w1 w2.drew ∧ DrumAt w2.drew 71 wr.heap.size (L t) := ⟨HBT.out.drew, HDT.out⟩
          have hod := HOT.out.below (below_drew w2)
          have hoi := HIT.out.below (below_drew w2)
          obtain ⟨gg, hqb, hgb, hgl, hgc⟩ := OwnD.cells hod (by have := HJL.out; omega)
          subst hqb
          have hne : wr.heap.size ≠ gg := fun e => HNE.out (by rw [e]; rfl)
          have hgj := Lib.hid (hgc JJ HJL.out)
          obtain ⟨UU, hUU⟩ : ∃ UU, ll.getD JJ D0 = UU := ⟨_, rfl⟩
          rw [hUU] at hgj
          have HU32 : D32 UU := by rw [← hUU, HLM.out]; exact getD_32 HL.out _ _
          have HGS := Lib.hid (grp_set (i := t) HLM.out HJL.out)
          rw [hUU] at HGS
          clear hgc hUU
          refine wp_region_S (fun V => Below w1.heap.size w1 V ∧ DrumAt V 71 wr.heap.size (L t)) (by kernel_rfl) hS0 ?_
          refine take_val 0 (.slice (some ⟨gg, 0, none⟩) q vc) rfl (by kernel_rfl) (by kernel_rfl) (by kernel_rfl) (fun _ _ _ h => h) rfl (fun V hV => by simp [go_sem]) hS0 ?_
          simp only [List.getElem_toArray, List.getElem_cons_zero, List.getElem_cons_succ, Act.put, List.setIfInBounds_toArray, List.set_cons_zero, List.set_cons_succ]
          refine take_val 1 (.int .i64 (JJ : Nat)) rfl (by kernel_rfl) (by kernel_rfl) (by kernel_rfl) (fun _ _ _ h => h) rfl (fun V hV => by simp [go_sem]) hS0 ?_
          simp only [List.getElem_toArray, List.getElem_cons_zero, List.getElem_cons_succ, Act.put, List.setIfInBounds_toArray, List.set_cons_zero, List.set_cons_succ]
          refine take_val 2 (.slice (some ⟨gg, 0, none⟩) q vc) rfl (by kernel_rfl) (by kernel_rfl) (by kernel_rfl) (fun _ _ _ h => h) rfl (fun V hV => by simp [go_sem]) hS0 ?_
          simp only [List.getElem_toArray, List.getElem_cons_zero, List.getElem_cons_succ, Act.put, List.setIfInBounds_toArray, List.set_cons_zero, List.set_cons_succ]
          refine take_val 3 (.int .i64 (JJ : Nat)) rfl (by kernel_rfl) (by kernel_rfl) (by kernel_rfl) (fun _ _ _ h => h) rfl (fun V hV => by simp [go_sem]) hS0 ?_
          simp only [List.getElem_toArray, List.getElem_cons_zero, List.getElem_cons_succ, Act.put, List.setIfInBounds_toArray, List.set_cons_zero, List.set_cons_succ]
          refine take_val 4 (.pointer (some ⟨gg, JJ * 96, none⟩)) rfl (by kernel_rfl) (by kernel_rfl) (by kernel_rfl) (fun _ _ _ h => h) rfl (fun V hV => by simp [go_sem, hJI]) hS0 ?_
          simp only [List.getElem_toArray, List.getElem_cons_zero, List.getElem_cons_succ, Act.put, List.setIfInBounds_toArray, List.set_cons_zero, List.set_cons_succ]
          refine take_val 6 (.agg (dc (L t))) rfl (by kernel_rfl) (by kernel_rfl) (by kernel_rfl) (fun _ _ _ h => h) rfl (fun V hV => ex_load_drum _ rfl wr.heap.size rfl _ (L t) hV.2) hS0 ?_
          simp only [List.getElem_toArray, List.getElem_cons_zero, List.getElem_cons_succ, Act.put, List.setIfInBounds_toArray, List.set_cons_zero, List.set_cons_succ]
          refine step_val 5 _ _ (by kernel_rfl) rfl rfl (ex_load_drum_mid _ rfl gg (JJ * 96) rfl UU hgj.out) hS0 ?_
          simp only [List.getElem_toArray, List.getElem_cons_zero, List.getElem_cons_succ, Act.put, List.setIfInBounds_toArray, List.set_cons_zero, List.set_cons_succ]
          have hl2 := DrumsAt.two w2.drew UU (L t) (twoL UU (L t)) rfl rfl
          have hS1 : Below w1.heap.size w1 (w2.drew.alloc (.cells (dc UU ++ dc (L t)) 71)) ∧ DrumAt (w2.drew.alloc (.cells (dc UU ++ dc (L t)) 71)) 71 wr.heap.size (L t) := ⟨hS0.1.alloc hS0.1.size _, hS0.2.alloc _⟩
          refine step_val 7 _ _ (by kernel_rfl) rfl rfl (ex_build2 _ _ rfl UU (L t) rfl rfl) hS1 ?_
          simp only [List.getElem_toArray, List.getElem_cons_zero, List.getElem_cons_succ, Act.put, List.setIfInBounds_toArray, List.set_cons_zero, List.set_cons_succ]
          refine step_call 8 74 #[.slice (some ⟨w2.drew.heap.size, 0, none⟩) 2 2] (by kernel_rfl) rfl rfl (by simp [go_sem]) ?_
          refine (union_any _ 2 2 (twoL UU (L t)) _ (by omega) (twoL_32 HU32 (HL.out t)) hl2).mono ?_
          rw [union_two]
          obtain ⟨XX, hXX⟩ : ∃ XX, (fun y => UU y ||| L t y) = XX := ⟨_, rfl⟩
          rw [hXX] at HGS ⊢
          clear hXX
          rintro e w8 ⟨rfl, hb8⟩
          have hS8 : Below w1.heap.size w1 w8 ∧ DrumAt w8 71 wr.heap.size (L t) := ⟨hS1.1.trans (hb8.mono hS1.1.size), hS1.2.below hb8 hS1.2.lt⟩
          refine ⟨_, rfl, hS8, ?_⟩
          simp only [List.getElem_toArray, List.getElem_cons_zero, List.getElem_cons_succ, Act.put, List.setIfInBounds_toArray, List.set_cons_zero, List.set_cons_succ]
          have hod8 := (hod.alloc (.cells (dc UU ++ dc (L t)) 71)).below hb8
          have hoi8 := (hoi.alloc (.cells (dc UU ++ dc (L t)) 71)).below hb8
          obtain ⟨hset, hth, NN, ff, ff2, hbk, hlek, _⟩ := OwnD.set hod8 HJL.out XX
          have hoi9 := hoi8.setD hbk (dc XX).toList hlek
          have hS9 : Below w1.heap.size w1 (w8.setCells gg (JJ * 96) (dc XX).toList) ∧ DrumAt (w8.setCells gg (JJ * 96) (dc XX).toList) 71 wr.heap.size (L t) := ⟨below_setCells hgb _ hS8.1, (heap_setCells_other _ hne).trans hS8.2⟩
          refine take_val 9 (.pointer (some ⟨gg, JJ * 96, none⟩)) rfl (by kernel_rfl) (by kernel_rfl) (by kernel_rfl) (fun _ _ _ h => h) rfl (fun V hV => by simp [go_sem, hJI]) hS8 ?_
          simp only [List.getElem_toArray, List.getElem_cons_zero, List.getElem_cons_succ, Act.put, List.setIfInBounds_toArray, List.set_cons_zero, List.set_cons_succ]
          refine step_skip 10 _ (by kernel_rfl) rfl rfl (ex_store_drum_mid _ _ rfl gg (JJ * 96) XX rfl rfl hth) hS9 ?_
          simp only [List.getElem_toArray, List.getElem_cons_zero, List.getElem_cons_succ, Act.put, List.setIfInBounds_toArray, List.set_cons_zero, List.set_cons_succ]
          refine wpAnyH_done (by kernel_rfl) ?_ _
          rw [HGS.out] at hset
          have hb9 := hS9.1
          generalize w8.setCells gg (JJ * 96) (dc XX).toList = w9 at hset hoi9 hb9 ⊢
          have HSET := Lib.hid hset; have HOI9 := Lib.hid hoi9; have HB9 := Lib.hid hb9; have hsz9 := hb9.size
          clear hS0 hod hoi hS1 hS8 hod8 hoi8 hset hth hbk hlek hoi9 hS9 hb9 hl2 hb8 hgj HGS HU32
          go_wp2_with (at_builtin; refine append_intg rfl _ _ rfl w1.heap.size _ rs rfl (HOI9.out.alloc _) w9.heap.size (JJ : Int) rfl (by simp) (by have := HRL.out; omega) (by simp; omega) ?_; intro v10 w10 ho10 hg10 hb10; have HO10 := Lib.hid ho10; have HD10 := Lib.hid ((HSET.out.alloc _).keep (HOI9.out.alloc _) hg10); have HB10 := Lib.hid (((HB9.out.alloc hsz9 _).trans hb10)); clear ho10 hg10 hb10)
          go_roundw
          case rel => exact ⟨HB10.out, t + 1, by omega, by go_num, by rw [HSU2.out]; exact HO10.out, by rw [HSU1.out]; exact HD10.out⟩
          case measure => simp [intOf]; omega
      · have htm : t = m := by omega
        subst htm
        have HN1 := Lib.hid (show ((sg k R n L t).1.length : Int) = q by rw [HGS0.out, HQ.out])
        go_wp2_with (go_at_call 75; refine (sizeDrum_any _ _ _ _ (by omega)).mono ?_; rintro e w' ⟨rfl, rfl⟩)
        go_ret3
        exact ⟨_, by rw [H2.out, H3.out, HN1.out]; rfl, HB00.out.trans (HB.out.mono hsz1), by rw [H1.out, HRS0.out]; exact OwnI.mono HO1.out hsz1⟩
  · obtain ⟨h1, h2, h3⟩ := sg_no hv
    have hv2 : (lcode (okAll s n P R m L) m == 0) = false := by simpa using hv
    have hv3 : (lcode (okAll s n P R m L) m != 0) = true := by simp [hv]
    have H1 := Lib.hid h1; have H2 := Lib.hid h2; have H3 := Lib.hid h3
    obtain ⟨x, hx⟩ : ∃ x, lcode (okAll s n P R m L) m = x := ⟨_, rfl⟩
    rw [hx] at hv hv2 hv3 H3 ⊢
    have hb := KB.here
    clear hx h1 h2 h3
    go_wp2
    go_ret3
    exact ⟨_, by rw [H2.out, H3.out]; rfl, hb, by rw [H1.out]; exact OwnI.none0 _ _⟩
end Go.Proofs.Ytpfjmoodfodfhaa
