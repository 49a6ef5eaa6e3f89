/- Lists of lists of drums, one's own, rows apart. No conditions. -/
import Derived.Test.YtpfjmoodfodfhaaSh
import Derived.Outline
namespace Go.Proofs.Ytpfjmoodfodfhaa
open Go.RowKit
set_option linter.unusedVariables false
set_option linter.unusedSimpArgs false

/-- v owns the groups of drums, each in a block of its own -/
def DX (w : World) (base top : Nat) (v : Value) (L : Nat → Nat → Nat) (gs : List (List Nat)) : Prop :=
  ∃ us : List Value, us.length = gs.length ∧ w.ownsRow base 48 1 v gs.length us ∧ (∀ (i : Nat) u, us[i]? = some u → OwnD w base u ((gs.getD i []).map L)) ∧
    (∀ (i : Nat) u, us[i]? = some u → ∀ b, u.ownBlock = some b → b < top) ∧ (∀ (i j : Nat) u u' b, us[i]? = some u → us[j]? = some u' → u.ownBlock = some b → u'.ownBlock = some b → i = j) ∧ ∀ (i : Nat) u, us[i]? = some u → u.ownBlock ≠ none
section
variable {w w' : World} {base top : Nat} {v : Value} {L : Nat → Nat → Nat} {gs : List (List Nat)}
theorem DX.below (h : DX w base top v L gs) (hb : Below w.heap.size w w') : DX w' base top v L gs := by
  obtain ⟨us, h1, h2, h3, h4, h5, h6⟩ := h
  exact ⟨us, h1, own_below h2 hb, fun i u hu => (h3 i u hu).below hb, h4, h5, h6⟩
theorem DX.retop (h : DX w base top v L gs) : DX w base w.heap.size v L gs := by
  obtain ⟨us, h1, h2, h3, h4, h5, h6⟩ := h
  exact ⟨us, h1, h2, h3, fun i u hu b hb => ((h3 i u hu).lt b hb).2, h5, h6⟩
theorem DX.alloc (h : DX w base top v L gs) (o : Obj) : DX (w.alloc o) base top v L gs := h.below ((Below.refl _ _).alloc (Nat.le_refl _) _)
theorem DX.nil (w : World) (base top : Nat) (L : Nat → Nat → Nat) (hb : base ≤ w.heap.size) : DX (w.alloc (.cells #[] 48)) base top (.slice (some ⟨w.heap.size, 0, none⟩) 0 0) L [] :=
  ⟨[], rfl, ⟨rfl, .inr ⟨w.heap.size, 0, #[], rfl, hb, heap_alloc_new w _, Nat.le_refl _, by unfold maxLen; omega, rfl, rfl⟩⟩, fun i u h => by simp at h, fun i u h => by simp at h, fun i j u u' b h => by simp at h, fun i u h => by simp at h⟩
theorem DX.form (h : DX w base top v L gs) : ∃ b c, v = .slice b gs.length c := by
  obtain ⟨us, h1, h2, _⟩ := h
  rcases h2.2 with ⟨rfl, h0⟩ | ⟨g, cap, cur, rfl, _⟩
  · exact ⟨none, 0, by rw [h0]⟩
  · exact ⟨_, _, rfl⟩
/-- the header's block and the rows' blocks are of different types -/
theorem hdrD_apart {m : Nat} {us : List Value} {u : Value} {l : List (Nat → Nat)} (h2 : w.ownsRow base 48 1 v m us) (hu : OwnD w base u l) : ∀ b, v.ownBlock = some b → u.ownBlock ≠ some b := by
  intro b hb e
  unfold OwnD OwnL at hu
  obtain ⟨cur, h⟩ := own_type h2 hb
  obtain ⟨cur', h'⟩ := own_type hu e
  rw [h] at h'
  simp at h'
theorem OwnD.kept {u : Value} {l : List (Nat → Nat)} {row : Option Nat} (h : OwnD w base u l) (hg : w.grownBy w' row) (hne : u.ownBlock = none ∨ u.ownBlock ≠ row) : OwnD w' base u l := by
  unfold OwnD OwnL at *
  exact World.ownsRow.kept h hg (hne.imp id fun h => by simpa using h)
/-- the j-th group's slice -/
theorem DX.get {b : Option Addr} {n c : Nat} (h : DX w base top (.slice b n c) L gs) {j : Nat} (hj : j < gs.length) : ∃ g u, b = some ⟨g, 0, none⟩ ∧ base ≤ g ∧ g < w.heap.size ∧ w.cell? ⟨g, j, none⟩ = some u ∧ OwnD w base u ((gs.getD j []).map L) ∧ u.ownBlock ≠ none := by
  obtain ⟨us, h1, h2, h3, _, _, h6⟩ := h
  rcases own_at h2 with ⟨e, h0⟩ | ⟨g, cap, e, hg, hlt, hc⟩
  · omega
  · injection e with e1 e2 e3
    have hx := hc j (by omega)
    have hj' : j < us.length := by omega
    exact ⟨g, us[j], e1, hg, hlt, by rw [hx, List.getElem?_eq_getElem hj'], h3 j _ (List.getElem?_eq_getElem hj'), h6 j _ (List.getElem?_eq_getElem hj')⟩
end
section
variable {ops : Array Oper} {rest : List Oper} {o : Oper} {a : Act} {w : World} {Q : Exit → Act → World → Prop}
theorem infoDs : (Try.prog.info? 48).map (fun i => (i.zero, i.size, i.bytes)) = some (some (.slice none 0 0), 1, 24) := by kernel_rfl
/-- an empty group is appended that lies apart from the others -/
theorem append_rowD (hgd : o.guard = none) (s x : Operand) (ho : o.op = .call { callee := .builtin .append, args := #[s, x], argTypes := #[111, 111] }) (base top : Nat) (v : Value) (L : Nat → Nat → Nat) (gs : List (List Nat)) (hs : a.eval s = v) (hown : DX w base top v L gs)
    (g : Nat) (u : Value) (hx : a.eval x = .slice (some ⟨g, 0, none⟩) 1 1) (hc : w.cell? ⟨g, 0, none⟩ = some u) (hu : OwnD w top u []) (hun : u.ownBlock ≠ none) (hbt : base ≤ top) (hl : gs.length ≤ 1000000) (hbase : base ≤ w.heap.size)
    (h : ∀ v' w', DX w' base w'.heap.size v' L (gs ++ [[]]) → Below base w w' → w.grownBy w' v.ownBlock → wpList Try.prog ops Q rest (a.put o.dst v') w') : wpList Try.prog ops Q (o :: rest) a w := by
  obtain ⟨i0, hi, hz0, hz1, hz2⟩ := info_parts infoDs
  obtain ⟨us, hl1, hvs, hrs, htop, hdis, hnn⟩ := hown
  have huo : u.oneCell' = true := by obtain ⟨b, c, rfl⟩ := OwnD.form hu; rfl
  refine wpList_append_own w hgd s x 111 ho base 48 i0 (.slice none 0 0) 1 24 Try.underlying111 hi hz0 hz1 hz2 rfl (by decide) v gs.length _ hs hvs ⟨g, 0, none⟩ 1 1 [u] hx rfl ?_ ?_ ?_ ?_ hbase ?_
  · intro j u' hj
    match j, hj with
    | 0, hj => simp at hj; subst hj; simpa [Addr.add] using hc
  · intro u' hu'; simp at hu'; subst hu'; exact huo
  · unfold maxLen; omega
  · omega
  · intro v' w' hown' hgrow _
    have hu' := OwnD.mono hu hbt
    refine h v' w' ?_ (Below.grown (Below.refl _ _) hgrow hbase fun b hb => (World.ownsRow.lt hvs b hb).1) hgrow
    have keep : ∀ u l, OwnD w base u l → OwnD w' base u l := fun u l hur => by
      refine hur.kept hgrow ?_
      cases hv : u.ownBlock with
      | none => exact .inl rfl
      | some b => exact .inr fun e2 => hdrD_apart hvs hur b e2.symm hv
    have hsz := hgrow.size
    have get : ∀ (i : Nat) x, (us ++ [u])[i]? = some x → (i < gs.length ∧ us[i]? = some x) ∨ (i = gs.length ∧ x = u) := by
      intro i x hi
      by_cases hlt : i < us.length
      · rw [List.getElem?_append_left hlt] at hi
        exact .inl ⟨by omega, hi⟩
      · rw [List.getElem?_append_right (by omega)] at hi
        have hi0 : i = us.length := by
          have := (List.getElem?_eq_some_iff.1 hi).1
          simp at this; omega
        subst hi0
        simp at hi
        exact .inr ⟨hl1, hi.symm⟩
    refine ⟨us ++ [u], by simp [hl1], by rw [List.length_append]; exact hown', fun i x hi => ?_, fun i x hi b hb => ?_, fun i j x y b hi hj hb hb' => ?_, fun i x hi => by rcases get i x hi with ⟨_, h1⟩ | ⟨rfl, rfl⟩; exact hnn i x h1; exact hun⟩
    · rcases get i x hi with ⟨h0, h1⟩ | ⟨rfl, rfl⟩
      · have := keep _ _ (hrs i x h1)
        have e1 : (gs ++ [([] : List Nat)]).getD i [] = gs.getD i [] := by simp [List.getD, List.getElem?_append_left h0]
        rw [e1]
        exact this
      · have := keep _ _ hu'
        have e1 : (gs ++ [([] : List Nat)]).getD gs.length [] = [] := by simp [List.getD]
        rw [e1]
        exact this
    · rcases get i x hi with ⟨_, h1⟩ | ⟨rfl, rfl⟩
      · have := ((hrs i x h1).lt b hb).2; omega
      · have := (hu.lt b hb).2; omega
    · rcases get i x hi with ⟨_, h1⟩ | ⟨rfl, rfl⟩ <;> rcases get j y hj with ⟨_, h2⟩ | ⟨rfl, rfl⟩
      · exact hdis i j x y b h1 h2 hb hb'
      · have h3 := htop i x h1 b hb
        have h4 := (hu.lt b hb').1
        omega
      · have h3 := htop j y h2 b hb'
        have h4 := (hu.lt b hb).1
        omega
      · rfl
end
/-- a group has grown, and its slice is stored in its place -/
theorem DX.grow {w w' : World} {base top : Nat} {L : Nat → Nat → Nat} {gs : List (List Nat)} {g n c : Nat} (h : DX w base top (.slice (some ⟨g, 0, none⟩) n c) L gs) {j : Nat} (hj : j < gs.length) {u u' : Value} (hu : w.cell? ⟨g, j, none⟩ = some u)
    (hg : w.grownBy w' u.ownBlock) (t : Nat) (hu' : OwnD w' base u' ((gs.getD j []).map L ++ [L t])) (hat : u'.ownBlock = u.ownBlock ∨ u'.ownBlock = some w.heap.size) :
    DX (w'.setCell ⟨g, j, none⟩ u') base (w'.setCell ⟨g, j, none⟩ u').heap.size (.slice (some ⟨g, 0, none⟩) n c) L (gs.set j (gs.getD j [] ++ [t])) ∧ (∃ N f, BlkAt w' 48 g N f ∧ j < N) := by
  obtain ⟨us, h1, h2, h3, h4, h5, h6⟩ := h
  have hj' : j < us.length := by omega
  have huj : us[j]? = some u := by
    rcases own_at h2 with ⟨e, h0⟩ | ⟨g', cap, e, _, hlt, hc⟩
    · omega
    · injection e with e1 e2 e3
      injection e1 with e1
      injection e1 with e1
      subst e1
      have := hc j (by omega)
      rw [hu] at this
      exact this.symm
  have hur := h3 j u huj
  have hsz := hg.size
  -- the header keeps
  have h2' : w'.ownsRow base 48 1 (.slice (some ⟨g, 0, none⟩) n c) gs.length us := by
    have hu2 := hur
    unfold OwnD OwnL at hu2
    exact own_keep h2 (keep_grown (T2 := 71) hu2 hg) (by decide) (by decide)
  -- the other groups keep
  have h3' : ∀ (i : Nat) x, i ≠ j → us[i]? = some x → OwnD w' base x ((gs.getD i []).map L) := fun i x hne hx => by
    refine (h3 i x hx).kept hg ?_
    cases hv : x.ownBlock with
    | none => exact .inl rfl
    | some b => exact .inr fun e => hne (h5 i j x u b hx huj hv e.symm)
  obtain ⟨hl, h0 | ⟨g', cap, cur, he, hgb, hb, hc, hm, hs, ht⟩⟩ := h2'
  · have := h0.2; omega
  · injection he with e1 e2 e3
    injection e1 with e1
    injection e1 with e1
    subst e1; subst e2; subst e3
    obtain ⟨f, hf⟩ := cf_of cur
    have hblk : BlkAt w' 48 g (c * 1) f := by unfold BlkAt; rw [hb, ← hs, ← hf]
    have hb2 := hblk.setCell j u' (by omega)
    have hus : ∀ x, x < gs.length → some (f x) = us[x]? := fun x hx => by
      have h9 : (cur.toList.take (gs.length * 1))[x]? = us[x]? := by rw [ht]
      rw [List.getElem?_take, if_pos (by omega), Array.getElem?_toList, hf, cf_get _ _ _ (by omega)] at h9
      exact h9
    have hd := own_done (w := w'.setCell ⟨g, j, none⟩ u') (base := base) (e := 48) (n := gs.length) (size := 1) (cap := c) (f := updV f j u') hgb hb2 hc hm (cf_size _ _) (fun x hx => cf_get _ _ _ (by omega))
    have hmk : mks (updV f j u') (gs.length * 1) = us.set j u' := by
      apply List.ext_getElem?
      intro x
      by_cases hx : x < gs.length
      · rw [mks_get _ _ _ (by omega)]
        by_cases e : x = j
        · subst e; rw [updV_same, List.getElem?_set_self hj']
        · rw [updV_other _ _ _ e, List.getElem?_set_ne (by omega), hus x hx]
      · rw [List.getElem?_eq_none (by rw [mks_len]; omega), List.getElem?_eq_none (by rw [List.length_set]; omega)]
    rw [hmk] at hd
    have get : ∀ (i : Nat) x, (us.set j u')[i]? = some x → (i ≠ j ∧ us[i]? = some x) ∨ (i = j ∧ x = u') := by
      intro i x hi
      by_cases e : i = j
      · subst e; rw [List.getElem?_set_self hj'] at hi; exact .inr ⟨rfl, (Option.some.inj hi).symm⟩
      · rw [List.getElem?_set_ne (by omega)] at hi; exact .inl ⟨e, hi⟩
    have hset : ∀ x l, OwnD w' base x l → OwnD (w'.setCell ⟨g, j, none⟩ u') base x l := fun x l hx => by
      unfold OwnD OwnL at *
      exact own_set hx hb (by decide) u'
    refine ⟨⟨us.set j u', by simp [h1], by rw [List.length_set]; exact hd, fun i x hi => ?_, fun i x hi b hbb => ?_, fun i i2 x y b hi hi2 hb1 hb3 => ?_, fun i x hi => by rcases get i x hi with ⟨_, h9⟩ | ⟨rfl, rfl⟩; exact h6 i x h9; exact fun e => by rcases hat with h9 | h9 <;> rw [h9] at e; exact h6 i u huj e; exact absurd e (by simp)⟩, c * 1, f, hblk, by omega⟩
    · rcases get i x hi with ⟨hne, hx⟩ | ⟨rfl, rfl⟩
      · rw [show (gs.set j (gs.getD j [] ++ [t])).getD i [] = gs.getD i [] by simp only [List.getD]; rw [List.getElem?_set_ne (by omega)]]
        exact hset _ _ (h3' i x hne hx)
      · rw [show (gs.set i (gs.getD i [] ++ [t])).getD i [] = gs.getD i [] ++ [t] by simp only [List.getD]; rw [List.getElem?_set_self hj]; rfl, List.map_append, List.map_cons, List.map_nil]
        exact hset _ _ hu'
    · have hs2 : (w'.setCell ⟨g, j, none⟩ u').heap.size = w'.heap.size := by simp
      rw [hs2]
      rcases get i x hi with ⟨hne, hx⟩ | ⟨rfl, rfl⟩
      · exact ((h3' i x hne hx).lt b hbb).2
      · exact (hu'.lt b hbb).2
    · have old : ∀ i x b, i ≠ j → us[i]? = some x → x.ownBlock = some b → u'.ownBlock ≠ some b := by
        intro i x b hne hx hxb e
        rcases hat with h9 | h9
        · exact hne (h5 i j x u b hx huj hxb (h9 ▸ e))
        · rw [h9] at e
          injection e with e
          have := ((h3 i x hx).lt b hxb).2
          omega
      rcases get i x hi with ⟨hne, hx⟩ | ⟨rfl, rfl⟩ <;> rcases get i2 y hi2 with ⟨hne2, hy⟩ | ⟨rfl, rfl⟩
      · exact h5 i i2 x y b hx hy hb1 hb3
      · exact absurd hb3 (old i x b hne hx hb1)
      · exact absurd hb1 (old i2 y b hne2 hy hb3)
      · rfl
/-- numbers grow beside the groups -/
theorem DX.keepI {w w' : World} {base base2 top : Nat} {v u : Value} {L : Nat → Nat → Nat} {gs : List (List Nat)} {r : List Int} (h : DX w base top v L gs) (hi : OwnI w base2 u r) (hg : w.grownBy w' u.ownBlock) : DX w' base top v L gs := by
  obtain ⟨us, h1, h2, h3, h4, h5, h6⟩ := h
  refine ⟨us, h1, ?_, fun i x hx => (h3 i x hx).keep hi hg, h4, h5, h6⟩
  unfold OwnI at hi
  exact own_keep h2 (keep_grown (T2 := 2) hi hg) (by decide) (by decide)
theorem OwnI.keepDs {w w' : World} {base base2 top : Nat} {v u : Value} {L : Nat → Nat → Nat} {gs : List (List Nat)} {r : List Int} (h : OwnI w base2 u r) (hi : DX w base top v L gs) (hg : w.grownBy w' v.ownBlock) : OwnI w' base2 u r := by
  obtain ⟨us, h1, h2, _⟩ := hi
  unfold OwnI at *
  exact own_keep h (keep_grown (T2 := 48) h2 hg) (by decide) (by decide)
theorem OwnI.setDs {w : World} {base g k N : Nat} {u x : Value} {r : List Int} {f : Nat → Value} (h : OwnI w base u r) (hb : BlkAt w 48 g N f) : OwnI (w.setCell ⟨g, k, none⟩ x) base u r := by
  unfold OwnI at *
  exact own_set h hb (by decide) x
theorem grp_more (gs : List (List Nat)) (j i : Nat) {ll : List (List Nat)} (h : more gs j = ll) : ll.set j (ll.getD j [] ++ [i]) = grp gs j i := by rw [grp_def, h]
/-- a slice of one's own with a block -/
theorem OwnD.open {w : World} {base : Nat} {u : Value} {l : List (Nat → Nat)} (h : OwnD w base u l) (hn : u.ownBlock ≠ none) : ∃ g c, u = .slice (some ⟨g, 0, none⟩) l.length c ∧ base ≤ g ∧ g < w.heap.size ∧ ∀ x u, (l.flatMap encD)[x]? = some u → w.cell? ((⟨g, 0, none⟩ : Addr).add x) = some u := by
  unfold OwnD OwnL at h
  rcases own_at h with ⟨rfl, _⟩ | ⟨g, c, rfl, hg, hlt, hc⟩
  · exact absurd rfl hn
  · refine ⟨g, c, rfl, hg, hlt, fun x u hx => ?_⟩
    have hxl := (List.getElem?_eq_some_iff.1 hx).1
    rw [h.1] at hxl
    have e : (⟨g, 0, none⟩ : Addr).add x = ⟨g, x, none⟩ := by unfold Addr.add; split <;> simp_all
    rw [e, hc x hxl, hx]
section
variable {md : Region.Mode} {ops : Array Oper} {Q : Exit → Act → World → Prop} {S : World → Prop} {fuel : Nat} {listed : Array Bool} {a : Act} {w : World}
/-- two operations may come up, each leaves a value and a world -/
theorem step_two {P : Program} (i j : Nat) {oi oj : Oper} (vi vj : Value) (wi wj : World) (hr : Region.ready md ops listed = [i, j]) (hoi : ops[i]? = some oi) (hoj : ops[j]? = some oj) (hwi : Region.wanted oi (yielded ops a.tmps) = true) (hwj : Region.wanted oj (yielded ops a.tmps) = true)
    (ei : (execOp a.eval oi).run P w = .ok (.value vi) wi) (ej : (execOp a.eval oj).run P w = .ok (.value vj) wj) (hSi : S wi) (hSj : S wj)
    (hi : wpAnyH P md ops Q S fuel (listed.setIfInBounds i true) (a.put oi.dst vi) wi) (hj : wpAnyH P md ops Q S fuel (listed.setIfInBounds j true) (a.put oj.dst vj) wj) : wpAnyH P md ops Q S (fuel + 1) listed a w := by
  refine wpAnyH_ready hr (by simp) (AllReadyH.cons hoi (fun K hK => ?_) (AllReadyH.cons hoj (fun K hK => ?_) AllReadyH.nil))
  · rw [if_pos hwi]
    unfold Oper.wp
    rw [ei]
    exact hK.out _ _ hSi fun _ => hi
  · rw [if_pos hwj]
    unfold Oper.wp
    rw [ej]
    exact hK.out _ _ hSj fun _ => hj
theorem ex_append_D {o : Oper} (s x : Operand) (ho : o.op = .call { callee := .builtin .append, args := #[s, x], argTypes := #[48, 48] }) (base : Nat) (v : Value) (l : List (Nat → Nat)) (hs : a.eval s = v) (hown : OwnD w base v l)
    (ad : Addr) (c : Nat) (ys : List (Nat → Nat)) (m : Nat) (hm : ys.length = m) (hx : a.eval x = .slice (some ad) m c) (hc : ∀ j u, (ys.flatMap encD)[j]? = some u → w.cell? (ad.add j) = some u) (hl : l.length + m ≤ 1000) (hbase : base ≤ w.heap.size) :
    ∃ v' w', (execOp a.eval o).run Try.prog w = .ok (.value v') w' ∧ OwnD w' base v' (l ++ ys) ∧ w.grownBy w' v.ownBlock ∧ Below base w w' ∧ (v'.ownBlock = v.ownBlock ∨ v'.ownBlock = some w.heap.size) := by
  subst hm
  obtain ⟨i0, hi, hz0, hz1, hz2⟩ := info_parts infoDrum
  unfold OwnD at hown ⊢
  have hlen : (ys.flatMap encD).length = ys.length * 96 := flat_len encD 96 encD_len ys
  obtain ⟨v', w', hrun, h2, h3, _, h5⟩ := run_append_own_at (P := Try.prog) w base 48 o.type 71 i0 (.agg (Array.replicate 96 (.int .u32 0))) 96 384 Try.underlying48 hi hz0 hz1 hz2 (by simp [Value.cells]) (by decide) v l.length _ hown ad ys.length c (ys.flatMap encD) hlen hc (fun u hu => by
    obtain ⟨y, _, hy⟩ := List.mem_flatMap.1 hu
    exact encD_one y u hy) (by unfold maxLen; omega) (by omega) hbase
  refine ⟨v', w', ?_, by unfold OwnL; rw [List.length_append, List.flatMap_append]; exact h2, h3, Below.grown (Below.refl _ _) h3 hbase fun k hk => (World.ownsRow.lt hown k hk).1, h5⟩
  unfold execOp
  simp only [ho, resolve, invoke, builtin, Sem.run_bind, Sem.run_pure, Result.andThen_ok, List.map_toArray, List.map_cons, List.map_nil, hs, hx, hrun]
theorem step_append_D (i : Nat) {o : Oper} (hr : Region.ready md ops listed = [i]) (hoi : ops[i]? = some o) (hw : Region.wanted o (yielded ops a.tmps) = true) (s x : Operand) (ho : o.op = .call { callee := .builtin .append, args := #[s, x], argTypes := #[48, 48] }) (base : Nat) (v : Value) (l : List (Nat → Nat)) (hs : a.eval s = v) (hown : OwnD w base v l)
    (ad : Addr) (c : Nat) (ys : List (Nat → Nat)) (m : Nat) (hm : ys.length = m) (hx : a.eval x = .slice (some ad) m c) (hc : ∀ j u, (ys.flatMap encD)[j]? = some u → w.cell? (ad.add j) = some u) (hl : l.length + m ≤ 1000) (hbase : base ≤ w.heap.size)
    (h : ∀ v' w', OwnD w' base v' (l ++ ys) → w.grownBy w' v.ownBlock → Below base w w' → (v'.ownBlock = v.ownBlock ∨ v'.ownBlock = some w.heap.size) → S w' ∧ wpAnyH Try.prog md ops Q S fuel (listed.setIfInBounds i true) (a.put o.dst v') w') : wpAnyH Try.prog md ops Q S (fuel + 1) listed a w := by
  obtain ⟨v', w', he, h1, h2, h3, h4⟩ := ex_append_D s x ho base v l hs hown ad c ys m hm hx hc hl hbase
  obtain ⟨h5, h6⟩ := h v' w' h1 h2 h3 h4
  exact step_val i v' w' hr hoi hw he h5 h6
theorem step_append_D_or (i j : Nat) {o oj : Oper} (hr : Region.ready md ops listed = [i, j]) (hoi : ops[i]? = some o) (hoj : ops[j]? = some oj) (hw : Region.wanted o (yielded ops a.tmps) = true) (hwj : Region.wanted oj (yielded ops a.tmps) = true) (vj : Value) (wj : World) (ej : (execOp a.eval oj).run Try.prog w = .ok (.value vj) wj) (hSj : S wj) (s x : Operand) (ho : o.op = .call { callee := .builtin .append, args := #[s, x], argTypes := #[48, 48] }) (base : Nat) (v : Value) (l : List (Nat → Nat)) (hs : a.eval s = v) (hown : OwnD w base v l)
    (ad : Addr) (c : Nat) (ys : List (Nat → Nat)) (m : Nat) (hm : ys.length = m) (hx : a.eval x = .slice (some ad) m c) (hc : ∀ j u, (ys.flatMap encD)[j]? = some u → w.cell? (ad.add j) = some u) (hl : l.length + m ≤ 1000) (hbase : base ≤ w.heap.size)
    (h : ∀ v' w', OwnD w' base v' (l ++ ys) → w.grownBy w' v.ownBlock → Below base w w' → (v'.ownBlock = v.ownBlock ∨ v'.ownBlock = some w.heap.size) → S w' ∧ wpAnyH Try.prog md ops Q S fuel (listed.setIfInBounds i true) (a.put o.dst v') w')
    (hj : wpAnyH Try.prog md ops Q S fuel (listed.setIfInBounds j true) (a.put oj.dst vj) wj) : wpAnyH Try.prog md ops Q S (fuel + 1) listed a w := by
  obtain ⟨v', w', he, h1, h2, h3, h4⟩ := ex_append_D s x ho base v l hs hown ad c ys m hm hx hc hl hbase
  obtain ⟨h5, h6⟩ := h v' w' h1 h2 h3 h4
  exact step_two i j v' vj w' wj hr hoi hoj hw hwj he ej h5 hSj h6 hj
theorem ex_build0 {o : Oper} (ho : o.op = .buildSlice 48 0 #[]) :
    (execOp a.eval o).run Try.prog w = .ok (.value (.slice (some ⟨w.heap.size, 0, none⟩) 0 0)) (w.alloc (.cells #[] 71)) := by
  have hr : (Instr.buildSlice 48 0 #[]).run Try.prog w = .ok (.slice (some ⟨w.heap.size, 0, none⟩) 0 0) (w.alloc (.cells #[] 71)) := by kernel_rfl
  simp only [execOp, ho, Array.map_empty, Sem.run_bind, hr, Result.andThen_ok]
  rfl
theorem ex_load_ds {o : Oper} (x : Operand) (ho : o.op = .load 48 x) (g p : Nat) (u : Value) (hx : a.eval x = .pointer (some ⟨g, p, none⟩)) (hc : w.cell? ⟨g, p, none⟩ = some u) :
    (execOp a.eval o).run Try.prog w = .ok (.value u) w := by
  unfold execOp
  simp only [ho, hx]
  simp [go_sem, hc]
theorem ex_store_ds {o : Oper} (x y : Operand) (ho : o.op = .store 48 x y) (g p : Nat) (ub : Option Addr) (un uc : Nat) (old : Value) (hx : a.eval x = .pointer (some ⟨g, p, none⟩)) (hy : a.eval y = .slice ub un uc) (hc : w.cell? ⟨g, p, none⟩ = some old) (hf : w.frozen? ⟨g, p, none⟩ = false) :
    (execOp a.eval o).run Try.prog w = .ok .skip (w.setCell ⟨g, p, none⟩ (.slice ub un uc)) := by
  unfold execOp
  simp only [ho, hx, hy]
  simp [go_sem, hc, hf]
end
/-- the union of a group, read as a list -/
theorem uni_list (L : Nat → Nat → Nat) (g : List Nat) : unionTo (fun i => (g.map L).getD i D0) g.length = uniL L g := by
  rw [uniL_def]
  exact unionTo_congr _ fun t ht => by simp [List.getD, List.getElem?_map, List.getElem?_eq_getElem ht]
end Go.Proofs.Ytpfjmoodfodfhaa
