/- FnLeastTurns: plain laws. No conditions. -/
import Derived.Test.YtlcfjeofphncgaaLp
import Derived.Outline
namespace Go.Proofs.Ytlcfjeofphncgaa
open Go.RowKit
set_option linter.unusedVariables false
set_option linter.unusedSimpArgs false

/-- a list has a number -/
theorem inL_mem {l : List Int} {i : Nat} : inL l i = true ↔ (i : Int) ∈ l := by
  rw [inL_iff]
  constructor
  · rintro ⟨k, hk, e⟩
    rw [List.getD, List.getElem?_eq_getElem hk] at e
    simp at e
    rw [← e]; exact List.getElem_mem hk
  · intro h
    obtain ⟨k, hk, e⟩ := List.getElem_of_mem h
    exact ⟨k, hk, by rw [List.getD, List.getElem?_eq_getElem hk]; simpa using e⟩
theorem okL_mem {n : Nat} {l : List Int} : okL n l ↔ ∀ x ∈ l, 0 ≤ x ∧ x ≤ (n : Int) - 1 := by
  constructor
  · intro h x hx
    obtain ⟨k, hk, e⟩ := List.getElem_of_mem hx
    have := h k hk
    rw [List.getD, List.getElem?_eq_getElem hk] at this
    simp at this
    rw [← e]; exact this
  · intro h i hi
    rw [List.getD, List.getElem?_eq_getElem hi]
    exact h _ (List.getElem_mem hi)
/-- all orders that go on from l are tried: none is better than the one that is kept, which is one of them -/
def loT (C : List Int → Int) (n r : Nat) (l : List Int) (st res : List Int × Int) : Prop :=
  (0 ≤ st.2 → 0 ≤ res.2 ∧ res.2 ≤ st.2) ∧ (∀ t : List Int, t.length = r → okL n (l ++ t) → (l ++ t).Nodup → 0 ≤ res.2 ∧ res.2 ≤ C (l ++ t)) ∧
    (res = st ∨ ∃ t : List Int, t.length = r ∧ okL n (l ++ t) ∧ (l ++ t).Nodup ∧ res = (l ++ t, C (l ++ t)))
theorem loB_best {C : List Int → Int} {n : Nat} (hC : ∀ l, okL n l → l.Nodup → 0 ≤ C l) (r : Nat) : ∀ (l : List Int) (st : List Int × Int), okL n l → l.Nodup → loT C n r l st (loB C n r l st) := by
  induction r with
  | zero =>
    intro l st hl hnd
    rw [loB_zero]
    have hc := hC l hl hnd
    by_cases h : st.2 < 0 ∨ C l < st.2
    · rw [loU_yes h]
      refine ⟨fun h0 => ⟨hc, ?_⟩, fun t ht _ _ => ?_, .inr ⟨[], rfl, by simpa using hl, by simpa using hnd, by simp⟩⟩
      · show C l ≤ _; omega
      · have : t = [] := List.eq_nil_of_length_eq_zero ht
        subst this
        rw [List.append_nil]; exact ⟨hc, Int.le_refl _⟩
    · rw [loU_no h]
      refine ⟨fun h0 => ⟨h0, Int.le_refl _⟩, fun t ht _ _ => ?_, .inl rfl⟩
      have : t = [] := List.eq_nil_of_length_eq_zero ht
      subst this
      rw [List.append_nil]; omega
  | succ r ih =>
    intro l st hl hnd
    rw [loB_succ]
    have key : ∀ j, j ≤ n → (0 ≤ st.2 → 0 ≤ (loF C n r l j st).2 ∧ (loF C n r l j st).2 ≤ st.2) ∧
        (∀ (x : Nat) (t : List Int), x < j → t.length = r → okL n (l ++ (x : Int) :: t) → (l ++ (x : Int) :: t).Nodup → 0 ≤ (loF C n r l j st).2 ∧ (loF C n r l j st).2 ≤ C (l ++ (x : Int) :: t)) ∧
        (loF C n r l j st = st ∨ ∃ t : List Int, t.length = r + 1 ∧ okL n (l ++ t) ∧ (l ++ t).Nodup ∧ loF C n r l j st = (l ++ t, C (l ++ t))) := by
      intro j
      induction j with
      | zero => intro _; rw [loF_zero]; exact ⟨fun h => ⟨h, Int.le_refl _⟩, fun x t hx => absurd hx (Nat.not_lt_zero _), .inl rfl⟩
      | succ j ihj =>
        intro hj
        obtain ⟨a1, a2, a3⟩ := ihj (by omega)
        cases hin : inL l j
        · rw [loF_out hin]
          have hjm : ¬ (j : Int) ∈ l := fun h => by rw [inL_mem.2 h] at hin; cases hin
          obtain ⟨b1, b2, b3⟩ := ih (l ++ [(j : Int)]) (loF C n r l j st) (okL_app hl (by omega)) (by
            rw [List.nodup_append]
            exact ⟨hnd, by simp, fun a ha b hb => by simp at hb; subst hb; intro e; exact hjm (e ▸ ha)⟩)
          refine ⟨fun h0 => ?_, fun x t hx ht hok hnd2 => ?_, ?_⟩
          · have := a1 h0; have := b1 this.1; omega
          · by_cases e : x = j
            · subst e
              have := b2 t ht (by rw [List.append_assoc]; exact hok) (by rw [List.append_assoc]; exact hnd2)
              rwa [List.append_assoc] at this
            · have h1 := a2 x t (by omega) ht hok hnd2
              have := b1 h1.1
              omega
          · rcases b3 with b3 | ⟨t, ht, hok, hnd2, e⟩
            · rw [b3]; exact a3
            · exact .inr ⟨(j : Int) :: t, by simp [ht], by rw [List.append_assoc] at hok; exact hok, by rw [List.append_assoc] at hnd2; exact hnd2, by rw [List.append_assoc] at e; exact e⟩
        · rw [loF_in hin]
          refine ⟨a1, fun x t hx ht hok hnd2 => ?_, a3⟩
          by_cases e : x = j
          · subst e
            have h1 := inL_mem.1 hin
            rw [List.nodup_append] at hnd2
            exact absurd rfl (hnd2.2.2 _ h1 _ List.mem_cons_self)
          · exact a2 x t (by omega) ht hok hnd2
    obtain ⟨a1, a2, a3⟩ := key n (Nat.le_refl _)
    refine ⟨a1, fun t ht hok hnd2 => ?_, a3⟩
    cases t with
    | nil => simp at ht
    | cons x t =>
      have hx := okL_mem.1 hok x (by simp)
      obtain ⟨y, rfl⟩ : ∃ y : Nat, x = y := ⟨x.toNat, by omega⟩
      exact a2 y t (by omega) (by simpa using ht) hok hnd2
/-- a list, turned -/
def rotI (l : List Int) (j : Nat) : List Int := (List.range l.length).map fun k => l.getD ((k + j) % l.length) 0
theorem rotI_len (l : List Int) (j : Nat) : (rotI l j).length = l.length := by simp [rotI]
theorem rotI_get (l : List Int) (j : Nat) {k : Nat} (h : k < l.length) : (rotI l j).getD k 0 = l.getD ((k + j) % l.length) 0 := by simp [rotI, List.getD, h]
theorem rotI_ok {n : Nat} {l : List Int} (j : Nat) (h : okL n l) : okL n (rotI l j) := by
  intro i hi
  rw [rotI_len] at hi
  rw [rotI_get l j hi]
  exact h _ (Nat.mod_lt _ (by omega))
theorem rotI_nodup {l : List Int} {j : Nat} (hj : j < l.length) (h : l.Nodup) : (rotI l j).Nodup := by
  unfold rotI
  rw [List.Nodup, List.pairwise_map, List.pairwise_iff_getElem]
  intro a b ha hb hab
  simp only [List.length_range] at ha hb
  simp only [List.getElem_range]
  intro e
  have hm1 : (a + j) % l.length < l.length := Nat.mod_lt _ (by omega)
  have hm2 : (b + j) % l.length < l.length := Nat.mod_lt _ (by omega)
  rw [List.getD, List.getD, List.getElem?_eq_getElem hm1, List.getElem?_eq_getElem hm2] at e
  simp only [Option.getD_some] at e
  have e2 : (a + j) % l.length = (b + j) % l.length := by
    rw [List.Nodup, List.pairwise_iff_getElem] at h
    rcases Nat.lt_trichotomy ((a + j) % l.length) ((b + j) % l.length) with h1 | h1 | h1
    · exact absurd e (h _ _ hm1 hm2 h1)
    · exact h1
    · exact absurd e.symm (h _ _ hm2 hm1 h1)
  by_cases c1 : a + j < l.length <;> by_cases c2 : b + j < l.length
  · rw [Nat.mod_eq_of_lt c1, Nat.mod_eq_of_lt c2] at e2; omega
  · rw [Nat.mod_eq_of_lt c1, Nat.mod_eq_sub_mod (by omega), Nat.mod_eq_of_lt (by omega)] at e2; omega
  · omega
  · rw [Nat.mod_eq_sub_mod (by omega), Nat.mod_eq_of_lt (by omega), Nat.mod_eq_sub_mod (a := b + j) (by omega), Nat.mod_eq_of_lt (a := b + j - l.length) (by omega)] at e2; omega
theorem rotI_zero (l : List Int) : rotI l 0 = l := by
  apply List.ext_getElem
  · exact rotI_len l 0
  · intro k h1 h2
    have := rotI_get l 0 h2
    rw [Nat.add_zero, Nat.mod_eq_of_lt h2, List.getD, List.getElem?_eq_getElem h1, List.getD, List.getElem?_eq_getElem h2] at this
    simpa using this
theorem range_nodupI (m : Nat) : ((List.range m).map fun i : Nat => (i : Int)).Nodup := by
  rw [List.Nodup, List.pairwise_map]
  exact List.nodup_range.imp fun h e => h (by omega)
/-- the best order: all indices, once; no order costs less -/
theorem loB_all {C : List Int → Int} {m : Nat} (hC : ∀ l, okL m l → l.Nodup → 0 ≤ C l) : let res := loB C m m [] ([], -1); res.1.length = m ∧ okL m res.1 ∧ res.1.Nodup ∧ res.2 = C res.1 ∧ 0 ≤ res.2 ∧ ∀ l, l.length = m → okL m l → l.Nodup → res.2 ≤ C l := by
  intro res
  obtain ⟨_, b2, b3⟩ := loB_best hC m [] ([], -1) (okL_nil m) (by simp)
  have hr := b2 ((List.range m).map fun i : Nat => (i : Int)) (by simp) (okL_mem.2 fun x hx => by simp at hx; obtain ⟨a, ha, rfl⟩ := hx; omega) (by simpa using range_nodupI m)
  rcases b3 with b3 | ⟨t, ht, hok, hnd, e⟩
  · have := hr.1; rw [b3] at this; exact absurd this (by decide)
  · have e1 : res = (t, C t) := by simpa using e
    simp only [List.nil_append] at hok hnd
    rw [e1]
    refine ⟨ht, hok, hnd, rfl, hC t hok hnd, fun l hl h1 h2 => ?_⟩
    have := (b2 l hl h1 h2).2
    rw [List.nil_append] at this
    have e2 : (loB C m m [] ([], -1)).2 = C t := by show res.2 = _; rw [e1]
    rw [← e2]; exact this
theorem plTo_congr (s : Int) (F S : Nat → Int) {Z Y : Nat → Int} : ∀ m, (∀ k, k < m → Z k = Y k) → plTo s F S Z m = plTo s F S Y m := by
  intro m
  induction m with
  | zero => intro _; rw [plTo_zero, plTo_zero]
  | succ m ih => intro h; rw [plTo_succ, plTo_succ, ih fun k hk => h k (by omega), h m (by omega)]
/-- how far the drum turns for the first k quarters -/
def dyT (s : Int) (F S O : Nat → Int) (k : Nat) : Int := plTo s F S (fun i => (sdL O k).getD i 0) (sdL O k).length
theorem dyT_def (s : Int) (F S O : Nat → Int) (k : Nat) : dyT s F S O k = plTo s F S (fun i => (sdL O k).getD i 0) (sdL O k).length := rfl
theorem dyT_zero (s : Int) (F S O : Nat → Int) : dyT s F S O 0 = 0 := by unfold dyT; rw [sdL_zero]; exact plTo_zero _ _ _ _
theorem dyT_no {s : Int} {F S O : Nat → Int} {k : Nat} (h : ¬ 0 ≤ O k) : dyT s F S O (k + 1) = dyT s F S O k := by unfold dyT; rw [sdL_no h]
theorem dyT_yes {s : Int} {F S O : Nat → Int} {k x : Nat} (h : O k = x) : dyT s F S O (k + 1) = dyT s F S O k + (stT s (F x) (dyT s F S O k % s) + S x) := by
  unfold dyT
  rw [sdL_yes (by omega), List.length_append, List.length_singleton, plTo_succ]
  have e : plTo s F S (fun i => (sdL O k ++ [O k]).getD i 0) (sdL O k).length = plTo s F S (fun i => (sdL O k).getD i 0) (sdL O k).length := plTo_congr s F S _ fun i hi => by simp [List.getD, List.getElem?_append_left hi]
  have e2 : (sdL O k ++ [O k]).getD (sdL O k).length 0 = (x : Int) := by simp [List.getD, h]
  rw [e, e2, Int.toNat_natCast]
  omega
theorem dyT_mod {s : Int} {F S O : Nat → Int} {k x : Nat} (hs : 0 < s) (h : O k = x) : dyT s F S O (k + 1) % s = (F x + S x) % s := by
  rw [dyT_yes h, ← Int.add_assoc]; exact pl_mod _ _ _ _ hs
attribute [irreducible] dyT
/-- how far the drum turns for the first k sections of a turned order -/
def rtT (s : Int) (F S : Nat → Int) (l : List Int) (j k : Nat) : Int := plTo s F S (fun i => l.getD ((i + j) % l.length) 0) k
theorem rtT_def (s : Int) (F S : Nat → Int) (l : List Int) (j k : Nat) : rtT s F S l j k = plTo s F S (fun i => l.getD ((i + j) % l.length) 0) k := rfl
theorem rtT_zero (s : Int) (F S : Nat → Int) (l : List Int) (j : Nat) : rtT s F S l j 0 = 0 := plTo_zero _ _ _ _
theorem rtT_succ {s : Int} {F S : Nat → Int} {l : List Int} {j k x : Nat} (h : l.getD ((k + j) % l.length) 0 = x) : rtT s F S l j (k + 1) = rtT s F S l j k + (stT s (F x) (rtT s F S l j k % s) + S x) := by
  unfold rtT
  rw [plTo_succ]
  show _ + stT s (F (l.getD ((k + j) % l.length) 0).toNat) _ + S (l.getD ((k + j) % l.length) 0).toNat = _
  rw [h, Int.toNat_natCast]
  omega
theorem rtT_mod {s : Int} {F S : Nat → Int} {l : List Int} {j k x : Nat} (hs : 0 < s) (h : l.getD ((k + j) % l.length) 0 = x) : rtT s F S l j (k + 1) % s = (F x + S x) % s := by
  rw [rtT_succ h, ← Int.add_assoc]; exact pl_mod _ _ _ _ hs
theorem rtT_all (s : Int) (F S : Nat → Int) (l : List Int) (j : Nat) : rtT s F S l j l.length = loC s F S (rotI l j) := by
  rw [loC_def, rotI_len]
  exact plTo_congr s F S _ fun k hk => (rotI_get l j hk).symm
attribute [irreducible] rtT rotI
section
variable {s : Int} {n : Nat} {P R : Nat → Int} {m : Nat} {F S O : Nat → Int}
theorem lo_facts (h : vProg s n P R m F S O = true) (h6 : m ≤ 6) : loCode s n P R m F S O = 0 ∧ (loV s n P R m F S O).length = m ∧ okL m (loV s n P R m F S O) ∧
    (∀ j, j < m → loX s n P R m F S O ≤ rtT s F S (loV s n P R m F S O) j m) ∧ loX s n P R m F S O = rtT s F S (loV s n P R m F S O) 0 m := by
  obtain ⟨e1, e2, e3⟩ := lo_yes h h6
  obtain ⟨hs2, hm2, hsec, hord⟩ := vProg_facts h
  obtain ⟨a1, a2, a3, a4, a5, a6⟩ := loB_all (m := m) (C := loC s F S) fun l hl hnd => by
    have h1 := plTo_bound (F := F) (S := S) (Z := fun i => l.getD i 0) hs2 hsec l.length hl
    rw [← loC_def] at h1
    exact h1.1
  rw [← e1] at a1 a2 a3 a4
  rw [← e2] at a4 a5 a6
  have hz := rtT_all s F S (loV s n P R m F S O)
  rw [a1] at hz
  refine ⟨e3, a1, a2, fun j hj => ?_, ?_⟩
  · rw [hz j]
    exact a6 _ (by rw [rotI_len, a1]) (rotI_ok j a2) (rotI_nodup (by omega) a3)
  · rw [hz 0, rotI_zero, a4]
theorem sd_dyT (h : vProg s n P R m F S O = true) : sdVal s n P R m F S O = dyT s F S O 48 ∧ sdCode s n P R m F S O = 0 := by
  have := sd_yes h
  unfold dyT
  exact this
end
end Go.Proofs.Ytlcfjeofphncgaa
