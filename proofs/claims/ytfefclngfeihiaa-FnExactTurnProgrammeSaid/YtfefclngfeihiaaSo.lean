/- Notes in their order, equal ones made one: plain laws; a row of one's own, taken apart. No conditions. -/
import Derived.Test.YtfefclngfeihiaaOwnL
import Derived.Test.YtfefclngfeihiaaTn
import Derived.Test.YtfefclngfeihiaaLs
import Derived.Lib.SlicesCompact
import Derived.Sort.Statements
import Derived.Outline
namespace Go.Proofs.Ytfefclngfeihiaa
open Go.RowKit
set_option linter.unusedVariables false
set_option linter.unusedSimpArgs false

/-! A row of one's own, taken apart. No conditions. -/
section
variable {α : Type} {T sz : Nat} {enc : α → List Value} (henc : ∀ x, (enc x).length = sz) {w : World} {base g n cap : Nat} {l : List α}
theorem OwnL.row (_henc : ∀ x, (enc x).length = sz) (h : OwnL T sz enc w base (.slice (some ⟨g, 0, none⟩) n cap) l) : n = l.length ∧ base ≤ g ∧ ∃ cur, w.heap[g]? = some (.cells cur T (0, 0)) ∧ n ≤ cap ∧ cap ≤ maxLen ∧ cur.size = cap * sz ∧ cur.toList.take (n * sz) = l.flatMap enc := by
  obtain ⟨hl, ⟨e, _⟩ | ⟨g', cap', cur, e, hg, hb, hc, hm, hs, ht⟩⟩ := h
  · cases e
  · injection e with e1 e2 e3
    injection e1 with e1
    injection e1 with e1
    subst e1; subst e2; subst e3
    exact ⟨rfl, hg, cur, hb, hc, hm, hs, ht⟩
include henc in
theorem OwnL.ofRow {cur : Array Value} (hn : n = l.length) (hg : base ≤ g) (hb : w.heap[g]? = some (.cells cur T (0, 0))) (hc : n ≤ cap) (hm : cap ≤ maxLen) (hs : cur.size = cap * sz) (ht : cur.toList.take (n * sz) = l.flatMap enc) : OwnL T sz enc w base (.slice (some ⟨g, 0, none⟩) n cap) l := by
  subst hn
  exact ⟨flat_len enc sz henc l, .inr ⟨g, cap, cur, rfl, hg, hb, hc, hm, hs, ht⟩⟩
end

/-! Notes in their order, equal ones made one: plain laws. No conditions. -/
theorem getD_at {l : List (Int × Int)} {i : Nat} (h : i < l.length) : l.getD i (0, 0) = l[i] := by simp [List.getD, h]
/-- a note before another -/
def bfN (x y : Int × Int) : Bool := befB x.1 x.2 y.1 y.2
theorem bfN_iff {x y : Int × Int} : bfN x y = true ↔ x.1 < y.1 ∨ x.1 = y.1 ∧ x.2 < y.2 := befB_iff
theorem bfN_irrefl (x : Int × Int) : bfN x x = false := by
  cases h : bfN x x
  · rfl
  · rcases bfN_iff.1 h with h | h <;> omega
theorem bfN_trans {x y z : Int × Int} (h : bfN x y = true) (h2 : bfN y z = true) : bfN x z = true := by
  rw [bfN_iff] at *; omega
theorem bfN_total {x y : Int × Int} (h : bfN x y = false) (h2 : bfN y x = false) : x = y := by
  have h3 : ¬ bfN x y = true := by rw [h]; simp
  have h4 : ¬ bfN y x = true := by rw [h2]; simp
  rw [bfN_iff] at h3 h4
  exact Prod.ext (by omega) (by omega)
attribute [irreducible] bfN
/-- strictly in order -/
def StrN (l : List (Int × Int)) : Prop := l.Pairwise fun x y => bfN x y = true
theorem StrN.uniq : ∀ {a b : List (Int × Int)}, StrN a → StrN b → (∀ z, z ∈ a ↔ z ∈ b) → a = b := by
  intro a
  induction a with
  | nil =>
    intro b _ _ h
    cases b with
    | nil => rfl
    | cons y b => exact absurd ((h y).2 List.mem_cons_self) List.not_mem_nil
  | cons x a ih =>
    intro b ha hb h
    cases b with
    | nil => exact absurd ((h x).1 List.mem_cons_self) List.not_mem_nil
    | cons y b =>
      have ha' := List.pairwise_cons.1 ha
      have hb' := List.pairwise_cons.1 hb
      have hxy : x = y := by
        rcases List.mem_cons.1 ((h x).1 List.mem_cons_self) with e | e
        · exact e
        · rcases List.mem_cons.1 ((h y).2 List.mem_cons_self) with e2 | e2
          · exact e2.symm
          · have := bfN_trans (hb'.1 x e) (ha'.1 y e2)
            rw [bfN_irrefl] at this; cases this
      subst hxy
      refine congrArg (x :: ·) (ih ha'.2 hb'.2 fun z => ?_)
      constructor
      · intro hz
        rcases List.mem_cons.1 ((h z).1 (List.mem_cons_of_mem _ hz)) with e | e
        · subst e; have := ha'.1 z hz; rw [bfN_irrefl] at this; cases this
        · exact e
      · intro hz
        rcases List.mem_cons.1 ((h z).2 (List.mem_cons_of_mem _ hz)) with e | e
        · subst e; have := hb'.1 z hz; rw [bfN_irrefl] at this; cases this
        · exact e
/-- a note is put in its place -/
def insN (x : Int × Int) : List (Int × Int) → List (Int × Int)
  | [] => [x]
  | y :: l => if bfN y x = true then y :: insN x l else if y = x then y :: l else x :: y :: l
theorem insN_mem (x z : Int × Int) : ∀ l, z ∈ insN x l ↔ z = x ∨ z ∈ l := by
  intro l
  induction l with
  | nil => simp [insN]
  | cons y l ih =>
    rw [insN]
    split
    · rw [List.mem_cons, ih, List.mem_cons]
      constructor
      · rintro (h | h | h)
        · exact .inr (.inl h)
        · exact .inl h
        · exact .inr (.inr h)
      · rintro (h | h | h)
        · exact .inr (.inl h)
        · exact .inl h
        · exact .inr (.inr h)
    · split
      · rename_i e
        subst e
        rw [List.mem_cons]
        constructor
        · exact .inr
        · rintro (h | h)
          · exact .inl h
          · exact h
      · rw [List.mem_cons]
theorem insN_str (x : Int × Int) : ∀ l, StrN l → StrN (insN x l) := by
  intro l
  induction l with
  | nil => intro _; exact List.pairwise_singleton _ _
  | cons y l ih =>
    intro h
    have h' := List.pairwise_cons.1 h
    rw [insN]
    split
    · rename_i hb
      refine List.pairwise_cons.2 ⟨fun z hz => ?_, ih h'.2⟩
      rcases (insN_mem x z l).1 hz with e | e
      · subst e; exact hb
      · exact h'.1 z e
    · rename_i hb
      split
      · exact h
      · rename_i hne
        have hxy : bfN x y = true := by
          cases hx : bfN x y
          · exact absurd (bfN_total (by simpa using hb) hx) hne
          · rfl
        refine List.pairwise_cons.2 ⟨fun z hz => ?_, h⟩
        rcases List.mem_cons.1 hz with e | e
        · subst e; exact hxy
        · exact bfN_trans hxy (h'.1 z e)
/-- where a note goes: behind those that come before it -/
theorem insN_at (x : Int × Int) : ∀ (l : List (Int × Int)) (k : Nat), k ≤ l.length → (∀ j, j < k → bfN (l.getD j (0, 0)) x = true) → (k < l.length → bfN (l.getD k (0, 0)) x = false) →
    insN x l = if k < l.length ∧ l.getD k (0, 0) = x then l else l.take k ++ [x] ++ l.drop k := by
  intro l
  induction l with
  | nil =>
    intro k hk _ _
    have : k = 0 := by simpa using hk
    subst this
    rw [if_neg (by simp)]
    rfl
  | cons y l ih =>
    intro k hk hb hn
    cases k with
    | zero =>
      have h0 : bfN y x = false := by have := hn (by simp); simpa using this
      rw [insN, h0]
      by_cases e : y = x
      · rw [if_neg (by simp), if_pos e, if_pos ⟨by simp, by simpa using e⟩]
      · rw [if_neg (by simp), if_neg e, if_neg fun h => e (by simpa using h.2)]
        rfl
    | succ k =>
      have h0 : bfN y x = true := by have := hb 0 (by omega); simpa using this
      have hk' : k ≤ l.length := by simpa using hk
      rw [insN, if_pos h0, ih k hk' (fun j hj => by have := hb (j + 1) (by omega); simpa using this) (fun h => by have := hn (by simpa using h); simpa using this)]
      by_cases e : k < l.length ∧ l.getD k (0, 0) = x
      · rw [if_pos e, if_pos ⟨by simpa using e.1, by simpa using e.2⟩]
      · rw [if_neg e, if_neg fun h => e ⟨by simpa using h.1, by simpa using h.2⟩]
        rfl
/-- the notes in their order, of the first j of a list -/
def srN (L : List (Int × Int)) : Nat → List (Int × Int)
  | 0 => []
  | j + 1 => insN (L.getD j (0, 0)) (srN L j)
/-- the notes of a list in their order, equal ones being made one -/
def srtN (L : List (Int × Int)) : List (Int × Int) := srN L L.length
theorem srN_zero (L : List (Int × Int)) : srN L 0 = [] := rfl
theorem srN_succ (L : List (Int × Int)) (j : Nat) : srN L (j + 1) = insN (L.getD j (0, 0)) (srN L j) := rfl
theorem srN_str (L : List (Int × Int)) (j : Nat) : StrN (srN L j) := by
  induction j with
  | zero => exact List.Pairwise.nil
  | succ j ih => exact insN_str _ _ ih
theorem insN_len (x : Int × Int) (l : List (Int × Int)) : (insN x l).length ≤ l.length + 1 := by
  induction l with
  | nil => simp [insN]
  | cons y l ih =>
    rw [insN]
    split
    · simp only [List.length_cons]; omega
    · split <;> simp only [List.length_cons] <;> omega
theorem srN_len (L : List (Int × Int)) (j : Nat) : (srN L j).length ≤ j := by
  induction j with
  | zero => simp [srN]
  | succ j ih => have := insN_len (L.getD j (0, 0)) (srN L j); rw [srN_succ]; omega
theorem srN_mem (L : List (Int × Int)) (z : Int × Int) (j : Nat) : z ∈ srN L j ↔ ∃ i, i < j ∧ z = L.getD i (0, 0) := by
  induction j with
  | zero => simp [srN]
  | succ j ih =>
    rw [srN_succ, insN_mem, ih]
    constructor
    · rintro (h | ⟨i, hi, h⟩)
      · exact ⟨j, by omega, h⟩
      · exact ⟨i, by omega, h⟩
    · rintro ⟨i, hi, h⟩
      by_cases e : i = j
      · subst e; exact .inl h
      · exact .inr ⟨i, by omega, h⟩
theorem srtN_def (L : List (Int × Int)) : srtN L = srN L L.length := rfl
theorem srtN_str (L : List (Int × Int)) : StrN (srtN L) := srN_str L _
theorem srtN_mem (L : List (Int × Int)) (z : Int × Int) : z ∈ srtN L ↔ z ∈ L := by
  unfold srtN
  rw [srN_mem]
  constructor
  · rintro ⟨i, hi, rfl⟩
    rw [getD_at hi]
    exact List.getElem_mem hi
  · intro h
    obtain ⟨i, hi, rfl⟩ := List.mem_iff_getElem.1 h
    exact ⟨i, hi, (getD_at hi).symm⟩
theorem srtN_len (L : List (Int × Int)) : (srtN L).length ≤ L.length := srN_len L _
attribute [irreducible] srN srtN
theorem srtN_uniq {L l : List (Int × Int)} (h : StrN l) (hm : ∀ z, z ∈ l ↔ z ∈ L) : srtN L = l := StrN.uniq (srtN_str L) h fun z => (srtN_mem L z).trans (hm z).symm
theorem srtN_congr {L M : List (Int × Int)} (h : ∀ z, z ∈ L ↔ z ∈ M) : srtN L = srtN M := srtN_uniq (srtN_str M) fun z => (srtN_mem M z).trans (h z).symm
theorem srtN_self {L : List (Int × Int)} (h : StrN L) : srtN L = L := srtN_uniq h fun _ => Iff.rfl
/-- what is sorted and made compact -/
theorem compact_srtN (L : List (Int × Int)) (d : Array (Int × Int)) (hp : d.toList.Perm L) (hs : ∀ i j, i < j → j < d.size → bfN d[j]! d[i]! = false) : Lib.compactUpTo d d.size = srtN L := by
  refine (srtN_uniq ?_ fun z => ?_).symm
  · unfold Lib.compactUpTo
    unfold StrN
    rw [List.pairwise_map]
    refine List.Pairwise.imp_of_mem ?_ (List.Pairwise.filter _ (List.pairwise_lt_range (n := d.size)))
    intro i j hi hj hij
    have hj1 := List.mem_filter.1 hj
    have hjd : j < d.size := List.mem_range.1 hj1.1
    have hk : d[j]! ≠ d[j - 1]! := by
      have := hj1.2
      unfold Lib.keeps at this
      rcases (of_decide_eq_true this) with h | h
      · omega
      · exact h
    cases h : bfN d[i]! d[j]!
    · have h2 := hs i j hij hjd
      have e := bfN_total h h2
      -- then all between are one
      have h3 : bfN d[j]! d[j - 1]! = false := hs (j - 1) j (by omega) hjd
      have h4 : bfN d[j - 1]! d[i]! = false := by
        by_cases e2 : i = j - 1
        · rw [← e2]; exact bfN_irrefl _
        · exact hs i (j - 1) (by omega) (by omega)
      rw [e] at h4
      exact absurd (bfN_total h3 h4) hk
    · rfl
  · unfold Lib.compactUpTo
    rw [List.mem_map, ← hp.mem_iff]
    constructor
    · rintro ⟨i, hi, rfl⟩
      have hid : i < d.size := List.mem_range.1 (List.mem_filter.1 hi).1
      rw [getElem!_pos d i hid]
      exact Array.mem_toList_iff.2 (Array.getElem_mem hid)
    · intro hz
      obtain ⟨i, hi, rfl⟩ := List.mem_iff_getElem.1 hz
      have hid : i < d.size := by simpa using hi
      have : ∀ i, i < d.size → ∃ k, k ∈ (List.range d.size).filter (Lib.keeps d) ∧ d[k]! = d[i]! := by
        intro i
        induction i with
        | zero => intro h; exact ⟨0, List.mem_filter.2 ⟨List.mem_range.2 h, by simp [Lib.keeps]⟩, rfl⟩
        | succ i ih =>
          intro h
          by_cases e : d[i + 1]! = d[i]!
          · obtain ⟨k, hk, he⟩ := ih (by omega)
            exact ⟨k, hk, by rw [he, e]⟩
          · exact ⟨i + 1, List.mem_filter.2 ⟨List.mem_range.2 h, by unfold Lib.keeps; exact decide_eq_true (.inr (by simpa using e))⟩, rfl⟩
      obtain ⟨k, hk, he⟩ := this i hid
      exact ⟨k, hk, by rw [he, getElem!_pos d i hid]; simp⟩
/-- an order for the library -/
theorem bfN_swo : Go.Sort.SWO bfN where
  irrefl := bfN_irrefl
  trans := fun x y z => bfN_trans
  ntrans := fun x y z h h2 => by
    have h3 : ¬ bfN x y = true := by rw [h]; simp
    have h4 : ¬ bfN y z = true := by rw [h2]; simp
    cases h5 : bfN x z
    · rfl
    · rw [bfN_iff] at h3 h4 h5; omega
/-- a list of valid notes in their order is a tune if it is not too long -/
theorem vTune_str {l : List (Int × Int)} (h : StrN l) (hn : ∀ z ∈ l, noteB z.1 z.2 = true) : vTune l.length (fun i => (l.getD i (0, 0)).1) (fun i => (l.getD i (0, 0)).2) = decide ((l.length : Int) ≤ 120) := by
  refine vTune_good fun i hi => ?_
  have h0 : noteB (l.getD i (0, 0)).1 (l.getD i (0, 0)).2 = true := hn _ (by rw [getD_at hi]; exact List.getElem_mem hi)
  cases i with
  | zero => exact tbad_zero h0
  | succ i =>
    rw [tbad_bef (by omega) h0, Nat.add_sub_cancel]
    have := List.pairwise_iff_getElem.1 h i (i + 1) (by omega) hi (by omega)
    rw [getD_at hi, getD_at (show i < l.length by omega)]
    have e : bfN l[i] l[i + 1] = befB l[i].1 l[i].2 l[i + 1].1 l[i + 1].2 := by unfold bfN; rfl
    rw [← e, this]
    rfl
theorem StrN_of_tune {l : Nat} {A B : Nat → Int} (h : vTune l A B = true) : StrN ((List.range l).map fun i => (A i, B i)) := by
  have hf := (vTune_facts h).2.2
  unfold StrN
  rw [List.pairwise_map]
  refine List.Pairwise.imp_of_mem ?_ (List.pairwise_lt_range (n := l))
  intro i j hi hj hij
  have hjl := List.mem_range.1 hj
  have e : ∀ i j, bfN (A i, B i) (A j, B j) = befB (A i) (B i) (A j) (B j) := fun i j => by unfold bfN; rfl
  obtain ⟨d, rfl⟩ : ∃ d, j = i + 1 + d := ⟨j - i - 1, by omega⟩
  clear hij hj
  induction d with
  | zero => rw [e]; exact hf i (by omega)
  | succ d ih =>
    have h1 := ih (by omega)
    have h2 := hf (i + 1 + d) (by omega)
    rw [← e] at h2
    exact bfN_trans h1 h2
theorem plL_mem (p : Nat → Nat → Bool) (n : Nat) (hn : 0 < n) (z : Int × Int) (m : Nat) : z ∈ plL p n (m * n) ↔ ∃ k t : Nat, k < m ∧ t < n ∧ p k t = true ∧ z = ((k : Int), (t : Int)) := by
  have h : ∀ j, z ∈ plL p n j ↔ ∃ i, i < j ∧ p (i / n) (i % n) = true ∧ z = (((i / n : Nat) : Int), ((i % n : Nat) : Int)) := by
    intro j
    induction j with
    | zero => rw [plL_zero]; simp
    | succ j ih =>
      have e : plL p n (j + 1) = if p (j / n) (j % n) then plL p n j ++ [(((j / n : Nat) : Int), ((j % n : Nat) : Int))] else plL p n j := by rw [plL]
      rw [e]
      by_cases hp : p (j / n) (j % n) = true
      · rw [if_pos hp, List.mem_append, ih, List.mem_singleton]
        constructor
        · rintro (⟨i, hi, hq, rfl⟩ | rfl)
          · exact ⟨i, by omega, hq, rfl⟩
          · exact ⟨j, by omega, hp, rfl⟩
        · rintro ⟨i, hi, hq, rfl⟩
          by_cases e : i = j
          · subst e; exact .inr rfl
          · exact .inl ⟨i, by omega, hq, rfl⟩
      · rw [if_neg hp, ih]
        constructor
        · rintro ⟨i, hi, hq, rfl⟩; exact ⟨i, by omega, hq, rfl⟩
        · rintro ⟨i, hi, hq, rfl⟩
          by_cases e : i = j
          · subst e; exact absurd hq hp
          · exact ⟨i, by omega, hq, rfl⟩
  rw [h]
  constructor
  · rintro ⟨i, hi, hp, rfl⟩
    exact ⟨i / n, i % n, (Nat.div_lt_iff_lt_mul hn).2 hi, Nat.mod_lt _ hn, hp, rfl⟩
  · rintro ⟨k, t, hk, ht, hp, rfl⟩
    exact ⟨k * n + t, place_lt hk ht, by rw [(place_div ht).1, (place_div ht).2]; exact hp, by rw [(place_div ht).1, (place_div ht).2]⟩
end Go.Proofs.Ytfefclngfeihiaa
