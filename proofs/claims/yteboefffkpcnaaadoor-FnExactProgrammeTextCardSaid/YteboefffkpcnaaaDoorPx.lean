/- ProgrammeText: what is laid down; bytes of one's own. No conditions. -/
import Derived.Test.YteboefffkpcnaaaDoorQt
import Derived.Test.YteboefffkpcnaaaDoorSt
import Derived.Test.YteboefffkpcnaaaDoorIx
import Derived.Test.YteboefffkpcnaaaDoorOwn
import Derived.Lib.AppendStr
import Derived.Laws.IdiomStrings
import Derived.Outline
namespace Go.Proofs.YteboefffkpcnaaaDoor
open Go.RowKit
set_option linter.unusedVariables false
set_option linter.unusedSimpArgs false

/-- v owns these bytes -/
def OwnB (w : World) (base : Nat) (v : Value) (l : List UInt8) : Prop := w.ownsRow base 5 1 v l.length (Lib.byteCells l)
theorem infoU8 : (Tryd.prog.info? 5).map (fun i => (i.zero, i.size, i.bytes)) = some (some (.int .u8 0), 1, 1) := by kernel_rfl
section
variable {w w' : World} {base : Nat} {v : Value} {l : List UInt8}
theorem OwnB.below (h : OwnB w base v l) (hb : Below w.heap.size w w') : OwnB w' base v l := own_below h hb
theorem OwnB.mono {base' : Nat} (h : OwnB w base v l) (hb : base' ≤ base) : OwnB w base' v l := own_mono h hb
theorem OwnB.alloc (h : OwnB w base v l) (o : Obj) : OwnB (w.alloc o) base v l := World.ownsRow.alloc h o
theorem OwnB.nil (w : World) (base : Nat) (hb : base ≤ w.heap.size) : OwnB (w.alloc (.cells #[] 5)) base (.slice (some ⟨w.heap.size, 0, none⟩) 0 0) [] :=
  ⟨rfl, .inr ⟨w.heap.size, 0, #[], rfl, hb, heap_alloc_new w _, Nat.le_refl _, by unfold maxLen; omega, rfl, rfl⟩⟩
theorem OwnB.form (h : OwnB w base v l) : ∃ b c, v = .slice b l.length c := by
  rcases h.2 with ⟨rfl, h0⟩ | ⟨g, cap, cur, rfl, _⟩
  · exact ⟨none, 0, by rw [h0]⟩
  · exact ⟨_, _, rfl⟩
theorem OwnB.lt (h : OwnB w base v l) : ∀ k, v.ownBlock = some k → base ≤ k ∧ k < w.heap.size := World.ownsRow.lt h
theorem conv_B (h : OwnB w base v l) : (convert 79 9 v).run Tryd.prog w = .ok (.string ⟨l.toArray⟩) w := by
  rcases own_at h with ⟨rfl, h0⟩ | ⟨g, c, rfl, _, _, hc⟩
  · have : l = [] := List.eq_nil_of_length_eq_zero h0
    subst this
    have := run_convert_bytes_nil (P := Tryd.prog) w 79 5 Tryd.underlying79 Tryd.underlying5 0 0 9 Tryd.underlying9
    exact this
  · refine run_convert_bytes_back (P := Tryd.prog) w 79 9 5 ⟨g, 0, none⟩ c l Tryd.underlying79 Tryd.underlying5 Tryd.underlying9 fun j hj => ?_
    have h2 := hc j (by omega)
    rw [show (⟨g, 0, none⟩ : Addr).add j = ⟨g, j, none⟩ by unfold Addr.add; split <;> simp_all, h2]
    simp [Lib.byteCells, List.getElem?_eq_getElem hj]
end
section
variable {ops : Array Oper} {rest : List Oper} {o : Oper} {a : Act} {w : World} {Q : Exit → Act → World → Prop} {md : Region.Mode} {S : World → Prop} {fuel : Nat} {listed : Array Bool}
/-- a byte is appended -/
theorem append_byte (hgd : o.guard = none) (s x : Operand) (ho : o.op = .call { callee := .builtin .append, args := #[s, x], argTypes := #[79, 79] }) (base : Nat) (v : Value) (l : List UInt8) (hs : a.eval s = v) (hown : OwnB w base v l)
    (g : Nat) (y : UInt8) (hx : a.eval x = .slice (some ⟨g, 0, none⟩) 1 1) (hc : w.cell? ⟨g, 0, none⟩ = some (.int .u8 y.toNat)) (hl : l.length ≤ 1000000) (hbase : base ≤ w.heap.size)
    (h : ∀ v' w', OwnB w' base v' (l ++ [y]) → Below base w w' → wpList Tryd.prog ops Q rest (a.put o.dst v') w') : wpList Tryd.prog ops Q (o :: rest) a w := by
  obtain ⟨i0, hi, hz0, hz1, hz2⟩ := info_parts infoU8
  refine wpList_append_own w hgd s x 79 ho base 5 i0 (.int .u8 0) 1 1 Tryd.underlying79 hi hz0 hz1 hz2 rfl (by decide) v l.length _ hs hown ⟨g, 0, none⟩ 1 1 [.int .u8 y.toNat] hx rfl ?_ ?_ ?_ ?_ hbase ?_
  · intro j u hj
    match j, hj with
    | 0, hj => simp at hj; subst hj; simpa [Addr.add] using hc
  · intro u hu; simp at hu; subst hu; rfl
  · unfold maxLen; omega
  · omega
  · intro v' w' hown' hgrow _
    refine h v' w' ?_ (Below.grown (Below.refl _ _) hgrow hbase fun k hk => (World.ownsRow.lt hown k hk).1)
    unfold OwnB
    rw [List.length_append, show Lib.byteCells (l ++ [y]) = Lib.byteCells l ++ [.int .u8 y.toNat] by simp [Lib.byteCells]]
    exact hown'
/-- a text is appended, where the order of what is done is open -/
theorem step_append_str (i : Nat) (hr : Region.ready md ops listed = [i]) (hoi : ops[i]? = some o) (hw : Region.wanted o (yielded ops a.tmps) = true)
    (s x : Operand) (ho : o.op = .call { callee := .builtin .append, args := #[s, x], argTypes := #[79, 9] }) (base : Nat) (v : Value) (l : List UInt8) (hs : a.eval s = v) (hown : OwnB w base v l)
    (t : ByteArray) (hx : a.eval x = .string t) (hl : l.length + t.size ≤ 1000000) (hbase : base ≤ w.heap.size)
    (h : ∀ v' w', OwnB w' base v' (l ++ t.data.toList) → w.grownBy w' v.ownBlock → Below base w w' → S w' ∧ wpAnyH Tryd.prog md ops Q S fuel (listed.setIfInBounds i true) (a.put o.dst v') w') : wpAnyH Tryd.prog md ops Q S (fuel + 1) listed a w := by
  refine wpAnyH_ready hr (by simp) (AllReadyH.cons hoi (fun K hK => ?_) AllReadyH.nil)
  rw [if_pos hw]
  obtain ⟨i0, hi, hz0, hz1, hz2⟩ := info_parts infoU8
  obtain ⟨v', w', hrun, h2, h3, _⟩ := Lib.run_append_own_string (P := Tryd.prog) w base 79 9 o.type 5 i0 Tryd.underlying79 Tryd.underlying9 hi hz0 hz1 hz2 v l.length _ hown t (by unfold maxLen; omega) (by omega) hbase
  have h1 := h v' w' (by
    unfold OwnB
    rw [List.length_append, show Lib.byteCells (l ++ t.data.toList) = Lib.byteCells l ++ Lib.strCells t by rw [Lib.strCells_eq]; simp [Lib.byteCells], Array.length_toList]
    exact h2) h3 (Below.grown (Below.refl _ _) h3 hbase fun k hk => (World.ownsRow.lt hown k hk).1)
  unfold Oper.wp execOp
  simp only [ho, resolve, invoke, builtin, Sem.run_bind, Sem.run_pure, Result.andThen_ok, List.map_toArray, List.map_cons, List.map_nil, hs, hx, hrun]
  exact hK.out _ _ h1.1 fun _ => h1.2
end
/-! ### what is laid down -/
/-- the line of a section -/
def ln (f s : Nat) : ByteArray := dg f ++ ⟨#[32]⟩ ++ dg s ++ ⟨#[10]⟩
theorem ln_def (f s : Nat) : ln f s = dg f ++ ⟨#[32]⟩ ++ dg s ++ ⟨#[10]⟩ := rfl
theorem ln_sz {f s : Nat} (hf : f < 100) (hs : s < 100) : (ln f s).size ≤ 6 := by
  unfold ln
  have h1 := dg_sz hf
  have h2 := dg_sz hs
  simp only [ByteArray.size_append]
  show (dg f).size + 1 + (dg s).size + 1 ≤ 6
  omega
def tk (F S : Nat → Int) : Nat → ByteArray
  | 0 => ⟨#[]⟩
  | k + 1 => tk F S k ++ ln (F k).toNat (S k).toNat
theorem tk_zero (F S : Nat → Int) : tk F S 0 = ⟨#[]⟩ := rfl
theorem tk_succ (F S : Nat → Int) (k : Nat) : tk F S (k + 1) = tk F S k ++ ln (F k).toNat (S k).toNat := rfl
theorem tk_sz {F S : Nat → Int} {m : Nat} (h : ∀ k, k < m → 0 ≤ F k ∧ F k < 100 ∧ 0 ≤ S k ∧ S k < 100) : ∀ k, k ≤ m → (tk F S k).size ≤ 6 * k := by
  intro k
  induction k with
  | zero => intro _; rw [tk_zero]; exact Nat.le_refl _
  | succ k ih =>
    intro hk
    have h1 := ih (by omega)
    have h2 := h k (by omega)
    have h3 := ln_sz (f := (F k).toNat) (s := (S k).toNat) (by omega) (by omega)
    rw [tk_succ, ByteArray.size_append]; omega
/-- the byte of a quarter -/
def ob (x : Int) : UInt8 := if x < 0 then 46 else UInt8.ofNat (97 + x).toNat
theorem ob_no {x : Int} (h : x < 0) : ob x = 46 := if_pos h
theorem ob_yes {x : Int} (h : 0 ≤ x) (h2 : x ≤ 100) : ((ob x).toNat : Int) = 97 + x := by
  unfold ob
  rw [if_neg (by omega), UInt8.toNat_ofNat']
  omega
def od (O : Nat → Int) : Nat → List UInt8
  | 0 => []
  | j + 1 => od O j ++ [ob (O j)]
theorem od_zero (O : Nat → Int) : od O 0 = [] := rfl
theorem od_succ (O : Nat → Int) (j : Nat) : od O (j + 1) = od O j ++ [ob (O j)] := rfl
theorem od_len (O : Nat → Int) (j : Nat) : (od O j).length = j := by
  induction j with
  | zero => rfl
  | succ j ih => rw [od_succ, List.length_append, ih]; rfl
/-- the text of a programme -/
def ptx (s : Int) (n : Nat) (P R : Nat → Int) (m : Nat) (F S O : Nat → Int) : ByteArray := if vProg s n P R m F S O = true then tk F S m ++ ⟨(od O 48).toArray⟩ ++ ⟨#[10]⟩ else ⟨#[]⟩
section
variable {s : Int} {n : Nat} {P R : Nat → Int} {m : Nat} {F S O : Nat → Int}
theorem ptx_no (h : vProg s n P R m F S O = false) : ptx s n P R m F S O = ⟨#[]⟩ := if_neg (by rw [h]; simp)
theorem ptx_yes (h : vProg s n P R m F S O = true) : ptx s n P R m F S O = tk F S m ++ ⟨(od O 48).toArray⟩ ++ ⟨#[10]⟩ := if_pos h
theorem ptx_imp (t : ByteArray) (l : List UInt8) : (⟨(t.data.toList ++ l ++ [10]).toArray⟩ : ByteArray) = t ++ ⟨l.toArray⟩ ++ ⟨#[10]⟩ := by
  apply ByteArray.ext
  simp [ByteArray.data_append]
end
attribute [irreducible] ptx ln tk ob od OwnB
end Go.Proofs.YteboefffkpcnaaaDoor
