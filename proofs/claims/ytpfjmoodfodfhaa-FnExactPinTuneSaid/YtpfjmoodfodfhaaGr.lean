/- Tunes pinned greedily: what is laid down, by the reference and by the program. No conditions. -/
import Derived.Test.YtpfjmoodfodfhaaFr
import Derived.Test.YtpfjmoodfodfhaaNew
import Derived.Test.YtpfjmoodfodfhaaHeld2
import Derived.Test.YtpfjmoodfodfhaaBt
import Derived.Outline
namespace Go.Proofs.Ytpfjmoodfodfhaa
open Go.RowKit
set_option linter.unusedVariables false
set_option linter.unusedSimpArgs false

/-- a drum with one more pin -/
def setP (D : Nat → Nat) (k t : Nat) : Nat → Nat := upd D k (D k ||| 2 ^ t)
theorem setP_32 {D : Nat → Nat} (hD : D32 D) {t : Nat} (ht : t < 24) (k : Nat) : D32 (setP D k t) := by
  intro j
  have hb : 2 ^ t < 4294967296 := by have := pow24 ht; omega
  unfold setP upd
  split
  · exact or_lt32 (hD k) hb
  · exact hD j
theorem putRow_or (x b : Nat) : putRow x b true = x ||| b := by
  rw [putRow_t]
  apply Nat.eq_of_testBit_eq
  intro i
  rw [Nat.testBit_or, Nat.testBit_or, andn_testBit]
  cases x.testBit i <;> cases b.testBit i <;> rfl
theorem put_setP (D : Nat → Nat) (k t : Nat) : upd D k (putRow (D k) (2 ^ t) true) = setP D k t := by rw [putRow_or]; rfl
attribute [irreducible] setP
/-- the drum when i notes have been given their first free tracks -/
noncomputable def grD (m n : Nat) (P R A B : Nat → Int) : Nat → Nat → Nat
  | 0 => fun _ => 0
  | i + 1 => match frL m P R (grD m n P R A B i) (A i).toNat (B i) n with
    | [] => grD m n P R A B i
    | x :: _ => setP (grD m n P R A B i) (A i).toNat x.toNat
/-- how many notes have a track -/
noncomputable def grN (m n : Nat) (P R A B : Nat → Int) : Nat → Nat
  | 0 => 0
  | i + 1 => if grN m n P R A B i = i ∧ frL m P R (grD m n P R A B i) (A i).toNat (B i) n ≠ [] then i + 1 else grN m n P R A B i
section
variable {m n : Nat} {P R A B : Nat → Int} {i l : Nat}
theorem grD_zero : grD m n P R A B 0 = fun _ => 0 := rfl
theorem grD_succ {x : Int} {r : List Int} (h : frL m P R (grD m n P R A B i) (A i).toNat (B i) n = x :: r) : grD m n P R A B (i + 1) = setP (grD m n P R A B i) (A i).toNat x.toNat := by
  show (match frL m P R (grD m n P R A B i) (A i).toNat (B i) n with | [] => grD m n P R A B i | x :: _ => setP (grD m n P R A B i) (A i).toNat x.toNat) = _
  rw [h]
theorem grD_32 (hn : n ≤ 24) (i : Nat) : D32 (grD m n P R A B i) := by
  induction i with
  | zero => rw [grD_zero]; intro k; simp
  | succ i ih =>
    show D32 (match frL m P R (grD m n P R A B i) (A i).toNat (B i) n with | [] => grD m n P R A B i | x :: _ => setP (grD m n P R A B i) (A i).toNat x.toNat)
    cases h : frL m P R (grD m n P R A B i) (A i).toNat (B i) n with
    | nil => exact ih
    | cons x r =>
      obtain ⟨t, e, ht, _⟩ := frL_mem n x (by rw [h]; exact List.mem_cons_self)
      show D32 (setP _ _ x.toNat)
      rw [e, Int.toNat_natCast]
      exact setP_32 ih (by omega) _
theorem grN_zero : grN m n P R A B 0 = 0 := rfl
theorem grN_yes (h : grN m n P R A B i = i) {x : Int} {r : List Int} (h2 : frL m P R (grD m n P R A B i) (A i).toNat (B i) n = x :: r) : grN m n P R A B (i + 1) = i + 1 := if_pos ⟨h, by rw [h2]; simp⟩
theorem grN_no (h2 : frL m P R (grD m n P R A B i) (A i).toNat (B i) n = []) : grN m n P R A B (i + 1) = grN m n P R A B i := if_neg fun h => h.2 h2
theorem grN_le (i : Nat) : grN m n P R A B i ≤ i := by
  induction i with
  | zero => exact Nat.le_refl _
  | succ i ih =>
    by_cases h : grN m n P R A B i = i ∧ frL m P R (grD m n P R A B i) (A i).toNat (B i) n ≠ []
    · rw [show grN m n P R A B (i + 1) = i + 1 from if_pos h]; omega
    · rw [show grN m n P R A B (i + 1) = grN m n P R A B i from if_neg h]; omega
theorem grN_stays (h : grN m n P R A B (i + 1) = i) (d : Nat) : grN m n P R A B (i + 1 + d) = i := by
  induction d with
  | zero => exact h
  | succ d ih =>
    show (if grN m n P R A B (i + 1 + d) = i + 1 + d ∧ _ then _ else _) = _
    rw [if_neg (fun h2 => by rw [ih] at h2; omega)]
    exact ih
theorem grN_stop (hi : i < l) (h : grN m n P R A B i = i) (h2 : frL m P R (grD m n P R A B i) (A i).toNat (B i) n = []) : grN m n P R A B l = i := by
  have h3 := grN_stays (i := i) ((grN_no h2).trans h) (l - (i + 1))
  rwa [show i + 1 + (l - (i + 1)) = l by omega] at h3
end
attribute [irreducible] grD grN
/-- all blocks but one are as they were -/
def KeepX (g : Nat) (w V : World) : Prop := w.heap.size ≤ V.heap.size ∧ ∀ j, j ≠ g → j < w.heap.size → V.heap[j]? = w.heap[j]?
theorem KeepX.of {g : Nat} {w V : World} (h : Below w.heap.size w V) : KeepX g w V := ⟨h.size, fun j _ hj => h.block j hj⟩
theorem KeepX.trans {g : Nat} {w V U : World} (h : KeepX g w V) (h2 : KeepX g V U) : KeepX g w U := ⟨Nat.le_trans h.1 h2.1, fun j hj hl => (h2.2 j hj (Nat.lt_of_lt_of_le hl h.1)).trans (h.2 j hj hl)⟩
theorem KeepX.row {g : Nat} {w V : World} (h : KeepX g w V) {x : Nat} {o : Obj} (hx : w.heap[x]? = some o) (hne : x ≠ g) : V.heap[x]? = some o := (h.2 x hne (Array.getElem?_eq_some_iff.1 hx).1).trans hx
theorem KeepX.cell {g : Nat} {w V : World} (h : KeepX g w V) {p : Addr} {v : Value} (hc : w.cell? p = some v) (hp : p.block < w.heap.size) (hne : p.block ≠ g) : V.cell? p = some v := by
  have e := h.2 p.block hne hp
  unfold World.cell? at hc ⊢
  rw [e]; exact hc
end Go.Proofs.Ytpfjmoodfodfhaa
