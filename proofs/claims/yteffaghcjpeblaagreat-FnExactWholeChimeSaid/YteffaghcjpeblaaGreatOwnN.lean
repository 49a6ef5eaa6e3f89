/- Lists of notes in a slice of one's own. Printed by owngen.py. No conditions. -/
import Derived.Test.YteffaghcjpeblaaGreatOwnL
import Derived.Test.YteffaghcjpeblaaGreatNote
import Derived.Outline
namespace Go.Proofs.YteffaghcjpeblaaGreat
open Go.RowKit
set_option linter.unusedVariables false
set_option linter.unusedSimpArgs false

def encN (x : Int × Int) : List Value := [.int .i16 x.1, .int .i8 x.2]
theorem encN_len (x : Int × Int) : (encN x).length = 2 := rfl
theorem encN_one (x : Int × Int) : ∀ u ∈ encN x, u.oneCell' = true := by
  intro u hu; simp [encN] at hu; rcases hu with rfl | rfl <;> rfl
def OwnN (w : World) (base : Nat) (v : Value) (l : List (Int × Int)) : Prop := OwnL 75 2 encN w base v l
theorem infoN2 : (Tryz.prog.info? 75).map (fun i => (i.zero, i.size, i.bytes)) = some (some (.agg #[.int .i16 0, .int .i8 0]), 2, 4) := by kernel_rfl
section
variable {w w' : World} {base : Nat} {v : Value} {l : List (Int × Int)}
theorem kp_OwnN (h : OwnN w base v l) : Kp w (fun V => OwnN V base v l) := kp_OwnL h
theorem OwnN.lt (h : OwnN w base v l) : ∀ k, v.ownBlock = some k → base ≤ k ∧ k < w.heap.size := OwnL.lt h
theorem OwnN.mono {base' : Nat} (h : OwnN w base v l) (hb : base' ≤ base) : OwnN w base' v l := OwnL.mono h hb
theorem OwnN.below (h : OwnN w base v l) (hb : Below w.heap.size w w') : OwnN w' base v l := OwnL.below h hb
theorem OwnN.alloc (h : OwnN w base v l) (o : Obj) : OwnN (w.alloc o) base v l := OwnL.alloc h o
theorem OwnN.readAt {b : Option Addr} {n c : Nat} (h : OwnN w base (.slice b n c) l) : NoteAt w b l.length (fun i => (l.getD i (0, 0)).1) (fun i => (l.getD i (0, 0)).2) := fun hn => by
  obtain ⟨g, rfl, hg, hlt, hc⟩ := OwnL.cells encN_len h hn
  refine ⟨g, 0, rfl, hlt, fun i hi => ?_⟩
  have hl := List.getElem?_eq_getElem hi
  have e : l.getD i (0, 0) = l[i] := by simp [List.getD, hl]
  simp only [e, Nat.zero_add]
  exact ⟨hc i _ hl 0 (by omega), hc i _ hl 1 (by omega)⟩
theorem OwnN.at (h : OwnN w base v l) : ∃ b c, v = .slice b l.length c ∧ NoteAt w b l.length (fun i => (l.getD i (0, 0)).1) (fun i => (l.getD i (0, 0)).2) := by
  obtain ⟨b, c, rfl⟩ := OwnL.form h
  exact ⟨b, c, rfl, OwnN.readAt h⟩
end
section
variable {ops : Array Oper} {rest : List Oper} {o : Oper} {a : Act} {w : World} {Q : Exit → Act → World → Prop}
theorem append_notes (hgd : o.guard = none) (s x : Operand) (ho : o.op = .call { callee := .builtin .append, args := #[s, x], argTypes := #[38, 38] }) (base : Nat) (v : Value) (l : List (Int × Int)) (hs : a.eval s = v) (hown : OwnN w base v l)
    (ad : Addr) (m c : Nat) (ys : List (Int × Int)) (hm : ys.length = m) (hx : a.eval x = .slice (some ad) m c) (hc : ∀ j u, (ys.flatMap encN)[j]? = some u → w.cell? (ad.add j) = some u) (hl : l.length + m ≤ 10000000) (hbase : base ≤ w.heap.size)
    (h : ∀ v' w', OwnN w' base v' (l ++ ys) → Below base w w' → wpList Tryz.prog ops Q rest (a.put o.dst v') w') : wpList Tryz.prog ops Q (o :: rest) a w :=
  append_L Tryz.underlying38 infoN2 rfl (by decide) (by decide) encN_len encN_one hgd s x ho base v l hs hown ad m c ys hm hx hc hl hbase h
end
section
variable {md : Region.Mode} {ops : Array Oper} {Q : Exit → Act → World → Prop} {S : World → Prop} {fuel : Nat} {listed : Array Bool} {a : Act} {w : World}
theorem step_append_notes (i : Nat) {o : Oper} (hr : Region.ready md ops listed = [i]) (hoi : ops[i]? = some o) (hw : Region.wanted o (yielded ops a.tmps) = true)
    (s x : Operand) (ho : o.op = .call { callee := .builtin .append, args := #[s, x], argTypes := #[38, 38] }) (base : Nat) (v : Value) (l : List (Int × Int)) (hs : a.eval s = v) (hown : OwnN w base v l)
    (ad : Addr) (m c : Nat) (ys : List (Int × Int)) (hm : ys.length = m) (hx : a.eval x = .slice (some ad) m c) (hc : ∀ j u, (ys.flatMap encN)[j]? = some u → w.cell? (ad.add j) = some u) (hl : l.length + m ≤ 10000000) (hbase : base ≤ w.heap.size)
    (h : ∀ v' w', OwnN w' base v' (l ++ ys) → Below base w w' → S w' ∧ wpAnyH Tryz.prog md ops Q S fuel (listed.setIfInBounds i true) (a.put o.dst v') w') : wpAnyH Tryz.prog md ops Q S (fuel + 1) listed a w :=
  step_append_L Tryz.underlying38 infoN2 rfl (by decide) (by decide) encN_len encN_one i hr hoi hw s x ho base v l hs hown ad m c ys hm hx hc hl hbase h
end
section
variable {ops : Array Oper} {rest : List Oper} {o : Oper} {a : Act} {w : World} {Q : Exit → Act → World → Prop}
theorem append_notesT (hgd : o.guard = none) (s x : Operand) (ho : o.op = .call { callee := .builtin .append, args := #[s, x], argTypes := #[39, 39] }) (base : Nat) (v : Value) (l : List (Int × Int)) (hs : a.eval s = v) (hown : OwnN w base v l)
    (ad : Addr) (m c : Nat) (ys : List (Int × Int)) (hm : ys.length = m) (hx : a.eval x = .slice (some ad) m c) (hc : ∀ j u, (ys.flatMap encN)[j]? = some u → w.cell? (ad.add j) = some u) (hl : l.length + m ≤ 10000000) (hbase : base ≤ w.heap.size)
    (h : ∀ v' w', OwnN w' base v' (l ++ ys) → Below base w w' → wpList Tryz.prog ops Q rest (a.put o.dst v') w') : wpList Tryz.prog ops Q (o :: rest) a w :=
  append_L Tryz.underlying39 infoN2 rfl (by decide) (by decide) encN_len encN_one hgd s x ho base v l hs hown ad m c ys hm hx hc hl hbase h
end
section
variable {md : Region.Mode} {ops : Array Oper} {Q : Exit → Act → World → Prop} {S : World → Prop} {fuel : Nat} {listed : Array Bool} {a : Act} {w : World}
theorem step_append_notesT (i : Nat) {o : Oper} (hr : Region.ready md ops listed = [i]) (hoi : ops[i]? = some o) (hw : Region.wanted o (yielded ops a.tmps) = true)
    (s x : Operand) (ho : o.op = .call { callee := .builtin .append, args := #[s, x], argTypes := #[39, 39] }) (base : Nat) (v : Value) (l : List (Int × Int)) (hs : a.eval s = v) (hown : OwnN w base v l)
    (ad : Addr) (m c : Nat) (ys : List (Int × Int)) (hm : ys.length = m) (hx : a.eval x = .slice (some ad) m c) (hc : ∀ j u, (ys.flatMap encN)[j]? = some u → w.cell? (ad.add j) = some u) (hl : l.length + m ≤ 10000000) (hbase : base ≤ w.heap.size)
    (h : ∀ v' w', OwnN w' base v' (l ++ ys) → Below base w w' → S w' ∧ wpAnyH Tryz.prog md ops Q S fuel (listed.setIfInBounds i true) (a.put o.dst v') w') : wpAnyH Tryz.prog md ops Q S (fuel + 1) listed a w :=
  step_append_L Tryz.underlying39 infoN2 rfl (by decide) (by decide) encN_len encN_one i hr hoi hw s x ho base v l hs hown ad m c ys hm hx hc hl hbase h
end
end Go.Proofs.YteffaghcjpeblaaGreat
