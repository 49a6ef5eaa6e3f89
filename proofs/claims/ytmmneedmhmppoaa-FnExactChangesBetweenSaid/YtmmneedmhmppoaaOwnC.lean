/- Lists of changes in a slice of one's own. No conditions. -/
import Derived.Test.YtmmneedmhmppoaaOwnL
import Derived.Test.YtmmneedmhmppoaaChg
import Derived.Outline
namespace Go.Proofs.Ytmmneedmhmppoaa
open Go.RowKit
set_option linter.unusedVariables false
set_option linter.unusedSimpArgs false

abbrev dC : Int × Int × Bool := (0, 0, false)
def encC (x : Int × Int × Bool) : List Value := [.int .i16 x.1, .int .i8 x.2.1, .bool x.2.2]
theorem encC_len (x : Int × Int × Bool) : (encC x).length = 3 := rfl
theorem encC_one (x : Int × Int × Bool) : ∀ u ∈ encC x, u.oneCell' = true := by
  intro u hu; simp [encC] at hu; rcases hu with rfl | rfl | rfl <;> rfl
def OwnC (w : World) (base : Nat) (v : Value) (l : List (Int × Int × Bool)) : Prop := OwnL 104 3 encC w base v l
theorem infoChange3 : (Try.prog.info? 104).map (fun i => (i.zero, i.size, i.bytes)) = some (some (.agg #[.int .i16 0, .int .i8 0, .bool false]), 3, 4) := by kernel_rfl
section
variable {w w' : World} {base : Nat} {v : Value} {l : List (Int × Int × Bool)}
theorem kp_OwnC (h : OwnC w base v l) : Kp w (fun V => OwnC V base v l) := kp_OwnL h
theorem OwnC.lt (h : OwnC w base v l) : ∀ k, v.ownBlock = some k → base ≤ k ∧ k < w.heap.size := OwnL.lt h
theorem OwnC.readAt {b : Option Addr} {n c : Nat} (h : OwnC w base (.slice b n c) l) : ChgAt w b l.length (fun i => (l.getD i dC).1) (fun i => (l.getD i dC).2.1) (fun i => (l.getD i dC).2.2) := fun hn => by
  obtain ⟨g, rfl, hg, hlt, hc⟩ := OwnL.cells encC_len h hn
  refine ⟨g, 0, rfl, hlt, fun i hi => ?_⟩
  have hl := List.getElem?_eq_getElem hi
  have e : l.getD i dC = l[i] := by simp [List.getD, hl]
  simp only [e, Nat.zero_add]
  exact ⟨hc i _ hl 0 (by omega), hc i _ hl 1 (by omega), hc i _ hl 2 (by omega)⟩
theorem OwnC.at (h : OwnC w base v l) : ∃ b c, v = .slice b l.length c ∧ ChgAt w b l.length (fun i => (l.getD i dC).1) (fun i => (l.getD i dC).2.1) (fun i => (l.getD i dC).2.2) := by
  obtain ⟨b, c, rfl⟩ := OwnL.form h
  exact ⟨b, c, rfl, OwnC.readAt h⟩
end
section
variable {ops : Array Oper} {rest : List Oper} {o : Oper} {a : Act} {w : World} {Q : Exit → Act → World → Prop}
/-- changes are appended -/
theorem append_changes (hgd : o.guard = none) (s x : Operand) (ho : o.op = .call { callee := .builtin .append, args := #[s, x], argTypes := #[24, 24] }) (base : Nat) (v : Value) (l : List (Int × Int × Bool)) (hs : a.eval s = v) (hown : OwnC w base v l)
    (ad : Addr) (m c : Nat) (ys : List (Int × Int × Bool)) (hm : ys.length = m) (hx : a.eval x = .slice (some ad) m c) (hc : ∀ j u, (ys.flatMap encC)[j]? = some u → w.cell? (ad.add j) = some u) (hl : l.length + m ≤ 10000000) (hbase : base ≤ w.heap.size)
    (h : ∀ v' w', OwnC w' base v' (l ++ ys) → Below base w w' → wpList Try.prog ops Q rest (a.put o.dst v') w') : wpList Try.prog ops Q (o :: rest) a w :=
  append_L Try.underlying24 infoChange3 rfl (by decide) (by decide) encC_len encC_one hgd s x ho base v l hs hown ad m c ys hm hx hc hl hbase h
end
section
variable {md : Region.Mode} {ops : Array Oper} {Q : Exit → Act → World → Prop} {S : World → Prop} {fuel : Nat} {listed : Array Bool} {a : Act} {w : World}
theorem step_append_changes (i : Nat) {o : Oper} (hr : Region.ready md ops listed = [i]) (hoi : ops[i]? = some o) (hw : Region.wanted o (yielded ops a.tmps) = true)
    (s x : Operand) (ho : o.op = .call { callee := .builtin .append, args := #[s, x], argTypes := #[24, 24] }) (base : Nat) (v : Value) (l : List (Int × Int × Bool)) (hs : a.eval s = v) (hown : OwnC w base v l)
    (ad : Addr) (m c : Nat) (ys : List (Int × Int × Bool)) (hm : ys.length = m) (hx : a.eval x = .slice (some ad) m c) (hc : ∀ j u, (ys.flatMap encC)[j]? = some u → w.cell? (ad.add j) = some u) (hl : l.length + m ≤ 10000000) (hbase : base ≤ w.heap.size)
    (h : ∀ v' w', OwnC w' base v' (l ++ ys) → Below base w w' → S w' ∧ wpAnyH Try.prog md ops Q S fuel (listed.setIfInBounds i true) (a.put o.dst v') w') : wpAnyH Try.prog md ops Q S (fuel + 1) listed a w :=
  step_append_L Try.underlying24 infoChange3 rfl (by decide) (by decide) encC_len encC_one i hr hoi hw s x ho base v l hs hown ad m c ys hm hx hc hl hbase h
end
end Go.Proofs.Ytmmneedmhmppoaa
