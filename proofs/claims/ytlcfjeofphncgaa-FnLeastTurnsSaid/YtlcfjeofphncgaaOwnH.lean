/- Lists of hammers in a slice of one's own. Printed by owngen.py. No conditions. -/
import Derived.Test.YtlcfjeofphncgaaOwnL
import Derived.Test.YtlcfjeofphncgaaHam
import Derived.Outline
namespace Go.Proofs.Ytlcfjeofphncgaa
open Go.RowKit
set_option linter.unusedVariables false
set_option linter.unusedSimpArgs false

def encH (x : Int × Int) : List Value := [.int .i8 x.1, .int .i8 x.2]
theorem encH_len (x : Int × Int) : (encH x).length = 2 := rfl
theorem encH_one (x : Int × Int) : ∀ u ∈ encH x, u.oneCell' = true := by
  intro u hu; simp [encH] at hu; rcases hu with rfl | rfl <;> rfl
def OwnH (w : World) (base : Nat) (v : Value) (l : List (Int × Int)) : Prop := OwnL 99 2 encH w base v l
theorem infoH2 : (Try.prog.info? 99).map (fun i => (i.zero, i.size, i.bytes)) = some (some (.agg #[.int .i8 0, .int .i8 0]), 2, 2) := by kernel_rfl
section
variable {w w' : World} {base : Nat} {v : Value} {l : List (Int × Int)}
theorem kp_OwnH (h : OwnH w base v l) : Kp w (fun V => OwnH V base v l) := kp_OwnL h
theorem OwnH.lt (h : OwnH w base v l) : ∀ k, v.ownBlock = some k → base ≤ k ∧ k < w.heap.size := OwnL.lt h
theorem OwnH.mono {base' : Nat} (h : OwnH w base v l) (hb : base' ≤ base) : OwnH w base' v l := OwnL.mono h hb
theorem OwnH.below (h : OwnH w base v l) (hb : Below w.heap.size w w') : OwnH w' base v l := OwnL.below h hb
theorem OwnH.alloc (h : OwnH w base v l) (o : Obj) : OwnH (w.alloc o) base v l := OwnL.alloc h o
theorem OwnH.readAt {b : Option Addr} {n c : Nat} (h : OwnH w base (.slice b n c) l) : HamAt w b l.length (fun i => (l.getD i (0, 0)).1) (fun i => (l.getD i (0, 0)).2) := fun hn => by
  obtain ⟨g, rfl, hg, hlt, hc⟩ := OwnL.cells encH_len h hn
  refine ⟨g, 0, rfl, hlt, fun i hi => ?_⟩
  have hl := List.getElem?_eq_getElem hi
  have e : l.getD i (0, 0) = l[i] := by simp [List.getD, hl]
  simp only [e, Nat.zero_add]
  exact ⟨hc i _ hl 0 (by omega), hc i _ hl 1 (by omega)⟩
theorem OwnH.at (h : OwnH w base v l) : ∃ b c, v = .slice b l.length c ∧ HamAt w b l.length (fun i => (l.getD i (0, 0)).1) (fun i => (l.getD i (0, 0)).2) := by
  obtain ⟨b, c, rfl⟩ := OwnL.form h
  exact ⟨b, c, rfl, OwnH.readAt h⟩
end
section
variable {ops : Array Oper} {rest : List Oper} {o : Oper} {a : Act} {w : World} {Q : Exit → Act → World → Prop}
theorem append_hammers (hgd : o.guard = none) (s x : Operand) (ho : o.op = .call { callee := .builtin .append, args := #[s, x], argTypes := #[25, 25] }) (base : Nat) (v : Value) (l : List (Int × Int)) (hs : a.eval s = v) (hown : OwnH w base v l)
    (ad : Addr) (m c : Nat) (ys : List (Int × Int)) (hm : ys.length = m) (hx : a.eval x = .slice (some ad) m c) (hc : ∀ j u, (ys.flatMap encH)[j]? = some u → w.cell? (ad.add j) = some u) (hl : l.length + m ≤ 10000000) (hbase : base ≤ w.heap.size)
    (h : ∀ v' w', OwnH w' base v' (l ++ ys) → Below base w w' → wpList Try.prog ops Q rest (a.put o.dst v') w') : wpList Try.prog ops Q (o :: rest) a w :=
  append_L Try.underlying25 infoH2 rfl (by decide) (by decide) encH_len encH_one hgd s x ho base v l hs hown ad m c ys hm hx hc hl hbase h
end
section
variable {md : Region.Mode} {ops : Array Oper} {Q : Exit → Act → World → Prop} {S : World → Prop} {fuel : Nat} {listed : Array Bool} {a : Act} {w : World}
theorem step_append_hammers (i : Nat) {o : Oper} (hr : Region.ready md ops listed = [i]) (hoi : ops[i]? = some o) (hw : Region.wanted o (yielded ops a.tmps) = true)
    (s x : Operand) (ho : o.op = .call { callee := .builtin .append, args := #[s, x], argTypes := #[25, 25] }) (base : Nat) (v : Value) (l : List (Int × Int)) (hs : a.eval s = v) (hown : OwnH w base v l)
    (ad : Addr) (m c : Nat) (ys : List (Int × Int)) (hm : ys.length = m) (hx : a.eval x = .slice (some ad) m c) (hc : ∀ j u, (ys.flatMap encH)[j]? = some u → w.cell? (ad.add j) = some u) (hl : l.length + m ≤ 10000000) (hbase : base ≤ w.heap.size)
    (h : ∀ v' w', OwnH w' base v' (l ++ ys) → Below base w w' → S w' ∧ wpAnyH Try.prog md ops Q S fuel (listed.setIfInBounds i true) (a.put o.dst v') w') : wpAnyH Try.prog md ops Q S (fuel + 1) listed a w :=
  step_append_L Try.underlying25 infoH2 rfl (by decide) (by decide) encH_len encH_one i hr hoi hw s x ho base v l hs hown ad m c ys hm hx hc hl hbase h
end
end Go.Proofs.Ytlcfjeofphncgaa
