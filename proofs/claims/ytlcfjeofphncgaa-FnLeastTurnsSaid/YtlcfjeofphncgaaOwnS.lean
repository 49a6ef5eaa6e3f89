/- Lists of sections in a slice of one's own. Printed by owngen.py. No conditions. -/
import Derived.Test.YtlcfjeofphncgaaOwnL
import Derived.Test.YtlcfjeofphncgaaSec
import Derived.Outline
namespace Go.Proofs.Ytlcfjeofphncgaa
open Go.RowKit
set_option linter.unusedVariables false
set_option linter.unusedSimpArgs false

def encS (x : Int × Int) : List Value := [.int .i16 x.1, .int .i16 x.2]
theorem encS_len (x : Int × Int) : (encS x).length = 2 := rfl
theorem encS_one (x : Int × Int) : ∀ u ∈ encS x, u.oneCell' = true := by
  intro u hu; simp [encS] at hu; rcases hu with rfl | rfl <;> rfl
def OwnS (w : World) (base : Nat) (v : Value) (l : List (Int × Int)) : Prop := OwnL 56 2 encS w base v l
theorem infoS2 : (Try.prog.info? 56).map (fun i => (i.zero, i.size, i.bytes)) = some (some (.agg #[.int .i16 0, .int .i16 0]), 2, 4) := by kernel_rfl
section
variable {w w' : World} {base : Nat} {v : Value} {l : List (Int × Int)}
theorem kp_OwnS (h : OwnS w base v l) : Kp w (fun V => OwnS V base v l) := kp_OwnL h
theorem OwnS.lt (h : OwnS w base v l) : ∀ k, v.ownBlock = some k → base ≤ k ∧ k < w.heap.size := OwnL.lt h
theorem OwnS.mono {base' : Nat} (h : OwnS w base v l) (hb : base' ≤ base) : OwnS w base' v l := OwnL.mono h hb
theorem OwnS.below (h : OwnS w base v l) (hb : Below w.heap.size w w') : OwnS w' base v l := OwnL.below h hb
theorem OwnS.alloc (h : OwnS w base v l) (o : Obj) : OwnS (w.alloc o) base v l := OwnL.alloc h o
theorem OwnS.readAt {b : Option Addr} {n c : Nat} (h : OwnS w base (.slice b n c) l) : SecAt w b l.length (fun i => (l.getD i (0, 0)).1) (fun i => (l.getD i (0, 0)).2) := fun hn => by
  obtain ⟨g, rfl, hg, hlt, hc⟩ := OwnL.cells encS_len h hn
  refine ⟨g, 0, rfl, hlt, fun i hi => ?_⟩
  have hl := List.getElem?_eq_getElem hi
  have e : l.getD i (0, 0) = l[i] := by simp [List.getD, hl]
  simp only [e, Nat.zero_add]
  exact ⟨hc i _ hl 0 (by omega), hc i _ hl 1 (by omega)⟩
theorem OwnS.at (h : OwnS w base v l) : ∃ b c, v = .slice b l.length c ∧ SecAt w b l.length (fun i => (l.getD i (0, 0)).1) (fun i => (l.getD i (0, 0)).2) := by
  obtain ⟨b, c, rfl⟩ := OwnL.form h
  exact ⟨b, c, rfl, OwnS.readAt h⟩
end
section
variable {ops : Array Oper} {rest : List Oper} {o : Oper} {a : Act} {w : World} {Q : Exit → Act → World → Prop}
theorem append_sections (hgd : o.guard = none) (s x : Operand) (ho : o.op = .call { callee := .builtin .append, args := #[s, x], argTypes := #[47, 47] }) (base : Nat) (v : Value) (l : List (Int × Int)) (hs : a.eval s = v) (hown : OwnS w base v l)
    (ad : Addr) (m c : Nat) (ys : List (Int × Int)) (hm : ys.length = m) (hx : a.eval x = .slice (some ad) m c) (hc : ∀ j u, (ys.flatMap encS)[j]? = some u → w.cell? (ad.add j) = some u) (hl : l.length + m ≤ 10000000) (hbase : base ≤ w.heap.size)
    (h : ∀ v' w', OwnS w' base v' (l ++ ys) → Below base w w' → wpList Try.prog ops Q rest (a.put o.dst v') w') : wpList Try.prog ops Q (o :: rest) a w :=
  append_L Try.underlying47 infoS2 rfl (by decide) (by decide) encS_len encS_one hgd s x ho base v l hs hown ad m c ys hm hx hc hl hbase h
end
section
variable {md : Region.Mode} {ops : Array Oper} {Q : Exit → Act → World → Prop} {S : World → Prop} {fuel : Nat} {listed : Array Bool} {a : Act} {w : World}
theorem step_append_sections (i : Nat) {o : Oper} (hr : Region.ready md ops listed = [i]) (hoi : ops[i]? = some o) (hw : Region.wanted o (yielded ops a.tmps) = true)
    (s x : Operand) (ho : o.op = .call { callee := .builtin .append, args := #[s, x], argTypes := #[47, 47] }) (base : Nat) (v : Value) (l : List (Int × Int)) (hs : a.eval s = v) (hown : OwnS w base v l)
    (ad : Addr) (m c : Nat) (ys : List (Int × Int)) (hm : ys.length = m) (hx : a.eval x = .slice (some ad) m c) (hc : ∀ j u, (ys.flatMap encS)[j]? = some u → w.cell? (ad.add j) = some u) (hl : l.length + m ≤ 10000000) (hbase : base ≤ w.heap.size)
    (h : ∀ v' w', OwnS w' base v' (l ++ ys) → Below base w w' → S w' ∧ wpAnyH Try.prog md ops Q S fuel (listed.setIfInBounds i true) (a.put o.dst v') w') : wpAnyH Try.prog md ops Q S (fuel + 1) listed a w :=
  step_append_L Try.underlying47 infoS2 rfl (by decide) (by decide) encS_len encS_one i hr hoi hw s x ho base v l hs hown ad m c ys hm hx hc hl hbase h
end
end Go.Proofs.Ytlcfjeofphncgaa
