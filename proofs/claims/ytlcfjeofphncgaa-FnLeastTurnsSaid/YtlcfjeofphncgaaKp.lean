/- Facts that stay so while memory only grows; carried from world to world. No conditions. -/
import Derived.Test.YtlcfjeofphncgaaHam
import Derived.Test.YtlcfjeofphncgaaHeld
namespace Go.Proofs.Ytlcfjeofphncgaa
open Go.RowKit
set_option linter.unusedVariables false
set_option linter.unusedSimpArgs false

/-- so in every world that memory grows to from w on -/
def Kp (w : World) (P : World → Prop) : Prop := ∀ w', Below w.heap.size w w' → P w'
section
variable {w w' : World} {P : World → Prop}
theorem Kp.mk (h : ∀ w', Below w.heap.size w w' → P w') : Kp w P := h
theorem Kp.at (h : Kp w P) (hb : Below w.heap.size w w') : P w' := h w' hb
theorem Kp.here (h : Kp w P) : P w := h w (Below.refl _ _)
theorem Kp.on (h : Kp w P) (hb : Below w.heap.size w w') : Kp w' P := fun w'' h2 => h w'' (hb.trans (h2.mono hb.size))
theorem Kp.alloc (h : Kp w P) (o : Obj) : Kp (w.alloc o) P := h.on ((Below.refl _ _).alloc (Nat.le_refl _) _)
theorem Kp.imp {R : World → Prop} (h : Kp w P) (f : ∀ w', P w' → R w') : Kp w R := fun w' hb => f w' (h w' hb)
end
attribute [irreducible] Kp
section
variable {w w' : World} {n : Nat}
theorem Kp.base (w : World) : Kp w (fun V => Below w.heap.size w V) := Kp.mk fun _ h => h
theorem kp_start (w : World) : Kp w.drew (fun V => Below w.heap.size w V) := Kp.mk fun _ h => (Below.refl _ _).drew.trans h
theorem below_drew (w : World) : Below w.heap.size w w.drew := (Below.refl _ _).drew
theorem kp_row {g T : Nat} {cs : Array Value} {f : Nat × Nat} (h : w.heap[g]? = some (.cells cs T f)) : Kp w (fun V => V.heap[g]? = some (.cells cs T f)) :=
  Kp.mk fun _ hb => (hb.block g (Array.getElem?_eq_some_iff.1 h).1).trans h
theorem kp_new (w : World) (cs : Array Value) (T : Nat) : Kp (w.alloc (.cells cs T)) (fun V => V.heap[w.heap.size]? = some (.cells cs T (0, 0))) := kp_row (heap_alloc_new w _)
theorem kp_drum {T g : Nat} {D : Nat → Nat} (h : DrumAt w T g D) : Kp w (fun V => DrumAt V T g D) := Kp.mk fun _ hb => h.below hb h.lt
theorem kp_frame {g : Nat} {s : Int} {a : Option Addr} {n c : Nat} (h : FrameAt w g s a n c) : Kp w (fun V => FrameAt V g s a n c) := Kp.mk fun _ hb => h.below hb h.lt
theorem kp_hamIn {a : Option Addr} {P R : Nat → Int} (h : HamIn w a n P R) : Kp w (fun V => HamIn V a n P R) := Kp.mk fun _ hb => h.below hb
theorem kp_ham {a : Option Addr} {P R : Nat → Int} (h : HamAt w a n P R) : Kp w (fun V => HamAt V a n P R) := Kp.mk fun _ hb => h.below hb
theorem kp_drums {a : Option Addr} {L : Nat → Nat → Nat} (h : DrumsAt w a n L) : Kp w (fun V => DrumsAt V a n L) := Kp.mk fun _ hb => h.below hb
/-- a block of one parameter, laid behind others -/
theorem kp_new1 (w : World) (cs : Array Value) (T : Nat) {g : Nat} (hg : g = w.heap.size) : Kp (w.alloc (.cells cs T)) (fun V => V.heap[g]? = some (.cells cs T (0, 0))) := hg ▸ kp_new w cs T
theorem kp_newd (w : World) (D : Nat → Nat) (T : Nat) {g : Nat} (hg : g = w.heap.size) : Kp (w.alloc (.cells (dc D) T)) (fun V => DrumAt V T g D) := hg ▸ kp_drum (DrumAt.new w T D)
theorem row_cell {V : World} {g T : Nat} {cs : Array Value} {f : Nat × Nat} (k : Nat) (h : V.heap[g]? = some (.cells cs T f)) : V.cell? ⟨g, k, none⟩ = cs[k]? := cell_of_row V g k _ _ _ h
theorem row_lt {V : World} {g T : Nat} {cs : Array Value} {f : Nat × Nat} (h : V.heap[g]? = some (.cells cs T f)) : g < V.heap.size := (Array.getElem?_eq_some_iff.1 h).1
end
/-! ### whole boxes: read, laid, written -/
section
variable {ops : Array Oper} {rest : List Oper} {o : Oper} {a : Act} {w : World} {Q : Exit → Act → World → Prop}
/-- a row without anything in it is laid -/
theorem alloc_row (hgd : o.guard = none) (ty : TypeId) (ho : o.op = .alloc ty) (z : Array Value) (hz : (zeroValue ty).run Try.prog w = .ok (.agg z) w)
    (h : wpList Try.prog ops Q rest (a.put o.dst (.pointer (some ⟨w.heap.size, 0, none⟩))) (w.alloc (.cells z ty))) : wpList Try.prog ops Q (o :: rest) a w := by
  refine wpList_plain hgd fun K hK => ?_
  unfold Oper.wp
  have e : (execOp a.eval o).run Try.prog w = .ok (.value (.pointer (some ⟨w.heap.size, 0, none⟩))) (w.alloc (.cells z ty)) := by
    simp only [execOp, ho, Instr.alloc, Sem.run_bind, hz, Result.andThen_ok, newVar, Value.cells]
    rfl
  rw [e]
  exact hK _ _ h
end
theorem ex_load_iframe {o : Oper} {a : Act} {W : World} (x : Operand) (ho : o.op = .load 27 x) (g : Nat) (hx : a.eval x = .pointer (some ⟨g, 0, none⟩)) (T : Nat) (s : Int) (ad : Option Addr) (n c : Nat)
    (hg : W.heap[g]? = some (.cells #[.int .i16 s, .slice ad n c] T (0, 0))) : (execOp a.eval o).run Try.prog W = .ok (.value (.agg #[.int .i16 s, .slice ad n c])) W :=
  by unfold execOp; simp only [ho, hx, Instr.loadAt, Instr.sureAddr, Sem.run_bind, Sem.run_pure, Result.andThen_ok, run_loadVar_row W g T 27 _ (0, 0) _ hg Try.underlying27 rfl (by kernel_rfl)]
section
variable {ops : Array Oper} {rest : List Oper} {o : Oper} {a : Act} {w : World} {Q : Exit → Act → World → Prop}
theorem load_iframe (hgd : o.guard = none) (x : Operand) (ho : o.op = .load 27 x) (g : Nat) (hx : a.eval x = .pointer (some ⟨g, 0, none⟩)) (T : Nat) (s : Int) (ad : Option Addr) (n c : Nat)
    (hg : w.heap[g]? = some (.cells #[.int .i16 s, .slice ad n c] T (0, 0))) (h : wpList Try.prog ops Q rest (a.put o.dst (.agg #[.int .i16 s, .slice ad n c])) w) : wpList Try.prog ops Q (o :: rest) a w :=
  wpList_load_row hgd _ x ho g hx T _ (0, 0) _ hg Try.underlying27 rfl (by kernel_rfl) h
end
end Go.Proofs.Ytlcfjeofphncgaa
