/- The pins of a drum are called for, one by one. No conditions. -/
import Derived.Test.YtfefclngfeihiaaWp
import Derived.Test.YtfefclngfeihiaaOwn
import Derived.Outline
namespace Go.Proofs.Ytfefclngfeihiaa
open Go.RowKit
set_option linter.unusedVariables false
set_option linter.unusedSimpArgs false

/-- memory but for blocks of two types is as it was -/
def KeepT (T1 T2 : Nat) (w w' : World) : Prop := w.heap.size ≤ w'.heap.size ∧ ∀ (x : Nat) cs (T : Nat) f, w.heap[x]? = some (.cells cs T f) → T ≠ T1 → T ≠ T2 → w'.heap[x]? = some (.cells cs T f)
theorem KeepT.refl (T1 T2 : Nat) (w : World) : KeepT T1 T2 w w := ⟨Nat.le_refl _, fun _ _ _ _ h _ _ => h⟩
theorem KeepT.trans {T1 T2 : Nat} {w w1 w2 : World} (h : KeepT T1 T2 w w1) (h2 : KeepT T1 T2 w1 w2) : KeepT T1 T2 w w2 :=
  ⟨Nat.le_trans h.1 h2.1, fun x cs T f hx n1 n2 => h2.2 x cs T f (h.2 x cs T f hx n1 n2) n1 n2⟩
theorem KeepT.below {T1 T2 : Nat} {w w' : World} (h : Below w.heap.size w w') : KeepT T1 T2 w w' := ⟨h.size, fun x cs T f hx _ _ => (h.block x (Array.getElem?_eq_some_iff.1 hx).1).trans hx⟩
theorem KeepT.row {T1 T2 : Nat} {w w' : World} (h : KeepT T1 T2 w w') {x : Nat} {cs : Array Value} {T : Nat} {f : Nat × Nat} (hx : w.heap[x]? = some (.cells cs T f)) (n1 : T ≠ T1) (n2 : T ≠ T2) : w'.heap[x]? = some (.cells cs T f) := h.2 x cs T f hx n1 n2
theorem place_div {n k t : Nat} (ht : t < n) : (k * n + t) / n = k ∧ (k * n + t) % n = t := by
  have hn : 0 < n := by omega
  constructor
  · rw [Nat.mul_comm, Nat.mul_add_div hn, Nat.div_eq_of_lt ht, Nat.add_zero]
  · rw [Nat.mul_comm, Nat.mul_add_mod, Nat.mod_eq_of_lt ht]
theorem call_enter (K : FuncId) (fn : Func) (h : Try.prog.funcs[K]? = some fn) (h1 : (fn.name == "runtime.NumGoroutine") = false) (h2 : fn.body.isNone = false) : ∀ (args : Array Value) (W : World), (callFunc K args).run Try.prog W = .ok (.enter K args) W := by
  intro args W
  unfold callFunc
  rw [Sem.run_bind]
  show Result.andThen (.ok Try.prog W) _ = _
  simp only [Result.andThen_ok, h, h1, h2, Bool.false_eq_true, if_false, Sem.run_pure]
end Go.Proofs.Ytfefclngfeihiaa
