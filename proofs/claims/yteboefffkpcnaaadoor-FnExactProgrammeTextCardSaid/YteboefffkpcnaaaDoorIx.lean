/- Orders are indexed; numbers that make lays are 0. No conditions. -/
import Derived.Test.YteboefffkpcnaaaDoorPg
import Derived.Test.YteboefffkpcnaaaDoorOwn
import Derived.Outline
namespace Go.Proofs.YteboefffkpcnaaaDoor
open Go.RowKit
set_option linter.unusedVariables false
set_option linter.unusedSimpArgs false

theorem index_ord (O : Nat → Int) (k : Nat) (hk : k < 48) (w : World) : (Instr.index 40 (.agg (oc O)) (.int .i64 k)).run Tryd.prog w = .ok (.int .i8 (O k)) w := by
  have hs : (sizeOf 39).run Tryd.prog w = .ok 1 w := by kernel_rfl
  have ha : (isAgg 39).run Tryd.prog w = .ok false w := by kernel_rfl
  simp only [Instr.index, asIntOf, Sem.run_bind, Sem.run_pure, Result.andThen_ok, run_underlying und_ord]
  rw [if_pos ⟨by omega, by omega⟩]
  simp only [Sem.run_bind, hs, Result.andThen_ok, part, ha, Int.toNat_natCast, Nat.mul_one, oc_get O k hk]
  rfl
theorem made_one (v : Value) (N : Nat) : madeCells #[v] N = cf N (fun _ => v) := by
  apply Array.ext_getElem?
  intro i
  by_cases h : i < N
  · rw [cf_get _ _ _ h]; simp [madeCells, h, Nat.mod_one]
  · rw [Array.getElem?_eq_none (by rw [size_madeCells]; omega), Array.getElem?_eq_none (by rw [cf_size]; omega)]
theorem infoInt64 : (Tryd.prog.info? 2).map (fun i => (i.zero, i.size, i.bytes)) = some (some (.int .i64 0), 1, 8) := by kernel_rfl
end Go.Proofs.YteboefffkpcnaaaDoor
