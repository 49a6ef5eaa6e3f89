/- Orders are indexed; numbers that make lays are 0. No conditions. -/
import Derived.Test.YtlcfjeofphncgaaPg
import Derived.Test.YtlcfjeofphncgaaOwn
import Derived.Outline
namespace Go.Proofs.Ytlcfjeofphncgaa
open Go.RowKit
set_option linter.unusedVariables false
set_option linter.unusedSimpArgs false

theorem index_ord (O : Nat → Int) (k : Nat) (hk : k < 48) (w : World) : (Instr.index 49 (.agg (oc O)) (.int .i64 k)).run Try.prog w = .ok (.int .i8 (O k)) w := by
  have hs : (sizeOf 48).run Try.prog w = .ok 1 w := by kernel_rfl
  have ha : (isAgg 48).run Try.prog w = .ok false w := by kernel_rfl
  simp only [Instr.index, asIntOf, Sem.run_bind, Sem.run_pure, Result.andThen_ok, run_underlying und_ord]
  rw [if_pos ⟨by omega, by omega⟩]
  simp only [Sem.run_bind, hs, Result.andThen_ok, part, ha, Int.toNat_natCast, Nat.mul_one, oc_get O k hk]
  rfl
theorem made_one (v : Value) (N : Nat) : madeCells #[v] N = cf N (fun _ => v) := by
  apply Array.ext_getElem?
  intro i
  by_cases h : i < N
  · rw [cf_get _ _ _ h]; simp [madeCells, h, Nat.mod_one]
  · rw [Array.getElem?_eq_none (by rw [size_madeCells]; omega), Array.getElem?_eq_none (by rw [cf_size]; omega)]
theorem infoInt64 : (Try.prog.info? 2).map (fun i => (i.zero, i.size, i.bytes)) = some (some (.int .i64 0), 1, 8) := by kernel_rfl
/-- make([]int64, n) -/
theorem run_make_i64 (w : World) (n : Nat) (hn : n ≤ 1000000) : (Instr.makeSlice 38 (.int .i64 (n : Int)) (.int .i64 (n : Int))).run Try.prog w = .ok (.slice (some ⟨w.heap.size, 0, none⟩) n n) (w.alloc (.cells (cf n fun _ => .int .i64 0) 2)) := by
  obtain ⟨i, hi, hz, hs, hb⟩ := info_parts infoInt64
  have h := run_make (P := Try.prog) w 38 2 i _ Try.underlying38 hi hz .i64 .i64 n n (by omega) (by omega) (by rw [hb]; omega) (by omega)
  simp only [Int.toNat_natCast, hs, Nat.mul_one] at h
  rw [show (Value.int IntKind.i64 0).cells = #[.int .i64 0] from rfl, made_one] at h
  exact h
end Go.Proofs.Ytlcfjeofphncgaa
