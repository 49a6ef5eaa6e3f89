/- Numbers of one's own: read, kept, made. No conditions. -/
import Derived.Test.YtlcfjeofphncgaaTab
import Derived.Test.YtlcfjeofphncgaaOwn
import Derived.Test.YtlcfjeofphncgaaIx
import Derived.Outline
namespace Go.Proofs.Ytlcfjeofphncgaa
open Go.RowKit
set_option linter.unusedVariables false
set_option linter.unusedSimpArgs false

theorem kp_OwnI {w : World} {base : Nat} {v : Value} {l : List Int} (h : OwnI w base v l) : Kp w (fun V => OwnI V base v l) := Kp.mk fun _ hb => h.below hb
theorem OwnI.readAt {w : World} {base : Nat} {b : Option Addr} {n c : Nat} {l : List Int} (h : OwnI w base (.slice b n c) l) : IntAt w b l.length (fun i => l.getD i 0) := by
  obtain ⟨b', c', e, hz⟩ := OwnI.at h
  injection e with e1 e2 e3
  subst e1
  exact hz
theorem OwnI.lt {w : World} {base : Nat} {v : Value} {l : List Int} (h : OwnI w base v l) : ∀ k, v.ownBlock = some k → base ≤ k ∧ k < w.heap.size := World.ownsRow.lt h
theorem OwnI.none0 (w : World) (base : Nat) : OwnI w base (.slice none 0 0) [] := World.ownsRow_nil _ _ _ _
/-- a block of numbers, one's own -/
theorem OwnI.blk {w : World} {base g n : Nat} {f : Nat → Value} {l : List Int} (h : BlkAt w 2 g n f) (hb : base ≤ g) (hn : n ≤ maxLen) (hl : l.length = n) (hf : ∀ i, i < n → f i = .int .i64 (l.getD i 0)) : OwnI w base (.slice (some ⟨g, 0, none⟩) n n) l := by
  subst hl
  have h2 := own_blk (size := 1) (n := l.length) h (by omega) hb hn
  unfold OwnI
  have e : (cf l.length f).toList = l.map (Value.int .i64) := by
    apply List.ext_getElem?
    intro i
    rw [Array.getElem?_toList, List.getElem?_map]
    by_cases hi : i < l.length
    · rw [cf_get _ _ _ hi, hf i hi]; simp [List.getD, List.getElem?_eq_getElem hi]
    · rw [Array.getElem?_eq_none (by rw [cf_size]; omega), List.getElem?_eq_none (by omega)]; rfl
  rw [← e]
  exact h2
end Go.Proofs.Ytlcfjeofphncgaa
