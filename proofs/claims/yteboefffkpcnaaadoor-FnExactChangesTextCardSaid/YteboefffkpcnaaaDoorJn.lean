/- strings.Join at this seat (its laying printed by the kit's tools), texts of one's own. No conditions. -/
import Derived.Shelf.Strings.OnBuilder
import Derived.Test.YteboefffkpcnaaaDoorOwnL
import Derived.Outline
namespace Go.Proofs.YteboefffkpcnaaaDoor
open Go.RowKit
open Go.Shelf
set_option linter.unusedVariables false
set_option linter.unusedSimpArgs false

def laysJoin_ren : Go.Shelf.Ren := ⟨fun | 156 => 36 | 165 => 52 | 166 => 53 | 169 => 54 | 240 => 66 | 241 => 67 | 276 => 78 | 277 => 79 | n => n, fun | 31 => 57 | 9 => 9 | 3 => 3 | 4 => 4 | 0 => 0 | 20 => 20 | 72 => 89 | 76 => 93 | 70 => 87 | 37 => 79 | 75 => 92 | 127 => 111 | 164 => 124 | 5 => 5 | 80 => 95 | n => n, fun | n => n⟩
theorem laysJoin : Go.Proofs.Lays.n156 Tryd.prog laysJoin_ren := {
  mixed := by kernel_rfl
  f156 := Tryd.func36.trans (congrArg some (by kernel_rfl))
  f165 := Tryd.func52.trans (congrArg some (by kernel_rfl))
  f166 := Tryd.func53.trans (congrArg some (by kernel_rfl))
  f169 := Tryd.func54.trans (congrArg some (by kernel_rfl))
  f240 := Tryd.func66.trans (congrArg some (by kernel_rfl))
  f241 := Tryd.func67.trans (congrArg some (by kernel_rfl))
  f276 := Tryd.func78.trans (congrArg some (by kernel_rfl))
  f277 := Tryd.func79.trans (congrArg some (by kernel_rfl))
  t0 := Tryd.underlying0
  a0 := Tryd.isAgg0
  z0 := Tryd.sizeOf0
  v0 := Tryd.zeroValue0
  t3 := Tryd.underlying3
  a3 := Tryd.isAgg3
  z3 := Tryd.sizeOf3
  v3 := Tryd.zeroValue3
  t4 := Tryd.underlying4
  a4 := Tryd.isAgg4
  z4 := Tryd.sizeOf4
  v4 := Tryd.zeroValue4
  t9 := Tryd.underlying9
  a9 := Tryd.isAgg9
  z9 := Tryd.sizeOf9
  v9 := Tryd.zeroValue9
  t20 := Tryd.underlying20
  a20 := Tryd.isAgg20
  z20 := Tryd.sizeOf20
  v20 := Tryd.zeroValue20
  t31 := Tryd.underlying57
  a31 := Tryd.isAgg57
  z31 := Tryd.sizeOf57
  v31 := Tryd.zeroValue57
  t37 := Tryd.underlying79
  a37 := Tryd.isAgg79
  z37 := Tryd.sizeOf79
  v37 := Tryd.zeroValue79
  t70 := Tryd.underlying87
  a70 := Tryd.isAgg87
  z70 := Tryd.sizeOf87
  v70 := Tryd.zeroValue87
  t72 := Tryd.underlying89
  a72 := Tryd.isAgg89
  z72 := Tryd.sizeOf89
  v72 := Tryd.zeroValue89
  t75 := Tryd.underlying92
  a75 := Tryd.isAgg92
  z75 := Tryd.sizeOf92
  v75 := Tryd.zeroValue92
  t76 := Tryd.underlying93
  a76 := Tryd.isAgg93
  z76 := Tryd.sizeOf93
  v76 := Tryd.zeroValue93
  t127 := Tryd.underlying111
  a127 := Tryd.isAgg111
  z127 := Tryd.sizeOf111
  v127 := Tryd.zeroValue111
  t164 := Tryd.underlying124
  a164 := Tryd.isAgg124
  z164 := Tryd.sizeOf124
  v164 := Tryd.zeroValue124 }
theorem extraJoin : Builder.Extra Tryd.prog laysJoin_ren := {
  sizeBuilder := by kernel_rfl
  liesBuilder := by kernel_rfl
  t5 := Tryd.underlying5
  a5 := Tryd.isAgg5
  z5 := Tryd.sizeOf5
  v5 := Tryd.zeroValue5
  infoByte := by kernel_rfl
  cellsByte := by kernel_rfl
  sizeByte := by kernel_rfl
  neB5 := by decide }

def encT (x : ByteArray) : List Value := [.string x]
theorem encT_len (x : ByteArray) : (encT x).length = 1 := rfl
theorem encT_one (x : ByteArray) : ∀ u ∈ encT x, u.oneCell' = true := by
  intro u hu; simp [encT] at hu; subst hu; rfl
/-- v owns these texts -/
def OwnT (w : World) (base : Nat) (v : Value) (l : List ByteArray) : Prop := OwnL 9 1 encT w base v l
theorem infoStr : (Tryd.prog.info? 9).map (fun i => (i.zero, i.size, i.bytes)) = some (some (.string ⟨#[]⟩), 1, 16) := by kernel_rfl
section
variable {w w' : World} {base : Nat} {v : Value} {l : List ByteArray}
theorem OwnT.lt (h : OwnT w base v l) : ∀ k, v.ownBlock = some k → base ≤ k ∧ k < w.heap.size := OwnL.lt h
theorem OwnT.below (h : OwnT w base v l) (hb : Below w.heap.size w w') : OwnT w' base v l := OwnL.below h hb
theorem OwnT.alloc (h : OwnT w base v l) (o : Obj) : OwnT (w.alloc o) base v l := OwnL.alloc h o
theorem OwnT.nil (w : World) (base : Nat) (hb : base ≤ w.heap.size) : OwnT (w.alloc (.cells #[] 9)) base (.slice (some ⟨w.heap.size, 0, none⟩) 0 0) [] := OwnL.nil w base hb
end
section
variable {md : Region.Mode} {ops : Array Oper} {Q : Exit → Act → World → Prop} {S : World → Prop} {fuel : Nat} {listed : Array Bool} {o : Oper} {a : Act} {w : World}
theorem step_append_text (i : Nat) (hr : Region.ready md ops listed = [i]) (hoi : ops[i]? = some o) (hw : Region.wanted o (yielded ops a.tmps) = true)
    (s x : Operand) (ho : o.op = .call { callee := .builtin .append, args := #[s, x], argTypes := #[57, 57] }) (base : Nat) (v : Value) (l : List ByteArray) (hs : a.eval s = v) (hown : OwnT w base v l)
    (g : Nat) (t : ByteArray) (hx : a.eval x = .slice (some ⟨g, 0, none⟩) 1 1) (hg : w.heap[g]? = some (.cells #[.string t] 9 (0, 0))) (hl : l.length ≤ 100000) (hbase : base ≤ w.heap.size)
    (h : ∀ v' w', OwnT w' base v' (l ++ [t]) → w.grownBy w' v.ownBlock → Below base w w' → S w' ∧ wpAnyH Tryd.prog md ops Q S fuel (listed.setIfInBounds i true) (a.put o.dst v') w') : wpAnyH Tryd.prog md ops Q S (fuel + 1) listed a w := by
  refine wpAnyH_ready hr (by simp) (AllReadyH.cons hoi (fun K hK => ?_) AllReadyH.nil)
  rw [if_pos hw]
  obtain ⟨i0, hi, hz0, hz1, hz2⟩ := info_parts infoStr
  refine wp_append_own w s x 57 ho base 9 i0 (.string ⟨#[]⟩) 1 16 Tryd.underlying57 hi hz0 hz1 hz2 rfl (by decide) v l.length _ hs hown ⟨g, 0, none⟩ 1 1 ([t].flatMap encT) hx rfl (one_cells (enc := encT) hg) ?_ ?_ ?_ hbase ?_
  · intro u hu; simp [encT] at hu; subst hu; rfl
  · unfold maxLen; omega
  · omega
  · intro v' w' hown' hgrow _
    obtain ⟨h1, h2⟩ := h v' w' (by unfold OwnT OwnL; rw [List.length_append, List.flatMap_append]; exact hown') hgrow (Below.grown (Below.refl _ _) hgrow hbase fun k hk => (World.ownsRow.lt hown k hk).1)
    exact hK.out _ _ h1 fun _ => h2
theorem ex_build_text {o : Oper} {a : Act} {w : World} (x : Operand) (ho : o.op = .buildSlice 57 1 #[(0, x)]) (t : ByteArray) (hx : a.eval x = .string t) :
    (execOp a.eval o).run Tryd.prog w = .ok (.value (.slice (some ⟨w.heap.size, 0, none⟩) 1 1)) (w.alloc (.cells #[.string t] 9)) := by
  have hm : (#[(0, x)] : Array (Nat × Operand)).map (fun (i, y) => (i, a.eval y)) = #[(0, .string t)] := by simp [hx]
  have hr : (Instr.buildSlice 57 1 #[(0, .string t)]).run Tryd.prog w = .ok (.slice (some ⟨w.heap.size, 0, none⟩) 1 1) (w.alloc (.cells #[.string t] 9)) := by kernel_rfl
  simp only [execOp, ho, hm, Sem.run_bind, hr, Result.andThen_ok]
  rfl
end
/-- the texts of one's own are joined -/
theorem join_own {w : World} {base : Nat} {v : Value} {l : List ByteArray} (h : OwnT w base v l) (hl : l.length ≤ 100000) (hlen : (Lib.join (l.map (·.data.toList)) [32]).length ≤ 140737488355328) :
    Calls Tryd.prog 36 #[v, .string ⟨#[32]⟩] w fun e w' => e = .returned (.string ⟨(Lib.join (l.map (·.data.toList)) [32]).toArray⟩) ∧ Below w.heap.size w w' := by
  rcases Nat.eq_zero_or_pos l.length with h0 | h0
  · obtain ⟨b, c, rfl⟩ := OwnL.form h
    rw [h0]
    have := List.eq_nil_of_length_eq_zero h0
    subst this
    refine (Any.strings_Join_none laysJoin extraJoin b c ⟨#[32]⟩ w).mono ?_
    rintro e w' ⟨rfl, rfl⟩
    exact ⟨rfl, Below.refl _ _⟩
  · obtain ⟨b, c, rfl⟩ := OwnL.form h
    obtain ⟨g, rfl, _, hg, hc⟩ := OwnL.cells encT_len h h0
    have hcap : l.length ≤ c := by
      rcases h.2 with ⟨h1, h2⟩ | ⟨g2, cap, cur, h1, _, _, h2, _⟩
      · omega
      · injection h1 with _ _ e3
        omega
    exact Any.strings_Join laysJoin extraJoin g 0 c l ⟨#[32]⟩ w (fun j x hx => by have := hc j x hx 0 (by omega); simpa [encT] using this) hg (by omega) hcap hlen
end Go.Proofs.YteboefffkpcnaaaDoor
