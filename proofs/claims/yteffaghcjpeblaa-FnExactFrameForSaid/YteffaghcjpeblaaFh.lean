/- How many hammers are needed: the program. No conditions. -/
import Derived.Test.YteffaghcjpeblaaFn
import Derived.Outline
namespace Go.Proofs.Yteffaghcjpeblaa
open Go.RowKit
set_option linter.unusedVariables false
set_option linter.unusedSimpArgs false

section
variable {ops : Array Oper} {rest : List Oper} {o : Oper} {a : Act} {w : World} {Q : Exit → Act → World → Prop}
theorem load_Gf {v : Value} (he : (execOp a.eval o).run Try.prog w = .ok (.value v) w) (hw : Region.wanted o (yielded ops a.tmps) = true) (h : wpList Try.prog ops Q rest (a.put o.dst v) w) : wpList Try.prog ops Q (o :: rest) a w := by
  refine wpList_step fun K hK => ?_
  rw [if_pos hw]
  unfold Oper.wp
  rw [he]
  exact hK _ _ h
theorem load_fn (x : Operand) (ho : o.op = .load 83 x) (g : Nat) (hx : a.eval x = .pointer (some ⟨g, 0, none⟩)) (f : Fn) (ts) (cs : Array Value) (hg : w.cell? ⟨g, 0, none⟩ = some (.func f ts cs)) (hw : Region.wanted o (yielded ops a.tmps) = true)
    (h : wpList Try.prog ops Q rest (a.put o.dst (.func f ts cs)) w) : wpList Try.prog ops Q (o :: rest) a w := by
  refine load_Gf (v := .func f ts cs) ?_ hw h
  unfold execOp
  simp only [ho, hx, Instr.loadAt, Instr.sureAddr, Sem.run_bind, Sem.run_pure, Result.andThen_ok]
  simp [go_sem, hg]
end
@[go_sem] theorem run_store_func {P : Program} {w : World} {a : Addr} {m : Mode} (f : Fn) (ts) (cs : Array Value) : (store a (.func f ts cs) m).run P w = stored P w a (.func f ts cs) m := run_store P w a _ m rfl
set_option maxRecDepth 100000 in
set_option maxHeartbeats 4000000 in
theorem hammersNeeded_any (base : Nat) (s r : Int) (ats : List Int) (va : Value) (w : World) (hs : 2 ≤ s ∧ s ≤ 96) (hl : ats.length ≤ 14) (hats : inS s ats) (hbW : base ≤ w.heap.size) (hva : OwnI w base va ats) :
    Calls Try.prog 29 #[.int .i64 s, .int .i64 r, va] w fun e W' => e = .returned (.int .i64 (needN s r ats : Nat)) ∧ Below w.heap.size w W' := by
  have HATS := Lib.hid hats; clear hats
  obtain ⟨q, c', rfl, hz⟩ := OwnI.at hva
  clear hz
  have KVA := kp_OwnI hva; clear hva
  have KB := Kp.base w
  have HF := Lib.hid (need_full (s := s) (r := r) (ats := ats))
  replace KB := KB.alloc (.cells #[.int .i64 s] 2)
  replace KVA := KVA.alloc (.cells #[.int .i64 s] 2)
  have KS := kp_new1 w #[.int .i64 s] 2 (g := w.heap.size) (by simp)
  replace KB := KB.alloc (.cells #[.int .i64 r] 2)
  replace KVA := KVA.alloc (.cells #[.int .i64 r] 2)
  replace KS := KS.alloc (.cells #[.int .i64 r] 2)
  have KR := kp_new1 (w.alloc (.cells #[.int .i64 s] 2)) #[.int .i64 r] 2 (g := w.heap.size + 1) (by simp)
  replace KB := KB.alloc (.cells #[.slice q ats.length c'] 54)
  replace KVA := KVA.alloc (.cells #[.slice q ats.length c'] 54)
  replace KS := KS.alloc (.cells #[.slice q ats.length c'] 54)
  replace KR := KR.alloc (.cells #[.slice q ats.length c'] 54)
  have KA := kp_new1 ((w.alloc (.cells #[.int .i64 s] 2)).alloc (.cells #[.int .i64 r] 2)) #[.slice q ats.length c'] 54 (g := w.heap.size + 1 + 1) (by simp)
  replace KB := KB.alloc (.cells #[.func (.func 48) #[] #[.pointer (some ⟨w.heap.size, 0, none⟩), .pointer (some ⟨w.heap.size + 1, 0, none⟩)] ] 51)
  replace KVA := KVA.alloc (.cells #[.func (.func 48) #[] #[.pointer (some ⟨w.heap.size, 0, none⟩), .pointer (some ⟨w.heap.size + 1, 0, none⟩)] ] 51)
  replace KS := KS.alloc (.cells #[.func (.func 48) #[] #[.pointer (some ⟨w.heap.size, 0, none⟩), .pointer (some ⟨w.heap.size + 1, 0, none⟩)] ] 51)
  replace KR := KR.alloc (.cells #[.func (.func 48) #[] #[.pointer (some ⟨w.heap.size, 0, none⟩), .pointer (some ⟨w.heap.size + 1, 0, none⟩)] ] 51)
  replace KA := KA.alloc (.cells #[.func (.func 48) #[] #[.pointer (some ⟨w.heap.size, 0, none⟩), .pointer (some ⟨w.heap.size + 1, 0, none⟩)] ] 51)
  have KN := kp_new1 (((w.alloc (.cells #[.int .i64 s] 2)).alloc (.cells #[.int .i64 r] 2)).alloc (.cells #[.slice q ats.length c'] 54)) #[.func (.func 48) #[] #[.pointer (some ⟨w.heap.size, 0, none⟩), .pointer (some ⟨w.heap.size + 1, 0, none⟩)] ] 51 (g := w.heap.size + 1 + 1 + 1) (by simp)
  replace KB := KB.alloc (.cells #[.func (.func 49) #[] #[.pointer (some ⟨w.heap.size + 1 + 1, 0, none⟩), .pointer (some ⟨w.heap.size + 1 + 1 + 1, 0, none⟩), .pointer (some ⟨w.heap.size + 1 + 1 + 1 + 1, 0, none⟩)] ] 83)
  replace KVA := KVA.alloc (.cells #[.func (.func 49) #[] #[.pointer (some ⟨w.heap.size + 1 + 1, 0, none⟩), .pointer (some ⟨w.heap.size + 1 + 1 + 1, 0, none⟩), .pointer (some ⟨w.heap.size + 1 + 1 + 1 + 1, 0, none⟩)] ] 83)
  replace KS := KS.alloc (.cells #[.func (.func 49) #[] #[.pointer (some ⟨w.heap.size + 1 + 1, 0, none⟩), .pointer (some ⟨w.heap.size + 1 + 1 + 1, 0, none⟩), .pointer (some ⟨w.heap.size + 1 + 1 + 1 + 1, 0, none⟩)] ] 83)
  replace KR := KR.alloc (.cells #[.func (.func 49) #[] #[.pointer (some ⟨w.heap.size + 1 + 1, 0, none⟩), .pointer (some ⟨w.heap.size + 1 + 1 + 1, 0, none⟩), .pointer (some ⟨w.heap.size + 1 + 1 + 1 + 1, 0, none⟩)] ] 83)
  replace KA := KA.alloc (.cells #[.func (.func 49) #[] #[.pointer (some ⟨w.heap.size + 1 + 1, 0, none⟩), .pointer (some ⟨w.heap.size + 1 + 1 + 1, 0, none⟩), .pointer (some ⟨w.heap.size + 1 + 1 + 1 + 1, 0, none⟩)] ] 83)
  replace KN := KN.alloc (.cells #[.func (.func 49) #[] #[.pointer (some ⟨w.heap.size + 1 + 1, 0, none⟩), .pointer (some ⟨w.heap.size + 1 + 1 + 1, 0, none⟩), .pointer (some ⟨w.heap.size + 1 + 1 + 1 + 1, 0, none⟩)] ] 83)
  have KF := kp_new1 ((((w.alloc (.cells #[.int .i64 s] 2)).alloc (.cells #[.int .i64 r] 2)).alloc (.cells #[.slice q ats.length c'] 54)).alloc (.cells #[.func (.func 48) #[] #[.pointer (some ⟨w.heap.size, 0, none⟩), .pointer (some ⟨w.heap.size + 1, 0, none⟩)] ] 51)) #[.func (.func 49) #[] #[.pointer (some ⟨w.heap.size + 1 + 1, 0, none⟩), .pointer (some ⟨w.heap.size + 1 + 1 + 1, 0, none⟩), .pointer (some ⟨w.heap.size + 1 + 1 + 1 + 1, 0, none⟩)] ] 83 (g := w.heap.size + 1 + 1 + 1 + 1) (by simp)
  have HZ := Lib.hid (show (((((w.alloc (.cells #[.int .i64 s] 2)).alloc (.cells #[.int .i64 r] 2)).alloc (.cells #[.slice q ats.length c'] 54)).alloc (.cells #[.func (.func 48) #[] #[.pointer (some ⟨w.heap.size, 0, none⟩), .pointer (some ⟨w.heap.size + 1, 0, none⟩)] ] 51)).alloc (.cells #[.func (.func 49) #[] #[.pointer (some ⟨w.heap.size + 1 + 1, 0, none⟩), .pointer (some ⟨w.heap.size + 1 + 1 + 1, 0, none⟩), .pointer (some ⟨w.heap.size + 1 + 1 + 1 + 1, 0, none⟩)] ] 83)).heap.size = w.heap.size + 1 + 1 + 1 + 1 + 1 by simp)
  go_enter Try.func29, Try.ntmps29
  go_wp2
  generalize (((((w.alloc (.cells #[.int .i64 s] 2)).alloc (.cells #[.int .i64 r] 2)).alloc (.cells #[.slice q ats.length c'] 54)).alloc (.cells #[.func (.func 48) #[] #[.pointer (some ⟨w.heap.size, 0, none⟩), .pointer (some ⟨w.heap.size + 1, 0, none⟩)] ] 51)).alloc (.cells #[.func (.func 49) #[] #[.pointer (some ⟨w.heap.size + 1 + 1, 0, none⟩), .pointer (some ⟨w.heap.size + 1 + 1 + 1, 0, none⟩), .pointer (some ⟨w.heap.size + 1 + 1 + 1 + 1, 0, none⟩)] ] 83)) = W at KB KVA KS KR KA KN KF HZ ⊢
  clear HZ
  have KSE := SeesF.kp ⟨KA.here, KS.here, KR.here, KN.here, KF.here⟩
  clear KA KS KR KN KF
  have HBW := Lib.hid KB.here
  go_loopw [9] (fun i w' => Below W.heap.size W w' ∧ ∃ k : Nat, k ≤ ats.length ∧ i = .int .i64 k ∧ ∀ y, y < k → spl s r ats y ats.length [] 0 = false) (fun i _ => 20 - (intOf i).toNat)
  case atStart => exact ⟨Below.refl _ _, 0, by omega, rfl, fun y hy => by omega⟩
  case round =>
    obtain ⟨hb, k, hk, rfl, hno⟩ := hrel
    replace KVA := KVA.on hb
    replace KSE := KSE.on hb
    replace KB := KB.on hb
    have HNO := Lib.hid hno; clear hno
    have HB2 := Lib.hid KB.here
    have hcall := fits_any _ _ _ _ _ base s r ats (.slice q ats.length c') k hs hl HATS.out (by omega) ats.length [] (.slice none 0 0) 0 wr (by simp) (by omega) (Nat.le_trans hbW HB2.out.size) KSE.here KVA.here (OwnI.none0 _ _)
    have HCALL := Lib.hid hcall; clear hcall
    cases hsp : spl s r ats k ats.length [] 0
    · have hne : k ≠ ats.length := fun e => by rw [e, HF.out] at hsp; cases hsp
      rw [hsp] at HCALL
      have HSP := Lib.hid hsp; clear hsp
      go_wp2_with (first | (with_reducible refine load_fn _ rfl (w.heap.size + 1 + 1 + 1 + 1) rfl _ _ _ ((row_cell 0 KSE.here.f).trans rfl) rfl ?_) | fail)
      refine HCALL.out.mono ?_
      rintro e w6 ⟨rfl, hb6⟩
      have HB6 := Lib.hid hb6; clear hb6
      go_wp2
      go_roundw
      case rel => exact ⟨hb.trans (HB6.out.mono hb.size), k + 1, by omega, by go_num, fun y hy => if e : y = k then by rw [e]; exact HSP.out else HNO.out y (by omega)⟩
      case measure => simp [intOf]; omega
    · rw [hsp] at HCALL
      have HN := Lib.hid (need_at s r ats hsp (fun y hy => HNO.out y hy) hk)
      clear hsp
      go_wp2_with (first | (with_reducible refine load_fn _ rfl (w.heap.size + 1 + 1 + 1 + 1) rfl _ _ _ ((row_cell 0 KSE.here.f).trans rfl) rfl ?_) | fail)
      refine HCALL.out.mono ?_
      rintro e w6 ⟨rfl, hb6⟩
      have HB6 := Lib.hid hb6; clear hb6
      go_wp2
      go_ret
      exact ⟨ret_int (by rw [HN.out]), HB2.out.trans (HB6.out.mono HB2.out.size)⟩
end Go.Proofs.Yteffaghcjpeblaa
