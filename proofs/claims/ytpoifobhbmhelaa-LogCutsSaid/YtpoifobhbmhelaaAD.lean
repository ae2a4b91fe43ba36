/- log.Decode's deferred closure: what it does behind a return, behind a panic. -/
import Derived.Test.YtpoifobhbmhelaaAB
import Derived.Defers
import Derived.Recover
set_option linter.unusedVariables false
set_option linter.unusedSimpArgs false
namespace Go.Proofs.Ytpoifobhbmhelaa
open Go.RowKit
set_option maxHeartbeats 4000000 in
set_option maxRecDepth 100000 in
theorem catch_idle (E M R : Nat) (w : World) :
    CallsD Try.prog 31 #[.pointer (some ⟨E, 0, none⟩), .pointer (some ⟨M, 0, none⟩), .pointer (some ⟨R, 0, none⟩)] .returning w fun e u' w' => e = .returned (.tuple #[]) ∧ u' = .returning ∧ w' = w := by
  refine callsD_of_wpS Try.func31 rfl fun c₀ cs hu => ?_
  apply wpS_seq
  apply wpS_region
  simp [wpOpsS, go_sem, recoverD, hu, Try.ntmps31, Exit.thenS]
  refine wpS_of_wp (wp_mono (Q := fun e a' w' => e = .normal ∧ a'.defers = [] ∧ w' = w) ?_ ?_)
  · go_wp2
  · rintro _ a' _ ⟨rfl, hd, rfl⟩
    refine ⟨hd, .returning, ?_, .tuple #[], results_none rfl _ _ _, rfl, rfl, rfl⟩
    cases c₀
    simp_all
theorem assert66 (v : Value) (w : World) : (Instr.typeAssert (.iface 66 v) 20 66 true).run Try.prog w = .ok (.tuple #[v, .bool true]) w := by
  simp [Instr.typeAssert, go_sem]
/-- What the closure does behind a panic. -/
def Caught (E M R : Nat) (err : Int) (w w' : World) : Prop :=
  w'.heap[E]? = some (.cells #[.int .i64 err] 32 (0, 0)) ∧ (err ≠ 0 → w'.heap[M]? = some (.cells lz.toArray 31 (0, 0)) ∧ w'.heap[R]? = some (.cells #[.int .i64 0] 3 (0, 0))) ∧ (err = 0 → w'.heap[M]? = w.heap[M]? ∧ w'.heap[R]? = w.heap[R]?) ∧ Keeps (fun k => k = E ∨ k = M ∨ k = R) w w'
set_option maxHeartbeats 4000000 in
set_option maxRecDepth 100000 in
theorem catch_fail (E M R : Nat) (err e0 r0 : Int) (cs0 : List Value) (older : List PanicEntry) (w : World) (hE : w.heap[E]? = some (.cells #[.int .i64 e0] 32 (0, 0))) (hM : w.heap[M]? = some (.cells cs0.toArray 31 (0, 0))) (h6 : cs0.length = 6) (hR : w.heap[R]? = some (.cells #[.int .i64 r0] 3 (0, 0))) :
    CallsD Try.prog 31 #[.pointer (some ⟨E, 0, none⟩), .pointer (some ⟨M, 0, none⟩), .pointer (some ⟨R, 0, none⟩)] (.panicking ({ v := .iface 66 (.agg #[.int .i64 err]), recovered := false } :: older)) w fun e u' w' => e = .returned (.tuple #[]) ∧ u' = .panicking ({ v := .iface 66 (.agg #[.int .i64 err]), recovered := true } :: older) ∧ Caught E M R err w w' := by
  have hEM : ¬ E = M := fun e => by subst e; rw [hE] at hM; cases hM
  have hER : ¬ E = R := fun e => by subst e; rw [hE] at hR; cases hR
  have hMR : ¬ M = R := fun e => by subst e; rw [hM] at hR; cases hR
  have HE := Lib.hid hE
  have HM := Lib.hid hM
  have HR := Lib.hid hR
  have H6 := Lib.hid h6
  have HGA := Lib.hid (World.grownBy_alloc w (.cells #[.int .i64 err] 66) none)
  have HE2 := Lib.hid (keep_blk HGA.out hE)
  have e1 := cells_all HE2.out 0
  have e2 := frozen_all HE2.out 0
  have hne : ¬ E = w.heap.size := by have := lt_of_block hE; omega
  have gs := Lib.hid (grown_setCell (w.alloc (.cells #[.int .i64 err] 66)) E 0 (.int .i64 err))
  have HE3 := Lib.hid (heap_setCell_at (j := 0) (.int .i64 err) HE2.out)
  have HM3 := Lib.hid ((gs.out.block M (lt_of_block (keep_blk HGA.out hM)) (by simpa using fun e => hEM e.symm)).trans (keep_blk HGA.out hM))
  have HR3 := Lib.hid ((gs.out.block R (lt_of_block (keep_blk HGA.out hR)) (by simpa using fun e => hER e.symm)).trans (keep_blk HGA.out hR))
  have x1 : ((w.alloc (.cells #[.int .i64 err] 66)).setCell ⟨E, 0, none⟩ (.int .i64 err)).cell? ⟨E, 0, none⟩ = some (.int .i64 err) := cells_all HE3.out 0
  clear hE hM h6 hR
  refine callsD_of_wpS Try.func31 rfl fun c₀ cs hu => ?_
  apply wpS_seq
  apply wpS_region
  simp [wpOpsS, go_sem, recoverD, hu, Try.ntmps31, Exit.thenS]
  simp only [Array.replicate_succ, Array.replicate_zero, List.push_toArray, List.append_toArray, List.nil_append, List.cons_append, List.setIfInBounds_toArray, List.set_cons_zero, List.set_cons_succ]
  have ha := fun (v : Value) (w : World) => assert66 v w
  refine wpS_of_wp (wp_mono (Q := fun e a' w' => e = .normal ∧ a'.defers = [] ∧ Caught E M R err w w') ?_ ?_)
  · by_cases h0 : err = 0
    · have HC := Lib.hid (show Caught E M R err w ((w.alloc (.cells #[.int .i64 err] 66)).setCell ⟨E, 0, none⟩ (.int .i64 err)) from ⟨HE3.out, fun h => absurd h0 h, fun _ => ⟨HM3.out.trans HM.out.symm, HR3.out.trans HR.out.symm⟩, (Keeps.keep HGA.out).trans (Keeps.row gs.out (.inl rfl))⟩)
      have hb : (err != 0) = false := by simp [h0]
      clear h0
      go_wp2
      first | exact ⟨rfl, rfl, HC.out⟩ | exact ⟨rfl, HC.out⟩ | exact HC.out
    · have hb : (err != 0) = true := by simp [h0]
      have HNZ := Lib.hid h0
      clear h0
      go_wp2_with (with_reducible refine hold_st 31 _ _ rfl ?_)
      apply Lib.hid
      with_reducible refine wpList_store_all rfl 31 _ _ rfl _ ?cs8001 ?hx8001 ?hy8001 _ _ HM3.out ?hf8001 _ ?hl8001 Try.size31 ?h18001 ?_
      case hy8001 => exact rfl
      case hx8001 => exact rfl
      case hf8001 => exact H6.out.symm
      case hl8001 => exact rfl
      case h18001 => simp [allOne, Value.oneCell']
      intro u9 hb9 hg9
      have hE9 := (hg9.block E (lt_of_block HE3.out) (by simpa using hEM)).trans HE3.out
      have hR9 := (hg9.block R (lt_of_block HR3.out) (by simpa using fun e => hMR e.symm)).trans HR3.out
      have y1 := cells_all hR9 0
      have y2 := frozen_all hR9 0
      have gs2 := grown_setCell u9 R 0 (.int .i64 0)
      have HC := Lib.hid (show Caught E M R err w (u9.setCell ⟨R, 0, none⟩ (.int .i64 0)) from ⟨(gs2.block E (lt_of_block hE9) (by simpa using hER)).trans hE9, fun _ => ⟨(gs2.block M (lt_of_block hb9) (by simpa using hMR)).trans hb9, heap_setCell_at (j := 0) _ hR9⟩, fun h => absurd h HNZ.out, (((Keeps.keep HGA.out).trans (Keeps.row gs.out (.inl rfl))).trans (Keeps.row hg9 (.inr (.inl rfl)))).trans (Keeps.row gs2 (.inr (.inr rfl)))⟩)
      clear hE9 hR9 gs2 hb9 hg9
      go_wp2
      first | exact ⟨rfl, rfl, HC.out⟩ | exact ⟨rfl, HC.out⟩ | exact HC.out
  · rintro _ a' _ ⟨rfl, hd, hw⟩
    refine ⟨hd, .panicking ({ v := .iface 66 (.agg #[.int .i64 err]), recovered := true } :: older), ?_, .tuple #[], results_none rfl _ _ _, rfl, rfl, hw⟩
    cases c₀
    simp_all
end Go.Proofs.Ytpoifobhbmhelaa
