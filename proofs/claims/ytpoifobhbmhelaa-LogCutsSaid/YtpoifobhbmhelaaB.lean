import Derived.Test.YtpoifobhbmhelaaA
import Derived.MapKept
import Derived.ChangeMaps5
set_option linter.unusedVariables false
set_option linter.unusedSimpArgs false
namespace Go.Proofs.Ytpoifobhbmhelaa
open Go.RowKit
theorem hold_ins {P : Program} {ops : Array Oper} {rest : List Oper} {op : Oper} {a : Act} {w : World} {Q : Exit → Act → World → Prop} (ty : TypeId) (m x v : Operand) (_ : op.op = .insert ty m x v) (h : Hid (wpList P ops Q (op :: rest) a w)) : wpList P ops Q (op :: rest) a w := h.out
theorem hold_look {P : Program} {ops : Array Oper} {rest : List Oper} {op : Oper} {a : Act} {w : World} {Q : Exit → Act → World → Prop} (ty : TypeId) (m x : Operand) (c : Bool) (_ : op.op = .lookup ty m x c) (h : Hid (wpList P ops Q (op :: rest) a w)) : wpList P ops Q (op :: rest) a w := h.out
theorem run_und (t : TypeId) {d : TypeDesc} (h : Try.prog.underlying t = some d) (w : World) : (underlying t).run Try.prog w = .ok d w := run_underlying h w
theorem check22n (n : Nat) (b : Bool) (k : Int) (w : World) : (Instr.checkKey b (n + 1) 22 (.int .i64 k)).run Try.prog w = .ok () w := by
  simp only [Instr.checkKey, Sem.run_bind, run_und 22 Try.underlying22, Result.andThen_ok, Sem.run_pure]
theorem check22 (b : Bool) (k : Int) (w : World) : (Instr.checkKey b 10000 22 (.int .i64 k)).run Try.prog w = .ok () w := check22n 9999 b k w
theorem insert_run {w : World} {B : Nat} {es : List MapEntry} {clk : Nat} (k : Int) (v : Value) (hb : w.heap[B]? = some (.map es.toArray clk)) (hf : Instr.findNow (.int .i64) (.int .i64 k) es 0 = some none) :
    (Instr.mapUpdate 88 (.map (some B)) (.int .i64 k) v).run Try.prog w = .ok () (ChangeMaps.setBlock w B (.map (es ++ [MapEntry.mk (.int .i64 k) v clk]).toArray (clk + 1))) := by
  simp [Instr.mapUpdate, run_und 88 Try.underlying88, MapKept.run_getObj_map hb, check22, Instr.findKey, run_und 22 Try.underlying22, hf, MapKept.run_setObj_map _ hb, Result.andThen, ChangeMaps.setBlock]
theorem look_hit {w : World} {B : Nat} {es : List MapEntry} {clk : Nat} (k : Int) (i : Nat) (v : Value) (hb : w.heap[B]? = some (.map es.toArray clk)) (hf : Instr.findNow (.int .i64) (.int .i64 k) es 0 = some (some (i, v))) :
    (Instr.lookup 88 (.map (some B)) (.int .i64 k) true).run Try.prog w = .ok (.tuple #[v, .bool true]) w := by
  simp [Instr.lookup, run_und 88 Try.underlying88, MapKept.run_getObj_map hb, check22, Instr.findKey, run_und 22 Try.underlying22, hf, Result.andThen]
theorem zero86 (w : World) : (zeroValue 86).run Try.prog w = .ok (.agg #[.int .i64 0, .int .i64 0, .int .i64 0, .int .i64 0]) w := by kernel_rfl
theorem look_miss {w : World} {B : Nat} {es : List MapEntry} {clk : Nat} (k : Int) (hb : w.heap[B]? = some (.map es.toArray clk)) (hf : Instr.findNow (.int .i64) (.int .i64 k) es 0 = some none) :
    (Instr.lookup 88 (.map (some B)) (.int .i64 k) true).run Try.prog w = .ok (.tuple #[.agg #[.int .i64 0, .int .i64 0, .int .i64 0, .int .i64 0], .bool false]) w := by
  simp [Instr.lookup, run_und 88 Try.underlying88, MapKept.run_getObj_map hb, check22, Instr.findKey, run_und 22 Try.underlying22, hf, zero86, Result.andThen]
theorem wpList_ins {ops : Array Oper} {rest : List Oper} {o : Oper} {a : Act} {w : World} {Q : Exit → Act → World → Prop} (hg : o.guard = none) (m x v : Operand) (hop : o.op = .insert 88 m x v) (B : Nat) (es : List MapEntry) (clk : Nat) (k : Int) (val : Value)
    (hm : a.eval m = .map (some B)) (hx : a.eval x = .int .i64 k) (hv : a.eval v = val) (hb : w.heap[B]? = some (.map es.toArray clk)) (hf : Instr.findNow (.int .i64) (.int .i64 k) es 0 = some none)
    (h : ∀ w', w'.heap[B]? = some (.map (es ++ [MapEntry.mk (.int .i64 k) val clk]).toArray (clk + 1)) → w.grownBy w' (some B) → wpList Try.prog ops Q rest (a.put o.dst undef) w') : wpList Try.prog ops Q (o :: rest) a w := by
  refine wpList_plain hg fun K hK => ?_
  have hrun := insert_run k val hb hf
  unfold Oper.wp
  simp only [execOp, hop, hm, hx, hv, Sem.run_bind, hrun, Sem.run_pure, Result.andThen_ok]
  exact hK _ _ (h _ (ChangeMaps.heap_setBlock_same hb _) ⟨rfl, rfl, rfl, by simp [ChangeMaps.setBlock], fun i _ hi => ChangeMaps.heap_setBlock_other hb _ (fun e => hi (by rw [e]))⟩)
abbrev KV (l g f m : Int) : Value := .agg #[.int .i64 l, .int .i64 g, .int .i64 f, .int .i64 m]
def kindsL : List MapEntry := [⟨.int .i64 1, KV 0 65535 0 2048, 0⟩, ⟨.int .i64 2, KV 0 255 0 64, 1⟩, ⟨.int .i64 3, KV 0 0 0 256, 2⟩, ⟨.int .i64 4, KV 0 0 0 64, 3⟩, ⟨.int .i64 5, KV 1 4 2 2, 4⟩, ⟨.int .i64 6, KV 1 4 2 2, 5⟩, ⟨.int .i64 7, KV 0 0 2 2, 6⟩]
set_option maxRecDepth 100000 in
theorem kinds_any (w : World) : Calls Try.prog 48 #[] w fun e w' => ∃ B, e = .returned (.map (some B)) ∧ w.heap.size ≤ B ∧ w'.heap[B]? = some (.map kindsL.toArray 7) ∧ w.grownBy w' none := by
  go_enter Try.func48, Try.ntmps48
  have hb0 : (w.alloc (.map #[] 0)).heap[w.heap.size]? = some (.map #[] 0) := heap_alloc_new w _
  have hg0 : w.grownBy (w.alloc (.map #[] 0)) none := World.grownBy_alloc _ _ _
  have hmm := @run_makeMap Try.prog
  go_wp2_with (with_reducible refine hold_ins 88 _ _ _ rfl ?_)
  apply Lib.hid
  refine wpList_ins rfl _ _ _ rfl w.heap.size [] 0 1 (KV 0 65535 0 2048) rfl rfl rfl hb0 (by rfl) ?_
  intro w1 hb1 hg1x
  have hg1 : w.grownBy w1 none := grown_new hg0 hg1x (Nat.le_refl _)
  clear hb0 hg0 hg1x
  go_wp2_with (with_reducible refine hold_ins 88 _ _ _ rfl ?_)
  apply Lib.hid
  refine wpList_ins rfl _ _ _ rfl w.heap.size [⟨.int .i64 1, KV 0 65535 0 2048, 0⟩] 1 2 (KV 0 255 0 64) rfl rfl rfl hb1 (by rfl) ?_
  intro w2 hb2 hg2x
  have hg2 : w.grownBy w2 none := grown_new hg1 hg2x (Nat.le_refl _)
  clear hb1 hg1 hg2x
  go_wp2_with (with_reducible refine hold_ins 88 _ _ _ rfl ?_)
  apply Lib.hid
  refine wpList_ins rfl _ _ _ rfl w.heap.size [⟨.int .i64 1, KV 0 65535 0 2048, 0⟩, ⟨.int .i64 2, KV 0 255 0 64, 1⟩] 2 3 (KV 0 0 0 256) rfl rfl rfl hb2 (by rfl) ?_
  intro w3 hb3 hg3x
  have hg3 : w.grownBy w3 none := grown_new hg2 hg3x (Nat.le_refl _)
  clear hb2 hg2 hg3x
  go_wp2_with (with_reducible refine hold_ins 88 _ _ _ rfl ?_)
  apply Lib.hid
  refine wpList_ins rfl _ _ _ rfl w.heap.size [⟨.int .i64 1, KV 0 65535 0 2048, 0⟩, ⟨.int .i64 2, KV 0 255 0 64, 1⟩, ⟨.int .i64 3, KV 0 0 0 256, 2⟩] 3 4 (KV 0 0 0 64) rfl rfl rfl hb3 (by rfl) ?_
  intro w4 hb4 hg4x
  have hg4 : w.grownBy w4 none := grown_new hg3 hg4x (Nat.le_refl _)
  clear hb3 hg3 hg4x
  go_wp2_with (with_reducible refine hold_ins 88 _ _ _ rfl ?_)
  apply Lib.hid
  refine wpList_ins rfl _ _ _ rfl w.heap.size [⟨.int .i64 1, KV 0 65535 0 2048, 0⟩, ⟨.int .i64 2, KV 0 255 0 64, 1⟩, ⟨.int .i64 3, KV 0 0 0 256, 2⟩, ⟨.int .i64 4, KV 0 0 0 64, 3⟩] 4 5 (KV 1 4 2 2) rfl rfl rfl hb4 (by rfl) ?_
  intro w5 hb5 hg5x
  have hg5 : w.grownBy w5 none := grown_new hg4 hg5x (Nat.le_refl _)
  clear hb4 hg4 hg5x
  go_wp2_with (with_reducible refine hold_ins 88 _ _ _ rfl ?_)
  apply Lib.hid
  refine wpList_ins rfl _ _ _ rfl w.heap.size [⟨.int .i64 1, KV 0 65535 0 2048, 0⟩, ⟨.int .i64 2, KV 0 255 0 64, 1⟩, ⟨.int .i64 3, KV 0 0 0 256, 2⟩, ⟨.int .i64 4, KV 0 0 0 64, 3⟩, ⟨.int .i64 5, KV 1 4 2 2, 4⟩] 5 6 (KV 1 4 2 2) rfl rfl rfl hb5 (by rfl) ?_
  intro w6 hb6 hg6x
  have hg6 : w.grownBy w6 none := grown_new hg5 hg6x (Nat.le_refl _)
  clear hb5 hg5 hg6x
  go_wp2_with (with_reducible refine hold_ins 88 _ _ _ rfl ?_)
  apply Lib.hid
  refine wpList_ins rfl _ _ _ rfl w.heap.size [⟨.int .i64 1, KV 0 65535 0 2048, 0⟩, ⟨.int .i64 2, KV 0 255 0 64, 1⟩, ⟨.int .i64 3, KV 0 0 0 256, 2⟩, ⟨.int .i64 4, KV 0 0 0 64, 3⟩, ⟨.int .i64 5, KV 1 4 2 2, 4⟩, ⟨.int .i64 6, KV 1 4 2 2, 5⟩] 6 7 (KV 0 0 2 2) rfl rfl rfl hb6 (by rfl) ?_
  intro w7 hb7 hg7x
  have hg7 : w.grownBy w7 none := grown_new hg6 hg7x (Nat.le_refl _)
  clear hb6 hg6 hg7x
  go_wp2
  go_ret
  exact ⟨_, rfl, Nat.le_refl _, hb7, hg7⟩
end Go.Proofs.Ytpoifobhbmhelaa
