import Derived.Test.YtcahpmlajfbidaaA
import Derived.Test.YtcahpmlajfbidaaBlk
namespace Go.Proofs.Ytcahpmlajfbidaa
open Go.RowKit
theorem Try.size30 : (Try.prog.info? 30).map (·.size) = some 17 := by kernel_rfl
theorem Try.size27 : (Try.prog.info? 27).map (·.size) = some 4 := by kernel_rfl
theorem Try.size62 : (Try.prog.info? 62).map (·.size) = some 17 := by kernel_rfl
/-- Two new blocks. -/
theorem two_new (w : World) (a b : Obj) : w.grownBy ((w.alloc a).alloc b) none ∧ ((w.alloc a).alloc b).heap[w.heap.size]? = some a ∧ ((w.alloc a).alloc b).heap[w.heap.size + 1]? = some b := by
  refine ⟨(World.grownBy_alloc w a none).trans (World.grownBy_alloc _ b none), (heap_alloc_old (w.alloc a) b (by simp)).trans (heap_alloc_new w a), ?_⟩
  have := heap_alloc_new (w.alloc a) b
  rwa [World.size_alloc] at this
theorem ld30 {w : World} {b : Nat} {T : Tl} {t : TypeId} {fz : Nat × Nat} (h : w.heap[b]? = some (.cells T.cells t fz)) : (Instr.loadAt 30 (.pointer (some ⟨b, 0, none⟩))).run Try.prog w = .ok T.val w := load_blk 0 30 17 h rfl Try.underlying30 rfl Try.size30
theorem st30 {w : World} {b : Nat} {T : Tl} {t : TypeId} (U : Tl) (h : w.heap[b]? = some (.cells T.cells t (0, 0))) : ∃ w', (Instr.storeAt 30 (.pointer (some ⟨b, 0, none⟩)) U.val).run Try.prog w = .ok () w' ∧ w'.heap[b]? = some (.cells U.cells t (0, 0)) ∧ w.grownBy w' (some b) :=
  store_all 30 [.bool U.a.th, .int .u32 U.a.page, .int .u32 U.a.frame, .bool U.a.wr, .bool U.b.th, .int .u32 U.b.page, .int .u32 U.b.frame, .bool U.b.wr, .bool U.c.th, .int .u32 U.c.page, .int .u32 U.c.frame, .bool U.c.wr, .bool U.d.th, .int .u32 U.d.page, .int .u32 U.d.frame, .bool U.d.wr, .int .i64 U.next] h rfl Try.size30 (by simp [allOne, Value.oneCell'])
abbrev zeros : Array Value := #[.bool false, .int .u32 0, .int .u32 0, .bool false, .bool false, .int .u32 0, .int .u32 0, .bool false, .bool false, .int .u32 0, .int .u32 0, .bool false, .bool false, .int .u32 0, .int .u32 0, .bool false, .int .i64 0]
theorem zeros_eq : zeros = Tl.no.cells := rfl
theorem hold_ld {P : Program} {ops : Array Oper} {rest : List Oper} {op : Oper} {a : Act} {w : World} {Q : Exit → Act → World → Prop} (ty : TypeId) (x : Operand) (_ : op.op = .load ty x) (h : Hid (wpList P ops Q (op :: rest) a w)) : wpList P ops Q (op :: rest) a w := h.out
theorem hold_st {P : Program} {ops : Array Oper} {rest : List Oper} {op : Oper} {a : Act} {w : World} {Q : Exit → Act → World → Prop} (ty : TypeId) (x y : Operand) (_ : op.op = .store ty x y) (h : Hid (wpList P ops Q (op :: rest) a w)) : wpList P ops Q (op :: rest) a w := h.out
end Go.Proofs.Ytcahpmlajfbidaa
