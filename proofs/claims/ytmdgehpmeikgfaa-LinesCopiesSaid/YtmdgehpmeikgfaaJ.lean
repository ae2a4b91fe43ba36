import Derived.Test.YtmdgehpmeikgfaaI
import Derived.Test.YtmdgehpmeikgfaaE
namespace Go.Proofs.Ytmdgehpmeikgfaa
open Go.RowKit
/-- The document's lines. -/
structure Rf where
  alarm : Int
  mask : Int
  f0 : Bool
  f1 : Bool
  f2 : Bool
  f3 : Bool
  pa : Option Addr
  pn : Nat
  pc : Nat
  taken : Int
  ta : Option Addr
  tn : Nat
  tc : Nat
abbrev Rf.cells (r : Rf) : Array Value := #[.int .u32 r.alarm, .int .u32 r.mask, .bool r.f0, .bool r.f1, .bool r.f2, .bool r.f3, .slice r.pa r.pn r.pc, .int .i64 r.taken, .slice r.ta r.tn r.tc]
abbrev Rf.val (r : Rf) : Value := .agg r.cells
def Rf.zero : Rf := ⟨0, 0, false, false, false, false, none, 0, 0, 0, none, 0, 0⟩
theorem Try.size29 : (Try.prog.info? 29).map (·.size) = some 9 := by kernel_rfl
theorem two_new (w : World) (a b : Obj) : w.grownBy ((w.alloc a).alloc b) none ∧ ((w.alloc a).alloc b).heap[w.heap.size]? = some a ∧ ((w.alloc a).alloc b).heap[w.heap.size + 1]? = some b := by
  refine ⟨(World.grownBy_alloc w a none).trans (World.grownBy_alloc _ b none), (heap_alloc_old (w.alloc a) b (by simp)).trans (heap_alloc_new w a), ?_⟩
  have := heap_alloc_new (w.alloc a) b
  rwa [World.size_alloc] at this
theorem hold_ld {P : Program} {ops : Array Oper} {rest : List Oper} {op : Oper} {a : Act} {w : World} {Q : Exit → Act → World → Prop} (ty : TypeId) (x : Operand) (_ : op.op = .load ty x) (h : Hid (wpList P ops Q (op :: rest) a w)) : wpList P ops Q (op :: rest) a w := h.out
theorem hold_st {P : Program} {ops : Array Oper} {rest : List Oper} {op : Oper} {a : Act} {w : World} {Q : Exit → Act → World → Prop} (ty : TypeId) (x y : Operand) (_ : op.op = .store ty x y) (h : Hid (wpList P ops Q (op :: rest) a w)) : wpList P ops Q (op :: rest) a w := h.out
theorem results_c29 {fn : Func} {p : Tmp} (h : fn.results = #[.cell p 29]) (tmps : Array Value) (w : World) (g : Nat) (cs : Array Value) (hs : cs.size = 9)
    (hp : tmps.getD p undef = .pointer (some ⟨g, 0, none⟩)) (hg : w.heap[g]? = some (.cells cs 29 (0, 0))) : (results fn tmps).run Try.prog w = .ok (.agg cs) w := by
  have hp' : tmps[p]?.getD undef = .pointer (some ⟨g, 0, none⟩) := by simpa using hp
  have hl := run_loadVar_row (P := Try.prog) w g 29 29 cs (0, 0) _ hg Try.underlying29 rfl (by rw [hs]; exact Try.size29)
  simp [results, h, hp', asAddr, hl]
theorem results_c29t {fn : Func} {p t : Tmp} (h : fn.results = #[.cell p 29, .tmp t]) (tmps : Array Value) (w : World) (g : Nat) (cs : Array Value) (hs : cs.size = 9)
    (hp : tmps.getD p undef = .pointer (some ⟨g, 0, none⟩)) (hg : w.heap[g]? = some (.cells cs 29 (0, 0))) : (results fn tmps).run Try.prog w = .ok (.tuple #[.agg cs, tmps.getD t undef]) w := by
  have hp' : tmps[p]?.getD undef = .pointer (some ⟨g, 0, none⟩) := by simpa using hp
  have hl := run_loadVar_row (P := Try.prog) w g 29 29 cs (0, 0) _ hg Try.underlying29 rfl (by rw [hs]; exact Try.size29)
  simp [results, h, hp', asAddr, hl]
set_option maxHeartbeats 4000000 in
theorem rsetMask (r : Rf) (m : Nat) (w : World) : Calls Try.prog 12 #[r.val, .int .u32 m] w fun e w' => e = .returned ({ r with mask := (m : Int) % 16 } : Rf).val ∧ w.grownBy w' none := by
  obtain ⟨hg, h1, h2⟩ := two_new w (.cells ({ r with mask := (m : Int) % 16 } : Rf).cells 29) (.cells Rf.zero.cells 29)
  have HX := Lib.hid (show _ from h1)
  have HR := Lib.hid h2
  have HG := Lib.hid hg
  clear hg h1 h2
  go_enter Try.func12, Try.ntmps12
  go_wp2_with (with_reducible refine hold_ld 29 _ rfl ?_)
  apply Lib.hid
  with_reducible refine wpList_load_blk rfl 29 _ rfl _ ?o3001 ?hx3001 _ _ _ HX.out _ 9 ?hn3001 Try.underlying29 rfl Try.size29 ?_
  case hx3001 => exact rfl
  case hn3001 => exact rfl
  go_wp2_with (with_reducible refine hold_st 29 _ _ rfl ?_)
  apply Lib.hid
  with_reducible refine wpList_store_all rfl 29 _ _ rfl _ ?cs3002 ?hx3002 ?hy3002 _ _ HR.out ?hf3002 _ ?hl3002 Try.size29 ?h13002 ?_
  case hy3002 => exact rfl
  case hx3002 => exact rfl
  case hf3002 => exact rfl
  case hl3002 => exact rfl
  case h13002 => simp [allOne, Value.oneCell']
  intro w2 hb2 hg2
  have HR2 := Lib.hid hb2
  have HG2 := Lib.hid (grown_new HG.out hg2 (by simp))
  clear hb2 hg2
  go_wp2
  refine bodyPost_ret (results_c29 rfl _ _ _ _ (by rfl) (by rfl) HR2.out) (by rfl) ?_
  exact ⟨rfl, HG2.out⟩
set_option maxHeartbeats 4000000 in
theorem rraise_bad (r : Rf) (line : Int) (up : Bool) (hl : line ≠ 2) (hl3 : line ≠ 3) (w : World) : Calls Try.prog 16 #[r.val, .int .i64 line, .bool up] w fun e w' => e = .returned (.tuple #[r.val, .int .i64 2]) ∧ w.grownBy w' none := by
  have e2 : (line != 2) = true := by simp [hl]
  have e3 : (line != 3) = true := by simp [hl3]
  obtain ⟨hg, h1, h2⟩ := two_new w (.cells (r).cells 29) (.cells Rf.zero.cells 29)
  have HX := Lib.hid (show _ from h1)
  have HR := Lib.hid h2
  have HG := Lib.hid hg
  clear hg h1 h2
  go_enter Try.func16, Try.ntmps16
  go_wp2_with (with_reducible refine hold_ld 29 _ rfl ?_)
  apply Lib.hid
  with_reducible refine wpList_load_blk rfl 29 _ rfl _ ?o3003 ?hx3003 _ _ _ HX.out _ 9 ?hn3003 Try.underlying29 rfl Try.size29 ?_
  case hx3003 => exact rfl
  case hn3003 => exact rfl
  go_wp2_with (with_reducible refine hold_st 29 _ _ rfl ?_)
  apply Lib.hid
  with_reducible refine wpList_store_all rfl 29 _ _ rfl _ ?cs3004 ?hx3004 ?hy3004 _ _ HR.out ?hf3004 _ ?hl3004 Try.size29 ?h13004 ?_
  case hy3004 => exact rfl
  case hx3004 => exact rfl
  case hf3004 => exact rfl
  case hl3004 => exact rfl
  case h13004 => simp [allOne, Value.oneCell']
  intro w2 hb2 hg2
  have HR2 := Lib.hid hb2
  have HG2 := Lib.hid (grown_new HG.out hg2 (by simp))
  clear hb2 hg2
  go_wp2
  refine bodyPost_ret (results_c29t rfl _ _ _ _ (by rfl) (by rfl) HR2.out) (by rfl) ?_
  exact ⟨rfl, HG2.out⟩
set_option maxHeartbeats 4000000 in
theorem rraise_2 (r : Rf) (up : Bool) (w : World) : Calls Try.prog 16 #[r.val, .int .i64 2, .bool up] w fun e w' => e = .returned (.tuple #[({ r with f2 := up } : Rf).val, .int .i64 0]) ∧ w.grownBy w' none := by
  obtain ⟨hg, h1, h2⟩ := two_new w (.cells ({ r with f2 := up } : Rf).cells 29) (.cells Rf.zero.cells 29)
  have HX := Lib.hid (show _ from h1)
  have HR := Lib.hid h2
  have HG := Lib.hid hg
  clear hg h1 h2
  go_enter Try.func16, Try.ntmps16
  go_wp2_with (with_reducible refine hold_ld 29 _ rfl ?_)
  apply Lib.hid
  with_reducible refine wpList_load_blk rfl 29 _ rfl _ ?o3005 ?hx3005 _ _ _ HX.out _ 9 ?hn3005 Try.underlying29 rfl Try.size29 ?_
  case hx3005 => exact rfl
  case hn3005 => exact rfl
  go_wp2_with (with_reducible refine hold_st 29 _ _ rfl ?_)
  apply Lib.hid
  with_reducible refine wpList_store_all rfl 29 _ _ rfl _ ?cs3006 ?hx3006 ?hy3006 _ _ HR.out ?hf3006 _ ?hl3006 Try.size29 ?h13006 ?_
  case hy3006 => exact rfl
  case hx3006 => exact rfl
  case hf3006 => exact rfl
  case hl3006 => exact rfl
  case h13006 => simp [allOne, Value.oneCell']
  intro w2 hb2 hg2
  have HR2 := Lib.hid hb2
  have HG2 := Lib.hid (grown_new HG.out hg2 (by simp))
  clear hb2 hg2
  go_wp2
  refine bodyPost_ret (results_c29t rfl _ _ _ _ (by rfl) (by rfl) HR2.out) (by rfl) ?_
  exact ⟨rfl, HG2.out⟩
set_option maxHeartbeats 4000000 in
theorem rraise_3 (r : Rf) (up : Bool) (w : World) : Calls Try.prog 16 #[r.val, .int .i64 3, .bool up] w fun e w' => e = .returned (.tuple #[({ r with f3 := up } : Rf).val, .int .i64 0]) ∧ w.grownBy w' none := by
  obtain ⟨hg, h1, h2⟩ := two_new w (.cells ({ r with f3 := up } : Rf).cells 29) (.cells Rf.zero.cells 29)
  have HX := Lib.hid (show _ from h1)
  have HR := Lib.hid h2
  have HG := Lib.hid hg
  clear hg h1 h2
  go_enter Try.func16, Try.ntmps16
  go_wp2_with (with_reducible refine hold_ld 29 _ rfl ?_)
  apply Lib.hid
  with_reducible refine wpList_load_blk rfl 29 _ rfl _ ?o3007 ?hx3007 _ _ _ HX.out _ 9 ?hn3007 Try.underlying29 rfl Try.size29 ?_
  case hx3007 => exact rfl
  case hn3007 => exact rfl
  go_wp2_with (with_reducible refine hold_st 29 _ _ rfl ?_)
  apply Lib.hid
  with_reducible refine wpList_store_all rfl 29 _ _ rfl _ ?cs3008 ?hx3008 ?hy3008 _ _ HR.out ?hf3008 _ ?hl3008 Try.size29 ?h13008 ?_
  case hy3008 => exact rfl
  case hx3008 => exact rfl
  case hf3008 => exact rfl
  case hl3008 => exact rfl
  case h13008 => simp [allOne, Value.oneCell']
  intro w2 hb2 hg2
  have HR2 := Lib.hid hb2
  have HG2 := Lib.hid (grown_new HG.out hg2 (by simp))
  clear hb2 hg2
  go_wp2
  refine bodyPost_ret (results_c29t rfl _ _ _ _ (by rfl) (by rfl) HR2.out) (by rfl) ?_
  exact ⟨rfl, HG2.out⟩
/-- What the document says wants. -/
def Rf.wants (r : Rf) (line now : Int) : Bool := if line = 0 then decide (0 < r.alarm) && decide (r.alarm ≤ now) else if line = 1 then decide (r.taken < (r.pn : Nat)) else if line = 2 then r.f2 else if line = 3 then r.f3 else false
set_option maxHeartbeats 4000000 in
theorem rwants (r : Rf) (ha : 0 ≤ r.alarm) (ha2 : r.alarm < 4294967296) (line now : Int) (hl : line = 0 ∨ line = 1 ∨ line = 2 ∨ line = 3) (w : World) : Calls Try.prog 43 #[r.val, .int .i64 line, .int .i64 now] w fun e w' => e = .returned (.bool (r.wants line now)) ∧ w.grownBy w' none := by
  have HG := Lib.hid (World.grownBy_alloc w (.cells r.cells 29) none)
  have hw : IntKind.i64.wrap r.alarm = r.alarm := by rw [IntKind.wrap_i64]; omega
  rcases hl with rfl | rfl | rfl | rfl
  · by_cases h0 : 0 < r.alarm
    · have e : r.wants 0 now = decide (r.alarm ≤ now) := by simp [Rf.wants, h0]
      rw [e]
      go_enter Try.func43, Try.ntmps43
      go_wp2
      go_ret
      exact ⟨rfl, HG.out⟩
    · have e : r.wants 0 now = false := by simp [Rf.wants, h0]
      have hz : (0 < r.alarm) = False := eq_false h0
      rw [e]
      go_enter Try.func43, Try.ntmps43
      go_wp2
      go_ret
      exact ⟨rfl, HG.out⟩
  · go_enter Try.func43, Try.ntmps43
    go_wp2
    go_ret
    exact ⟨rfl, HG.out⟩
  · go_enter Try.func43, Try.ntmps43
    go_wp2
    go_ret
    exact ⟨rfl, HG.out⟩
  · go_enter Try.func43, Try.ntmps43
    go_wp2
    go_ret
    exact ⟨rfl, HG.out⟩
end Go.Proofs.Ytmdgehpmeikgfaa
