import Derived.Test.YtcahpmlajfbidaaS
namespace Go.Proofs.Ytcahpmlajfbidaa
open Go.RowKit
theorem wpList_val {P : Program} {ops : Array Oper} {rest : List Oper} {op : Oper} {a : Act} {w : World} {v : Value} {Q : Exit → Act → World → Prop} (hw : Region.wanted op (yielded ops a.tmps) = true) (h : (execOp a.eval op).run P w = .ok (.value v) w)
    (k : wpList P ops Q rest (a.put op.dst v) w) : wpList P ops Q (op :: rest) a w := by
  unfold wpList
  simp only [hw, if_true]
  exact .inl (wp_of_exec h k)
set_option maxHeartbeats 8000000 in
theorem tlbPlays_walk (a : Option Addr) (n cap : Nat) (l : Nat → Ac) (w : World) (hs : SrcX w a n l) (hm : n ≤ 9223372036854775807) :
    Calls Try.prog 3 #[.slice a n cap] w fun e w' => e = .returned (.bool true) ∧ w.grownBy w' none := by
  by_cases h3 : (60 : Int) < n
  · go_enter Try.func3, Try.ntmps3
    go_wp2_with (go_at_call 9; refine (works_any _).mono ?_; rintro e w1 ⟨rfl, hg1⟩)
    go_ret
    exact ⟨rfl, hg1⟩
  go_enter Try.func3, Try.ntmps3
  go_wp2_with fail
  refine (played_any a n cap l _ hs hm).mono ?_; rintro e w1 ⟨B, rfl, hB, hTb, hg1⟩
  have hlt := hTb.lt
  have HN := Lib.hid (heap_alloc_new w1 (.cells zeros 30))
  have HT1 := Lib.hid (hTb.keptNone (World.grownBy_alloc w1 (.cells zeros 30) none))
  have HG1 := Lib.hid (hg1.trans (World.grownBy_alloc w1 (.cells zeros 30) none))
  have hsz := hg1.size
  clear hTb hg1
  go_wp2_with (with_reducible refine hold_st 30 _ _ rfl ?_)
  apply Lib.hid
  with_reducible refine wpList_store_all rfl 30 _ _ rfl _ ?cs1801 ?hx1801 ?hy1801 _ _ HN.out ?hf1801 _ ?hl1801 Try.size30 ?h11801 ?_
  case hy1801 => exact rfl
  case hx1801 => exact rfl
  case hf1801 => exact rfl
  case hl1801 => exact rfl
  case h11801 => simp [allOne, Value.oneCell']
  intro w2 hb2 hg2

  have HX2 := Lib.hid (show w2.heap[w1.heap.size]? = some (.cells (Tl.run l n).cells 30 (0, 0)) from hb2)
  have HT2 := Lib.hid (HT1.out.kept hg2 (by simp; omega))
  have HG2 := Lib.hid (grown_new HG1.out hg2 hsz)
  clear hb2 hg2 HN HT1 HG1
  go_wp2_with (with_reducible refine hold_ld 30 _ rfl ?_)
  apply Lib.hid
  refine wpList_val (by rfl) (exec_ld30 (x := .tmp 4) (T := Tl.run l n) rfl rfl HX2.out) ?_

  go_wp2_with fail
  refine (is_any B _ _ HT2.out).mono ?_; rintro e w3 ⟨rfl, hg3⟩
  have HG3 := Lib.hid (HG2.out.trans hg3)
  clear hg3 HG2 HT2 HX2
  go_wp2_with fail
  refine (works_any _).mono ?_; rintro e w4 ⟨rfl, hg4⟩
  have HG4 := Lib.hid (HG3.out.trans hg4)
  clear hg4 HG3
  go_wp2
  go_ret
  exact ⟨rfl, HG4.out⟩
end Go.Proofs.Ytcahpmlajfbidaa
