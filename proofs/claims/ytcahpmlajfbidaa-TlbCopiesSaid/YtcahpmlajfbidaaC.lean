import Derived.Test.YtcahpmlajfbidaaC0
namespace Go.Proofs.Ytcahpmlajfbidaa
open Go.RowKit
set_option maxHeartbeats 4000000 in
theorem ref_drop (T : Tl) (p : Int) (w : World) : Calls Try.prog 26 #[T.val, .int .u32 p] w fun e w' => e = .returned (T.drop p).val ∧ w.grownBy w' none := by
  obtain ⟨hgn, hb1, hb2⟩ := two_new w (.cells T.cells 30) (.cells zeros 30)
  have HB1 := Lib.hid hb1
  have HB2 := Lib.hid hb2
  have HG := Lib.hid hgn
  clear hgn hb1 hb2
  go_enter Try.func26, Try.ntmps26
  go_wp2_with (with_reducible refine hold_ld 30 _ rfl ?_)
  apply Lib.hid
  with_reducible refine wpList_load_blk rfl 30 _ rfl _ ?o1 ?hx1 _ _ _ HB1.out _ 17 ?hn1 Try.underlying30 rfl Try.size30 ?_
  case hx1 => exact rfl
  case hn1 => exact rfl
  go_wp2_with fail
  refine (ref_find T p _).mono ?_; rintro e w1 ⟨rfl, hg1⟩
  have hsz := hg1.size
  simp at hsz
  have B1 := Lib.hid ((hg1.block w.heap.size (by simp; omega) (by simp)).trans HB1.out)
  have B2 := Lib.hid ((hg1.block (w.heap.size + 1) (by simp) (by simp)).trans HB2.out)
  have HH := Lib.hid (HG.out.trans hg1)
  clear hg1 HB1 HB2 HG
  rcases T.find_cases p with hf | hf | hf | hf | hf
  · have hv : T.drop p = T := by unfold Tl.drop; rw [hf]; rfl
    rw [hf]
    go_wp2_with (with_reducible refine hold_ld 30 _ rfl ?_)
    apply Lib.hid
    with_reducible refine wpList_load_blk rfl 30 _ rfl _ ?o2 ?hx2 _ _ _ B1.out _ 17 ?hn2 Try.underlying30 rfl Try.size30 ?_
    case hx2 => exact rfl
    case hn2 => exact rfl
    go_wp2_with (with_reducible refine hold_st 30 _ _ rfl ?_)
    apply Lib.hid
    with_reducible refine wpList_store_all rfl 30 _ _ rfl _ ?cs3 ?hx3 ?hy3 _ _ B2.out ?hf3 _ ?hl3 Try.size30 ?h13 ?_
    case hy3 => exact rfl
    case hx3 => exact rfl
    case hf3 => exact rfl
    case hl3 => exact rfl
    case h13 => simp [allOne, Value.oneCell']
    intro w2 hb2 hg2
    have RB := Lib.hid hb2
    have GG := Lib.hid hg2
    clear hb2 hg2
    go_wp2
    refine bodyPost_ret (results_cell_row rfl _ _ _ _ _ _ _ (by rfl) (RB.out) Try.underlying30 rfl Try.size30) (by rfl) ?_
    exact ⟨by rw [hv], grown_new HH.out GG.out (by omega)⟩
  · have hv : T.drop p = { T with a := .no } := by unfold Tl.drop; rw [hf]; rfl
    rw [hf]
    go_wp2_with (with_reducible refine hold_st 27 _ _ rfl ?_)
    apply Lib.hid
    with_reducible refine wpList_store_blk rfl 27 _ _ rfl _ ?o4 ?cs4 ?hx4 ?hy4 _ _ B1.out ?hf4 _ ?hl4 Try.size27 ?h14 ?_
    case hy4 => exact rfl
    case hx4 => exact rfl
    case hf4 => exact rfl
    case hl4 => exact rfl
    case h14 => simp [allOne, Value.oneCell']
    intro w2 hb2 hg2
    have B2 := Lib.hid ((hg2.block _ (lt_of_block B2.out) (by simp)).trans B2.out)
    have hb2 : w2.heap[w.heap.size]? = some (.cells (Tl.cells { T with a := .no }) 30 (0, 0)) := hb2
    have B1 := Lib.hid hb2
    have HH := Lib.hid (grown_new HH.out hg2 (Nat.le_refl _))
    clear hb2 hg2
    go_wp2_with (with_reducible refine hold_ld 30 _ rfl ?_)
    apply Lib.hid
    with_reducible refine wpList_load_blk rfl 30 _ rfl _ ?o5 ?hx5 _ _ _ B1.out _ 17 ?hn5 Try.underlying30 rfl Try.size30 ?_
    case hx5 => exact rfl
    case hn5 => exact rfl
    go_wp2_with (with_reducible refine hold_st 30 _ _ rfl ?_)
    apply Lib.hid
    with_reducible refine wpList_store_all rfl 30 _ _ rfl _ ?cs6 ?hx6 ?hy6 _ _ B2.out ?hf6 _ ?hl6 Try.size30 ?h16 ?_
    case hy6 => exact rfl
    case hx6 => exact rfl
    case hf6 => exact rfl
    case hl6 => exact rfl
    case h16 => simp [allOne, Value.oneCell']
    intro w3 hb3 hg3
    have RB := Lib.hid hb3
    have GG := Lib.hid hg3
    clear hb3 hg3
    go_wp2
    refine bodyPost_ret (results_cell_row rfl _ _ _ _ _ _ _ (by rfl) (RB.out) Try.underlying30 rfl Try.size30) (by rfl) ?_
    exact ⟨by rw [hv], grown_new HH.out GG.out (by omega)⟩
  · have hv : T.drop p = { T with b := .no } := by unfold Tl.drop; rw [hf]; rfl
    rw [hf]
    go_wp2_with (with_reducible refine hold_st 27 _ _ rfl ?_)
    apply Lib.hid
    with_reducible refine wpList_store_blk rfl 27 _ _ rfl _ ?o7 ?cs7 ?hx7 ?hy7 _ _ B1.out ?hf7 _ ?hl7 Try.size27 ?h17 ?_
    case hy7 => exact rfl
    case hx7 => exact rfl
    case hf7 => exact rfl
    case hl7 => exact rfl
    case h17 => simp [allOne, Value.oneCell']
    intro w2 hb2 hg2
    have B2 := Lib.hid ((hg2.block _ (lt_of_block B2.out) (by simp)).trans B2.out)
    have hb2 : w2.heap[w.heap.size]? = some (.cells (Tl.cells { T with b := .no }) 30 (0, 0)) := hb2
    have B1 := Lib.hid hb2
    have HH := Lib.hid (grown_new HH.out hg2 (Nat.le_refl _))
    clear hb2 hg2
    go_wp2_with (with_reducible refine hold_ld 30 _ rfl ?_)
    apply Lib.hid
    with_reducible refine wpList_load_blk rfl 30 _ rfl _ ?o8 ?hx8 _ _ _ B1.out _ 17 ?hn8 Try.underlying30 rfl Try.size30 ?_
    case hx8 => exact rfl
    case hn8 => exact rfl
    go_wp2_with (with_reducible refine hold_st 30 _ _ rfl ?_)
    apply Lib.hid
    with_reducible refine wpList_store_all rfl 30 _ _ rfl _ ?cs9 ?hx9 ?hy9 _ _ B2.out ?hf9 _ ?hl9 Try.size30 ?h19 ?_
    case hy9 => exact rfl
    case hx9 => exact rfl
    case hf9 => exact rfl
    case hl9 => exact rfl
    case h19 => simp [allOne, Value.oneCell']
    intro w3 hb3 hg3
    have RB := Lib.hid hb3
    have GG := Lib.hid hg3
    clear hb3 hg3
    go_wp2
    refine bodyPost_ret (results_cell_row rfl _ _ _ _ _ _ _ (by rfl) (RB.out) Try.underlying30 rfl Try.size30) (by rfl) ?_
    exact ⟨by rw [hv], grown_new HH.out GG.out (by omega)⟩
  · have hv : T.drop p = { T with c := .no } := by unfold Tl.drop; rw [hf]; rfl
    rw [hf]
    go_wp2_with (with_reducible refine hold_st 27 _ _ rfl ?_)
    apply Lib.hid
    with_reducible refine wpList_store_blk rfl 27 _ _ rfl _ ?o10 ?cs10 ?hx10 ?hy10 _ _ B1.out ?hf10 _ ?hl10 Try.size27 ?h110 ?_
    case hy10 => exact rfl
    case hx10 => exact rfl
    case hf10 => exact rfl
    case hl10 => exact rfl
    case h110 => simp [allOne, Value.oneCell']
    intro w2 hb2 hg2
    have B2 := Lib.hid ((hg2.block _ (lt_of_block B2.out) (by simp)).trans B2.out)
    have hb2 : w2.heap[w.heap.size]? = some (.cells (Tl.cells { T with c := .no }) 30 (0, 0)) := hb2
    have B1 := Lib.hid hb2
    have HH := Lib.hid (grown_new HH.out hg2 (Nat.le_refl _))
    clear hb2 hg2
    go_wp2_with (with_reducible refine hold_ld 30 _ rfl ?_)
    apply Lib.hid
    with_reducible refine wpList_load_blk rfl 30 _ rfl _ ?o11 ?hx11 _ _ _ B1.out _ 17 ?hn11 Try.underlying30 rfl Try.size30 ?_
    case hx11 => exact rfl
    case hn11 => exact rfl
    go_wp2_with (with_reducible refine hold_st 30 _ _ rfl ?_)
    apply Lib.hid
    with_reducible refine wpList_store_all rfl 30 _ _ rfl _ ?cs12 ?hx12 ?hy12 _ _ B2.out ?hf12 _ ?hl12 Try.size30 ?h112 ?_
    case hy12 => exact rfl
    case hx12 => exact rfl
    case hf12 => exact rfl
    case hl12 => exact rfl
    case h112 => simp [allOne, Value.oneCell']
    intro w3 hb3 hg3
    have RB := Lib.hid hb3
    have GG := Lib.hid hg3
    clear hb3 hg3
    go_wp2
    refine bodyPost_ret (results_cell_row rfl _ _ _ _ _ _ _ (by rfl) (RB.out) Try.underlying30 rfl Try.size30) (by rfl) ?_
    exact ⟨by rw [hv], grown_new HH.out GG.out (by omega)⟩
  · have hv : T.drop p = { T with d := .no } := by unfold Tl.drop; rw [hf]; rfl
    rw [hf]
    go_wp2_with (with_reducible refine hold_st 27 _ _ rfl ?_)
    apply Lib.hid
    with_reducible refine wpList_store_blk rfl 27 _ _ rfl _ ?o13 ?cs13 ?hx13 ?hy13 _ _ B1.out ?hf13 _ ?hl13 Try.size27 ?h113 ?_
    case hy13 => exact rfl
    case hx13 => exact rfl
    case hf13 => exact rfl
    case hl13 => exact rfl
    case h113 => simp [allOne, Value.oneCell']
    intro w2 hb2 hg2
    have B2 := Lib.hid ((hg2.block _ (lt_of_block B2.out) (by simp)).trans B2.out)
    have hb2 : w2.heap[w.heap.size]? = some (.cells (Tl.cells { T with d := .no }) 30 (0, 0)) := hb2
    have B1 := Lib.hid hb2
    have HH := Lib.hid (grown_new HH.out hg2 (Nat.le_refl _))
    clear hb2 hg2
    go_wp2_with (with_reducible refine hold_ld 30 _ rfl ?_)
    apply Lib.hid
    with_reducible refine wpList_load_blk rfl 30 _ rfl _ ?o14 ?hx14 _ _ _ B1.out _ 17 ?hn14 Try.underlying30 rfl Try.size30 ?_
    case hx14 => exact rfl
    case hn14 => exact rfl
    go_wp2_with (with_reducible refine hold_st 30 _ _ rfl ?_)
    apply Lib.hid
    with_reducible refine wpList_store_all rfl 30 _ _ rfl _ ?cs15 ?hx15 ?hy15 _ _ B2.out ?hf15 _ ?hl15 Try.size30 ?h115 ?_
    case hy15 => exact rfl
    case hx15 => exact rfl
    case hf15 => exact rfl
    case hl15 => exact rfl
    case h115 => simp [allOne, Value.oneCell']
    intro w3 hb3 hg3
    have RB := Lib.hid hb3
    have GG := Lib.hid hg3
    clear hb3 hg3
    go_wp2
    refine bodyPost_ret (results_cell_row rfl _ _ _ _ _ _ _ (by rfl) (RB.out) Try.underlying30 rfl Try.size30) (by rfl) ?_
    exact ⟨by rw [hv], grown_new HH.out GG.out (by omega)⟩
end Go.Proofs.Ytcahpmlajfbidaa
