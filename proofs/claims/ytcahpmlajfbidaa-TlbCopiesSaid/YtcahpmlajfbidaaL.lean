import Derived.Test.YtcahpmlajfbidaaK
namespace Go.Proofs.Ytcahpmlajfbidaa
open Go.RowKit
def Tl.act (T : Tl) (what page frame : Int) (wr : Bool) : Tl := if what = 0 then T.fill page frame wr else if what = 1 then T.drop page else .no
theorem three_new (w : World) (a b c : Obj) : w.grownBy (((w.alloc a).alloc b).alloc c) none ∧ (((w.alloc a).alloc b).alloc c).heap[w.heap.size]? = some a ∧ (((w.alloc a).alloc b).alloc c).heap[w.heap.size + 1]? = some b ∧ (((w.alloc a).alloc b).alloc c).heap[w.heap.size + 1 + 1]? = some c := by
  obtain ⟨h1, h2, h3⟩ := two_new w a b
  refine ⟨h1.trans (World.grownBy_alloc _ c none), (heap_alloc_old _ c (lt_of_block h2)).trans h2, (heap_alloc_old _ c (lt_of_block h3)).trans h3, ?_⟩
  have := heap_alloc_new ((w.alloc a).alloc b) c
  rwa [World.size_alloc, World.size_alloc] at this
theorem cells5 {w : World} {g : Nat} {a b c d e : Value} {t : TypeId} {fz : Nat × Nat} (h : w.heap[g]? = some (.cells #[a, b, c, d, e] t fz)) :
    w.cell? ⟨g, 0, none⟩ = some a ∧ w.cell? ⟨g, 1, none⟩ = some b ∧ w.cell? ⟨g, 2, none⟩ = some c ∧ w.cell? ⟨g, 3, none⟩ = some d ∧ w.cell? ⟨g, 4, none⟩ = some e := by
  refine ⟨?_, ?_, ?_, ?_, ?_⟩ <;> (rw [cells_all h]; rfl)
set_option maxHeartbeats 8000000 in
theorem act_fill (B : Nat) (T : Tl) (page frame : Int) (wr th : Bool) (w : World) (h : Tb w B T) (hok : T.good) : Calls Try.prog 13 #[.pointer (some ⟨B, 0, none⟩), T.val, .agg #[.int .i64 0, .int .u32 page, .int .u32 frame, .bool wr, .bool th]] w fun e w' => e = .returned (.tuple #[(T.fill page frame wr).val, .bool true]) ∧ Tb w' B (T.fill page frame wr) ∧ w.grownBy w' (some B) := by
  have hlt := h.lt
  obtain ⟨hgn, hb1, hb2, hb3⟩ := three_new w (.cells T.cells 30) (.cells #[.int .i64 0, .int .u32 page, .int .u32 frame, .bool wr, .bool th] 40) (.cells zeros 30)
  have HB1 := Lib.hid hb1
  have HB2 := Lib.hid hb2
  have HB3 := Lib.hid hb3
  have HT := Lib.hid (h.keptNone hgn)
  have HG := Lib.hid hgn
  clear hgn hb1 hb2 hb3 h
  go_enter Try.func13, Try.ntmps13
  go_wp2_with (with_reducible refine hold_ld 30 _ rfl ?_)
  apply Lib.hid
  with_reducible refine wpList_load_blk rfl 30 _ rfl _ ?o1001 ?hx1001 _ _ _ HB1.out _ 17 ?hn1001 Try.underlying30 rfl Try.size30 ?_
  case hx1001 => exact rfl
  case hn1001 => exact rfl
  go_wp2_with fail
  refine (ref_fill T page frame wr _ hok).mono ?_; rintro e w1 ⟨rfl, hg1⟩
  have hsz := hg1.size
  simp only [World.size_alloc] at hsz
  have hga := World.grownBy_alloc w1 (.cells zeros 30) none
  have HN := Lib.hid (heap_alloc_new w1 (.cells zeros 30))
  have HG1 := Lib.hid (HG.out.trans hg1)
  have HT1 := Lib.hid (HT.out.keptNone hg1)
  have A2 := Lib.hid ((hg1.block _ (lt_of_block HB2.out) (by simp)).trans HB2.out)
  have A3 := Lib.hid ((hg1.block _ (lt_of_block HB3.out) (by simp)).trans HB3.out)
  clear hg1 HB1 HB2 HB3 HT HG
  go_wp2_with (with_reducible refine hold_st 30 _ _ rfl ?_)
  apply Lib.hid
  with_reducible refine wpList_store_all rfl 30 _ _ rfl _ ?cs1002 ?hx1002 ?hy1002 _ _ HN.out ?hf1002 _ ?hl1002 Try.size30 ?h11002 ?_
  case hy1002 => exact rfl
  case hx1002 => exact rfl
  case hf1002 => exact rfl
  case hl1002 => exact rfl
  case h11002 => simp [allOne, Value.oneCell']
  intro w2 hb2 hg2
  have hg2' : w1.grownBy w2 none := grown_new hga hg2 (Nat.le_refl _)
  have HX := Lib.hid hb2
  have HG2 := Lib.hid (HG1.out.trans hg2')
  have HT2 := Lib.hid (HT1.out.keptNone hg2')
  have B2 := Lib.hid ((hg2'.block _ (lt_of_block A2.out) (by simp)).trans A2.out)
  have B3 := Lib.hid ((hg2'.block _ (lt_of_block A3.out) (by simp)).trans A3.out)
  obtain ⟨c0, c1, c2, c3, c4⟩ := cells5 B2.out
  clear hb2 hg2 hg2' hga HN HG1 HT1 A2 A3
  go_wp2_with fail
  refine (fill_tb B T th page frame wr _ HT2.out hok).mono ?_; rintro e w3 ⟨rfl, hT3, hg3⟩
  clear c0 c1 c2 c3 c4
  have HX3 := Lib.hid ((hg3.block _ (lt_of_block HX.out) (by simp; omega)).trans HX.out)
  have C3 := Lib.hid ((hg3.block _ (lt_of_block B3.out) (by simp; omega)).trans B3.out)
  have HT3 := Lib.hid hT3
  have HG3 := Lib.hid ((grown_none HG2.out (some B)).trans hg3)
  clear hT3 hg3
  go_wp2_with (with_reducible refine hold_ld 30 _ rfl ?_)
  apply Lib.hid
  with_reducible refine wpList_load_blk rfl 30 _ rfl _ ?o1003 ?hx1003 _ _ _ HX3.out _ 17 ?hn1003 Try.underlying30 rfl Try.size30 ?_
  case hx1003 => exact rfl
  case hn1003 => exact rfl
  go_wp2_with (with_reducible refine hold_st 30 _ _ rfl ?_)
  apply Lib.hid
  with_reducible refine wpList_store_all rfl 30 _ _ rfl _ ?cs1004 ?hx1004 ?hy1004 _ _ C3.out ?hf1004 _ ?hl1004 Try.size30 ?h11004 ?_
  case hy1004 => exact rfl
  case hx1004 => exact rfl
  case hf1004 => exact rfl
  case hl1004 => exact rfl
  case h11004 => simp [allOne, Value.oneCell']
  intro w4 hb4 hg4
  have RB := Lib.hid hb4
  have HT4 := Lib.hid (HT3.out.kept hg4 (by simp; omega))
  have HG4 := Lib.hid (grown_new2 HG3.out hg4 (by omega))
  clear hb4 hg4
  go_wp2
  refine bodyPost_ret (results_c30t rfl _ _ _ _ (by rfl) (by rfl) RB.out) (by rfl) ?_
  exact ⟨rfl, HT4.out, HG4.out⟩
end Go.Proofs.Ytcahpmlajfbidaa
