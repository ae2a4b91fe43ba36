import Derived.Test.YtcahpmlajfbidaaL
namespace Go.Proofs.Ytcahpmlajfbidaa
open Go.RowKit
set_option maxHeartbeats 8000000 in
theorem act_flush (B : Nat) (T : Tl) (what page frame : Int) (wr th : Bool) (w : World) (h : Tb w B T) (h0 : ¬ what = 0) (h1 : ¬ what = 1) : Calls Try.prog 13 #[.pointer (some ⟨B, 0, none⟩), T.val, .agg #[.int .i64 what, .int .u32 page, .int .u32 frame, .bool wr, .bool th]] w fun e w' => e = .returned (.tuple #[Tl.no.val, .bool true]) ∧ Tb w' B .no ∧ w.grownBy w' (some B) := by
  have hlt := h.lt
  obtain ⟨hgn, hb1, hb2, hb3⟩ := three_new w (.cells T.cells 30) (.cells #[.int .i64 what, .int .u32 page, .int .u32 frame, .bool wr, .bool th] 40) (.cells zeros 30)
  have HB3 := Lib.hid hb3
  have HT := Lib.hid (h.keptNone hgn)
  have HG := Lib.hid hgn
  clear hgn hb1 hb2 hb3 h
  go_enter Try.func13, Try.ntmps13
  go_wp2_with fail
  refine (flush_tb B T _ HT.out).mono ?_; rintro e w1 ⟨rfl, hT1, hg1⟩
  have HT1 := Lib.hid hT1
  have A3 := Lib.hid ((hg1.block _ (lt_of_block HB3.out) (by simp; omega)).trans HB3.out)
  have HG1 := Lib.hid ((grown_none HG.out (some B)).trans hg1)
  clear hT1 hg1 HT HB3 HG
  go_wp2_with (with_reducible refine hold_st 30 _ _ rfl ?_)
  apply Lib.hid
  with_reducible refine wpList_store_all rfl 30 _ _ rfl _ ?cs1101 ?hx1101 ?hy1101 _ _ A3.out ?hf1101 _ ?hl1101 Try.size30 ?h11101 ?_
  case hy1101 => exact rfl
  case hx1101 => exact rfl
  case hf1101 => exact rfl
  case hl1101 => exact rfl
  case h11101 => simp [allOne, Value.oneCell']
  intro w4 hb4 hg4
  have RB := Lib.hid hb4
  have HT4 := Lib.hid (HT1.out.kept hg4 (by simp; omega))
  have HG4 := Lib.hid (grown_new2 HG1.out hg4 (by omega))
  clear hb4 hg4
  go_wp2
  refine bodyPost_ret (results_c30t rfl _ _ _ _ (by rfl) (by rfl) RB.out) (by rfl) ?_
  exact ⟨rfl, HT4.out, HG4.out⟩
end Go.Proofs.Ytcahpmlajfbidaa
