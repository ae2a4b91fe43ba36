import Derived.Test.YtcahpmlajfbidaaQ
namespace Go.Proofs.Ytcahpmlajfbidaa
open Go.RowKit
def W1 : Tl := ⟨⟨true, 7, 1, true⟩, .no, .no, .no, 1⟩
def W2 : Tl := ⟨⟨true, 7, 1, true⟩, ⟨true, 8, 2, false⟩, .no, .no, 2⟩
def W3 : Tl := ⟨⟨true, 7, 3, false⟩, ⟨true, 8, 2, false⟩, .no, .no, 2⟩
def W4 : Tl := ⟨⟨true, 7, 3, false⟩, .no, .no, .no, 2⟩
set_option maxHeartbeats 8000000 in
theorem works_any (w : World) : Calls Try.prog 9 #[] w fun e w' => e = .returned (.bool true) ∧ w.grownBy w' none := by
  go_enter Try.func9, Try.ntmps9
  go_wp2_with fail
  refine (new_any _).mono ?_; rintro e w1 ⟨B, rfl, hB, hT1, hg1⟩
  have C2 := fill_tb B .no false 7 1 true w1 hT1 (.inl rfl)
  rw [show Tl.no.slot 7 = 0 from by decide, show Tl.no.fill 7 1 true = W1 from by decide] at C2
  have HG1 := Lib.hid hg1
  clear hT1 hg1
  go_wp2_with fail
  refine C2.mono ?_; rintro e w2 ⟨rfl, hT2, hg2⟩
  have C3 := fill_tb B W1 false 8 2 false w2 hT2 (.inr (.inl rfl))
  rw [show W1.slot 8 = 1 from by decide, show W1.fill 8 2 false = W2 from by decide] at C3
  have HG2 := Lib.hid (grown_new HG1.out hg2 hB)
  clear hT2 hg2 HG1 C2
  go_wp2_with fail
  refine C3.mono ?_; rintro e w3 ⟨rfl, hT3, hg3⟩
  have C4 := fill_tb B W2 false 7 3 false w3 hT3 (.inr (.inr (.inl rfl)))
  rw [show W2.slot 7 = 0 from by decide, show W2.fill 7 3 false = W3 from by decide] at C4
  have HG3 := Lib.hid (grown_new HG2.out hg3 hB)
  clear hT3 hg3 HG2 C3
  go_wp2_with fail
  refine C4.mono ?_; rintro e w4 ⟨rfl, hT4, hg4⟩
  have C5 := look_any _ W3 7 w4 (.inr ⟨B, rfl, hT4⟩)
  rw [show W3.look 7 = ⟨true, 7, 3, false⟩ from by decide, show W3.at 7 = 0 from by decide, show W3.has 7 = true from by decide] at C5
  have HG4 := Lib.hid (grown_new HG3.out hg4 hB)
  have HT4 := Lib.hid hT4
  clear hT4 hg4 HG3 C4
  go_wp2_with fail
  refine C5.mono ?_; rintro e w5 ⟨rfl, hg5⟩
  have HT5 := Lib.hid ((HT4.out.keptNone hg5).keptNone (World.grownBy_alloc w5 (.cells zero4 27) none))
  have HG5 := Lib.hid ((HG4.out.trans hg5).trans (World.grownBy_alloc w5 (.cells zero4 27) none))
  have hBl : B < w5.heap.size := (HT4.out.keptNone hg5).lt
  have hwl : w.heap.size ≤ w5.heap.size := (HG4.out.trans hg5).size
  have HN := Lib.hid (heap_alloc_new w5 (.cells zero4 27))
  clear HT4 HG4 C5 hg5
  go_wp2_with (with_reducible refine hold_st 27 _ _ rfl ?_)
  apply Lib.hid
  with_reducible refine wpList_store_all rfl 27 _ _ rfl _ ?cs1701 ?hx1701 ?hy1701 _ _ HN.out ?hf1701 _ ?hl1701 Try.size27 ?h11701 ?_
  case hy1701 => exact rfl
  case hx1701 => exact rfl
  case hf1701 => exact rfl
  case hl1701 => exact rfl
  case h11701 => simp [allOne, Value.oneCell']
  intro w6 hb6 hg6

  have C7 := next_tb B W3 w6 (HT5.out.kept hg6 (by simp; omega))
  rw [show W3.next = 2 from rfl] at C7
  have HT6 := Lib.hid (HT5.out.kept hg6 (by simp; omega))
  have HG6 := Lib.hid (grown_new HG5.out hg6 hwl)
  have HC := Lib.hid (cells4 hb6)
  clear HT5 HG5 HN hb6 hg6
  go_wp2_with fail
  refine C7.mono ?_; rintro e w7 ⟨rfl, rfl⟩
  obtain ⟨c0, c1, c2, c3⟩ := HC.out
  have C8 := drop_tb B W3 8 w6 HT6.out
  rw [show W3.has 8 = true from by decide, show W3.drop 8 = W4 from by decide] at C8
  clear HT6 C7
  go_wp2_with fail
  refine C8.mono ?_; rintro e w8 ⟨rfl, hT8, hg8⟩
  have C9 := drop_tb B W4 8 w8 hT8
  rw [show W4.has 8 = false from by decide, show W4.drop 8 = W4 from by decide] at C9
  have HG8 := Lib.hid (grown_new HG6.out hg8 hB)
  clear HG6 hT8 hg8 C8 c0 c1 c2 c3 HC
  go_wp2_with fail
  refine C9.mono ?_; rintro e w9 ⟨rfl, hT9, hg9⟩
  have C10 := all_tb B W4 w9 hT9
  have HG9 := Lib.hid (grown_new HG8.out hg9 hB)
  clear HG8 hT9 hg9 C9
  go_wp2_with fail
  refine C10.mono ?_; rintro e w10 ⟨g, rfl, -, hg10⟩
  have HG10 := Lib.hid (HG9.out.trans hg10)
  clear C10 hg10 HG9
  go_wp2
  go_ret
  exact ⟨rfl, HG10.out⟩
end Go.Proofs.Ytcahpmlajfbidaa
