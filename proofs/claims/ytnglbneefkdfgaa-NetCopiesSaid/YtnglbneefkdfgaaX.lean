import Derived.Test.YtnglbneefkdfgaaW
set_option linter.unusedVariables false
namespace Go.Proofs.Ytnglbneefkdfgaa
open Go.RowKit
set_option maxHeartbeats 8000000 in
theorem netPlays_walk (a : Option Addr) (n cap : Nat) (l : Nat → Ac) (bs : Nat → List UInt8) (w : World) (hs : SrcX w a n l bs) (hm : n ≤ 9223372036854775807) :
    Calls Try.prog 5 #[.slice a n cap] w fun e w' => e = .returned (.bool true) ∧ w.grownBy w' none := by
  by_cases hc : cost l n ≤ 8000
  rotate_left
  · have hd : decide (cost l n ≤ 8000) = false := by simp [hc]
    have C := few_any a n cap l bs w hs hm
    rw [hd] at C
    clear hs hd hc
    go_enter Try.func5, Try.ntmps5
    go_wp2_with fail
    refine C.mono ?_; rintro e w' ⟨rfl, rfl⟩
    clear C
    go_wp2_with fail
    refine (works_any _).mono ?_; rintro e w1 ⟨rfl, hg1⟩
    go_wp2
    go_ret
    exact ⟨rfl, hg1⟩
  have hd : decide (cost l n ≤ 8000) = true := by simp [hc]
  have C := few_any a n cap l bs w hs hm
  rw [hd] at C
  have hn400 : n ≤ 400 := by have := cost_ge l n; omega
  have C2 := played_any a n cap l bs w hs (by omega) (by omega)
  clear hs hd hc
  go_enter Try.func5, Try.ntmps5
  go_wp2_with fail
  refine C.mono ?_; rintro e w' ⟨rfl, rfl⟩
  go_wp2_with fail
  refine C2.mono ?_; rintro e w1 ⟨B, c, r, M, rfl, hN1, hR1, hM1, hg1⟩
  have HN := Lib.hid (heap_alloc_new w1 (.cells Rf.zero.cells 40))
  have HGa := Lib.hid (hg1.trans (World.grownBy_alloc w1 (.cells Rf.zero.cells 40) none))
  have hsz := hg1.size
  clear hg1 C C2 hN1 hR1 hM1
  go_wp2_with (with_reducible refine hold_st 40 _ _ rfl ?_)
  apply Lib.hid
  with_reducible refine wpList_store_all rfl 40 _ _ rfl _ ?cs1301 ?hx1301 ?hy1301 _ _ HN.out ?hf1301 _ ?hl1301 Try.size40 ?h11301 ?_
  case hy1301 => exact rfl
  case hx1301 => exact rfl
  case hf1301 => exact rfl
  case hl1301 => exact rfl
  case h11301 => simp [allOne, Value.oneCell']
  intro w2 hb2 hg2
  have HG2 := Lib.hid (grown_new HGa.out hg2 hsz)
  clear hb2 hg2 HN HGa
  go_wp2_with fail
  refine (works_any _).mono ?_; rintro e w3 ⟨rfl, hg3⟩
  have HG3 := Lib.hid (HG2.out.trans hg3)
  clear hg3
  go_wp2
  go_ret
  exact ⟨rfl, HG3.out⟩
end Go.Proofs.Ytnglbneefkdfgaa
