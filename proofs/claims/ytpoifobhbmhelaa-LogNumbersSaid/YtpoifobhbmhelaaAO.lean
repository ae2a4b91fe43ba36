/- LogNumbers: the walk. -/
import Derived.Test.YtpoifobhbmhelaaAK
set_option linter.unusedVariables false
set_option linter.unusedSimpArgs false
namespace Go.Proofs.Ytpoifobhbmhelaa
open Go.RowKit
set_option maxRecDepth 100000 in
set_option maxHeartbeats 4000000 in
theorem numbers_no (f s m e : Int) (w : World) (hno : ¬ (⟨f, s, m, [], true, e⟩ : Lg).Ok) : Calls Try.prog 5 #[.agg #[.int .i64 f, .int .i64 s], .int .i64 m, .int .i64 e] w fun x w' => x = .returned (.bool true) ∧ w.grownBy w' none := by
  have HNO := Lib.hid hno
  have HCK := Lib.hid (ckV_no hno)
  clear hno
  go_enter Try.func5, Try.ntmps5
  go_wp2_with fail
  refine (encode_no f s m none 0 [] true e _ (.inl rfl) (by decide) HNO.out).mono ?_; rintro e1 w1 ⟨rfl, hg1⟩
  have hb := keep_blk hg1 (heap_alloc_new (w.alloc (.cells #[.int .i64 f, .int .i64 s] 28)) (.cells #[.int .i64 f, .int .i64 s, .int .i64 m, .slice none 0 0, .bool true, .int .i64 e] 31))
  rw [World.size_alloc] at hb
  have HG1 := Lib.hid (((World.grownBy_alloc w (.cells #[.int .i64 f, .int .i64 s] 28) none).trans (World.grownBy_alloc _ (.cells #[.int .i64 f, .int .i64 s, .int .i64 m, .slice none 0 0, .bool true, .int .i64 e] 31) none)).trans hg1)
  have k0 := cells_all hb 0
  have k1 := cells_all hb 1
  have k2 := cells_all hb 2
  have k3 := cells_all hb 3
  have k4 := cells_all hb 4
  have k5 := cells_all hb 5
  simp only [List.getElem?_toArray, List.getElem?_cons_zero, List.getElem?_cons_succ] at k0 k1 k2 k3 k4 k5
  clear hb hg1
  have hC := rcheck_any f s m none 0 [] true e w1 (.inl rfl) (by decide)
  rw [show (⟨f, s, m, rsOf [], true, e⟩ : Lg) = ⟨f, s, m, [], true, e⟩ from rfl, HCK.out] at hC
  have HC := Lib.hid hC
  clear hC
  go_wp2_with fail
  refine HC.out.mono ?_; rintro e2 w2 ⟨rfl, hg2⟩
  have HG2 := Lib.hid (HG1.out.trans hg2)
  clear hg2
  go_wp2_with fail
  refine (num_any 260 _).mono ?_; rintro e3 w3 ⟨rfl, rfl⟩
  go_wp2_with fail
  refine (works_any _).mono ?_; rintro e4 w4 ⟨rfl, hg4⟩
  have HG4 := Lib.hid (HG2.out.trans hg4)
  clear hg4
  go_wp2
  go_ret
  exact ⟨rfl, HG4.out⟩
end Go.Proofs.Ytpoifobhbmhelaa
