import Derived.Test.YtcahpmlajfbidaaJ
namespace Go.Proofs.Ytcahpmlajfbidaa
open Go.RowKit
theorem fill_nil (th : Bool) (page frame : Int) (wr : Bool) (w : World) : Calls Try.prog 17 #[.pointer none, .agg #[.bool th, .int .u32 page, .int .u32 frame, .bool wr]] w fun e w' => e = .returned (.int .i64 0) ∧ w.grownBy w' none := by
  have HG := Lib.hid (World.grownBy_alloc w (.cells #[.bool th, .int .u32 page, .int .u32 frame, .bool wr] 27) none)
  go_enter Try.func17, Try.ntmps17
  go_wp2_with fail
  refine (none_nil _).mono ?_; rintro e w' ⟨rfl, rfl⟩
  go_wp2
  go_ret
  exact ⟨rfl, HG.out⟩
theorem Tl.good_fill {T : Tl} (h : T.good) (p f : Int) (w : Bool) : (T.fill p f w).good := by
  unfold Tl.fill
  split
  · rcases h with h | h | h | h <;> (rw [h]; simp [Tl.set, Tl.good])
  · rcases T.find_cases p with e | e | e | e | e <;> (rw [e]; simpa [Tl.set, Tl.good] using h)
theorem Tl.good_drop {T : Tl} (h : T.good) (p : Int) : (T.drop p).good := by
  unfold Tl.drop
  split
  · exact h
  · rcases T.find_cases p with e | e | e | e | e <;> (rw [e]; simpa [Tl.set, Tl.good] using h)
end Go.Proofs.Ytcahpmlajfbidaa
