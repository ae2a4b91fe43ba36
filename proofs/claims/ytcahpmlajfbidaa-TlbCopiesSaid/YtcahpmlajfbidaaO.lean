import Derived.Test.YtcahpmlajfbidaaN
namespace Go.Proofs.Ytcahpmlajfbidaa
open Go.RowKit
theorem act_any (B : Nat) (T : Tl) (what page frame : Int) (wr th : Bool) (w : World) (h : Tb w B T) (hok : T.good) : Calls Try.prog 13 #[.pointer (some ⟨B, 0, none⟩), T.val, .agg #[.int .i64 what, .int .u32 page, .int .u32 frame, .bool wr, .bool th]] w fun e w' => e = .returned (.tuple #[(T.act what page frame wr).val, .bool true]) ∧ Tb w' B (T.act what page frame wr) ∧ w.grownBy w' (some B) := by
  unfold Tl.act
  by_cases h0 : what = 0
  · subst h0; rw [if_pos rfl]; exact act_fill B T page frame wr th w h hok
  · rw [if_neg h0]
    by_cases h1 : what = 1
    · subst h1; rw [if_pos rfl]; exact act_drop B T page frame wr th w h
    · rw [if_neg h1]; exact act_flush B T what page frame wr th w h h0 h1
theorem Tl.good_act {T : Tl} (h : T.good) (what p f : Int) (w : Bool) : (T.act what p f w).good := by
  unfold Tl.act
  split
  · exact Tl.good_fill h p f w
  · split
    · exact Tl.good_drop h p
    · exact .inl rfl
end Go.Proofs.Ytcahpmlajfbidaa
