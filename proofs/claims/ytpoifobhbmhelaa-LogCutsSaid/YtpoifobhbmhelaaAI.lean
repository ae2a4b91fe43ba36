/- The log of one record that the laws make. -/
import Derived.Test.YtpoifobhbmhelaaAH
set_option linter.unusedVariables false
set_option linter.unusedSimpArgs false
namespace Go.Proofs.Ytpoifobhbmhelaa
open Go.RowKit
abbrev hi : List UInt8 := [104, 105]
def someL : Lg := ⟨2, 1, 4, [⟨300, 3, 0, hi⟩], true, 301⟩
theorem results_o31 {fn : Func} {p : Tmp} (h : fn.results = #[.cell p 31]) (tmps : Array Value) (w : World) (g : Nat) (cs : Array Value) (hs : cs.size = 6)
    (hp : tmps.getD p undef = .pointer (some ⟨g, 0, none⟩)) (hg : w.heap[g]? = some (.cells cs 31 (0, 0))) : (results fn tmps).run Try.prog w = .ok (.agg cs) w := by
  have hp' : tmps[p]?.getD undef = .pointer (some ⟨g, 0, none⟩) := by simpa using hp
  have hl := run_loadVar_row (P := Try.prog) w g 31 31 cs (0, 0) _ hg Try.underlying31 rfl (by rw [hs]; exact Try.size31)
  simp [results, h, hp', asAddr, hl]
abbrev someO (n : Nat) : Obj := .cells #[.int .i64 2, .int .i64 1, .int .i64 4, .slice (some ⟨n, 0, none⟩) 1 1, .bool true, .int .i64 301] 31
abbrev oneO (n : Nat) : Obj := .cells #[.int .i64 300, .int .i64 3, .int .i64 0, .slice (some ⟨n, 0, none⟩) 2 2] 25
abbrev hiO : Obj := .cells #[.int .u8 104, .int .u8 105] 5 (2, 3)
theorem some_rl (w : World) (o : Obj) : RL (((w.alloc o).alloc hiO).alloc (oneO (w.heap.size + 1))) (some ⟨w.heap.size + 1 + 1, 0, none⟩) [⟨300, 3, 0, hi, some ⟨w.heap.size + 1, 0, none⟩, 2⟩] := by
  obtain ⟨h1, h2, h3⟩ := two_new3 w o hiO (oneO (w.heap.size + 1))
  refine .inr ⟨_, 0, rfl, fun j hj => ?_⟩
  obtain rfl : j = 0 := by simp at hj; omega
  have k := cells_all h3
  have b := cells_all h2
  refine ⟨k 0, k 1, k 2, k 3, ?_, Nat.le_refl _⟩
  have s := (src_lit (w.alloc o) hi 2 3).keptNone (World.grownBy_alloc _ (oneO (w.heap.size + 1)) none)
  rw [World.size_alloc] at s
  exact s
set_option maxHeartbeats 2000000 in
theorem some_any (w : World) : Calls Try.prog 25 #[] w fun e w' => ∃ (a : Option Addr) (ts : List Rv), e = .returned (lgV 2 1 4 a 1 1 true 301) ∧ rsOf ts = someL.rs ∧ RL w' a ts ∧ w.grownBy w' none := by
  have kc : (convert 23 23 (.slice (some ⟨w.heap.size + 1, 0, none⟩) 2 2)).run Try.prog ((w.alloc (.cells #[.int .i64 0, .int .i64 0, .int .i64 0, .slice none 0 0, .bool false, .int .i64 0] 31)).alloc (.cells #[.int .u8 104, .int .u8 105] 5)) = .ok (.slice (some ⟨w.heap.size + 1, 0, none⟩) 2 2) ((w.alloc (.cells #[.int .i64 0, .int .i64 0, .int .i64 0, .slice none 0 0, .bool false, .int .i64 0] 31)).alloc (.cells #[.int .u8 104, .int .u8 105] 5 (2, 3))) := by
    have := conv_lit (w.alloc (.cells #[.int .i64 0, .int .i64 0, .int .i64 0, .slice none 0 0, .bool false, .int .i64 0] 31)) #[.int .u8 104, .int .u8 105] 2 2
    rwa [World.size_alloc] at this
  go_enter Try.func25, Try.ntmps25
  go_wp2
  obtain ⟨h1, h2, h3⟩ := two_new3 w (someO (w.heap.size + 1 + 1)) hiO (oneO (w.heap.size + 1))
  have h1' := keep_blk (World.grownBy_alloc _ (oneO (w.heap.size + 1)) none) (keep_blk (World.grownBy_alloc _ hiO none) (heap_alloc_new w (someO (w.heap.size + 1 + 1))))
  refine bodyPost_ret (results_o31 rfl _ _ _ _ (by rfl) (by rfl) h1') (by rfl) ?_
  exact ⟨_, _, rfl, rfl, some_rl w _, ((World.grownBy_alloc w _ none).trans (World.grownBy_alloc _ hiO none)).trans (World.grownBy_alloc _ (oneO (w.heap.size + 1)) none)⟩
end Go.Proofs.Ytpoifobhbmhelaa
