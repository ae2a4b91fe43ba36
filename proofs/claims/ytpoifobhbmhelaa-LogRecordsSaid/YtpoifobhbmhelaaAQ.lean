/- LogRecords: a record that is too long, or that may not be. -/
import Derived.Test.YtpoifobhbmhelaaAK
set_option linter.unusedVariables false
set_option linter.unusedSimpArgs false
namespace Go.Proofs.Ytpoifobhbmhelaa
open Go.RowKit
theorem one_ok (a k n : Int) (b : List UInt8) : (⟨1, 1, 1, [⟨a, k, n, b⟩], false, 0⟩ : Lg).Ok ↔ Rt a k n b.length := by
  constructor
  · intro h
    have h2 : RsOk 0 [⟨a, k, n, b⟩] := h.2.1
    exact h2.1.1
  · intro h
    have h0 : 0 ≤ a := h.1.1
    exact ⟨⟨⟨(by decide : Hd 1 1 1), (by decide : (0 : Int) ≤ 0), (by decide : (0 : Int) ≤ 4611686018427387904)⟩, .inr rfl⟩, ⟨⟨h, h0⟩, trivial⟩, fun e => by cases e⟩
theorem recs_rl {w : World} {a k n : Int} {x : Option Addr} {L c : Nat} {b : List UInt8} (o o2 : Obj) (hL : L = b.length) (hs : Go.Proofs.Ytpoifobhbmhelaa.Src w x b) (hle : b.length ≤ c) : RL (((w.alloc o).alloc (.cells #[.int .i64 a, .int .i64 k, .int .i64 n, .slice x L c] 25)).alloc o2) (some ⟨w.heap.size + 1, 0, none⟩) [⟨a, k, n, b, x, c⟩] := by
  obtain ⟨h1, h2, h3⟩ := two_new3 w o (.cells #[.int .i64 a, .int .i64 k, .int .i64 n, .slice x L c] 25) o2
  refine .inr ⟨_, 0, rfl, fun j hj => ?_⟩
  obtain rfl : j = 0 := by simp at hj; omega
  have q := cells_all h2
  have hG := ((World.grownBy_alloc w o none).trans (World.grownBy_alloc _ (.cells #[.int .i64 a, .int .i64 k, .int .i64 n, .slice x L c] 25) none)).trans (World.grownBy_alloc _ o2 none)
  refine ⟨q 0, q 1, q 2, ?_, hs.keptNone hG, hle⟩
  have q3 := q 3
  rw [hL] at q3 ⊢
  exact q3
theorem recs_g (w : World) (o o1 o2 : Obj) : w.grownBy (((w.alloc o).alloc o1).alloc o2) none := ((World.grownBy_alloc w o none).trans (World.grownBy_alloc _ o1 none)).trans (World.grownBy_alloc _ o2 none)
theorem recs_b (w : World) {o : Obj} (o1 o2 : Obj) {cs : Array Value} {t : TypeId} (h : o = .cells cs t) : (((w.alloc o).alloc o1).alloc o2).heap[w.heap.size]? = some (.cells cs t (0, 0)) := by
  subst h
  exact keep_blk ((World.grownBy_alloc _ o1 none).trans (World.grownBy_alloc _ o2 none)) (heap_alloc_new w _)
theorem recs_long (a k n : Int) (x : Option Addr) (L c : Nat) (w : World) (h5 : 5000 < L) : Calls Try.prog 3 #[rV a k n x L c] w fun e w' => e = .returned (.bool true) ∧ w.grownBy w' none := by
  have HG := Lib.hid (World.grownBy_alloc w (.cells #[.int .i64 a, .int .i64 k, .int .i64 n, .slice x L c] 25) none)
  go_enter Try.func3, Try.ntmps3
  go_wp2_with fail
  refine (works_any _).mono ?_; rintro e w1 ⟨rfl, hg1⟩
  have HG1 := Lib.hid (HG.out.trans hg1)
  clear hg1
  go_wp2
  go_ret
  exact ⟨rfl, HG1.out⟩
set_option maxRecDepth 100000 in
set_option maxHeartbeats 4000000 in
theorem recs_no (a k n : Int) (x : Option Addr) (L c : Nat) (b : List UInt8) (w : World) (hL : L = b.length) (hs : Go.Proofs.Ytpoifobhbmhelaa.Src w x b) (hle : b.length ≤ c) (h5 : ¬ 5000 < L) (hno : ¬ Rt a k n L) : Calls Try.prog 3 #[rV a k n x L c] w fun e w' => e = .returned (.bool true) ∧ w.grownBy w' none := by
  have hC := encode_no 1 1 1 (some ⟨w.heap.size + 1, 0, none⟩) 1 [⟨a, k, n, b, x, c⟩] false 0 (((w.alloc (.cells #[.int .i64 a, .int .i64 k, .int .i64 n, .slice x L c] 25)).alloc (.cells #[.int .i64 a, .int .i64 k, .int .i64 n, .slice x L c] 25)).alloc (.cells #[.int .i64 1, .int .i64 1, .int .i64 1, .slice (some ⟨w.heap.size + 1, 0, none⟩) 1 1, .bool false, .int .i64 0] 31)) (recs_rl (.cells #[.int .i64 a, .int .i64 k, .int .i64 n, .slice x L c] 25) (.cells #[.int .i64 1, .int .i64 1, .int .i64 1, .slice (some ⟨w.heap.size + 1, 0, none⟩) 1 1, .bool false, .int .i64 0] 31) hL hs hle) (by show 1 ≤ 1000000; decide) (fun h => hno (by rw [hL]; exact (one_ok a k n b).1 h))
  have HC := Lib.hid hC
  have HG0 := Lib.hid (recs_g w (.cells #[.int .i64 a, .int .i64 k, .int .i64 n, .slice x L c] 25) (.cells #[.int .i64 a, .int .i64 k, .int .i64 n, .slice x L c] 25) (.cells #[.int .i64 1, .int .i64 1, .int .i64 1, .slice (some ⟨w.heap.size + 1, 0, none⟩) 1 1, .bool false, .int .i64 0] 31))
  have HB0 := Lib.hid (recs_b w (o := (.cells #[.int .i64 a, .int .i64 k, .int .i64 n, .slice x L c] 25)) (.cells #[.int .i64 a, .int .i64 k, .int .i64 n, .slice x L c] 25) (.cells #[.int .i64 1, .int .i64 1, .int .i64 1, .slice (some ⟨w.heap.size + 1, 0, none⟩) 1 1, .bool false, .int .i64 0] 31) rfl)
  have HNO := Lib.hid hno
  clear hC hL hs hle hno
  go_enter Try.func3, Try.ntmps3
  go_wp2_with fail
  refine HC.out.mono ?_; rintro e1 w1 ⟨rfl, hg1⟩
  have HG1 := Lib.hid (HG0.out.trans hg1)
  have hb := keep_blk hg1 HB0.out
  have k0 := cells_all hb 0
  have k1 := cells_all hb 1
  have k2 := cells_all hb 2
  have k3 := cells_all hb 3
  simp only [List.getElem?_toArray, List.getElem?_cons_zero, List.getElem?_cons_succ] at k0 k1 k2 k3
  clear hg1 hb HB0 HC
  go_wp2_with fail
  refine (rright_no HNO.out x c _).mono ?_; rintro e2 w2 ⟨rfl, hg2⟩
  have HG2 := Lib.hid (HG1.out.trans hg2)
  clear hg2 k0 k1 k2 k3
  go_wp2_with fail
  refine (num_any 260 _).mono ?_; rintro e3 w3 ⟨rfl, rfl⟩
  go_wp2_with fail
  refine (works_any _).mono ?_; rintro e4 w4 ⟨rfl, hg4⟩
  have HG4 := Lib.hid (HG2.out.trans hg4)
  clear hg4
  go_wp2
  go_ret
  exact ⟨rfl, HG4.out⟩
end Go.Proofs.Ytpoifobhbmhelaa
