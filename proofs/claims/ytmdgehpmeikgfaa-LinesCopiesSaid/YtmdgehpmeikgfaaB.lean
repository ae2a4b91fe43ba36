import Derived.Test.YtmdgehpmeikgfaaA
import Derived.Test.YtmdgehpmeikgfaaReg2
import Derived.Test.YtmdgehpmeikgfaaBrd
namespace Go.Proofs.Ytmdgehpmeikgfaa
open Go.RowKit
theorem drewr {a b : World} {row : Option Nat} (h : a.grownBy b row) : a.grownBy b.drew row := ⟨h.os, h.tape, h.output, h.size, h.block⟩
/-- The cells of 'wanting': whose lines, what time, the list of questions. -/
structure Wn (w : World) (S N G V B : Nat) (now : Int) : Prop where
  s : w.heap[S]? = some (.cells #[.pointer (some ⟨B, 0, none⟩)] 23 (0, 0))
  n : w.heap[N]? = some (.cells #[.int .i64 now] 2 (0, 0))
  g : w.heap[G]? = some (.cells #[.func (.func 48) #[] #[.pointer (some ⟨S, 0, none⟩), .pointer (some ⟨N, 0, none⟩)], .func (.func 49) #[] #[.pointer (some ⟨S, 0, none⟩)], .func (.func 50) #[] #[.pointer (some ⟨S, 0, none⟩)], .func (.func 51) #[] #[.pointer (some ⟨S, 0, none⟩)]] 44 (0, 0))
  v : w.heap[V]? = some (.cells #[.slice (some ⟨G, 0, none⟩) 4 4] 81 (0, 0))
def Lc.w0 (c : Lc) (now : Int) : Bool := decide (0 < c.alarm) && decide (c.alarm ≤ now)
theorem want0_lk (S N B : Nat) (c : Lc) (ha : 0 ≤ c.alarm) (ha2 : c.alarm < 4294967296) (now : Int) (w : World) (hs : w.heap[S]? = some (.cells #[.pointer (some ⟨B, 0, none⟩)] 23 (0, 0))) (hn : w.heap[N]? = some (.cells #[.int .i64 now] 2 (0, 0))) (hL : Lk w B c) :
    Calls Try.prog 48 #[.pointer (some ⟨S, 0, none⟩), .pointer (some ⟨N, 0, none⟩)] w fun e w' => e = .returned (.bool (c.w0 now)) ∧ w.grownBy w' none := by
  have HS := Lib.hid hs
  have HN := Lib.hid hn
  have HL := Lib.hid hL
  clear hs hn hL
  have hw : IntKind.i64.wrap c.alarm = c.alarm := by rw [IntKind.wrap_i64]; omega
  by_cases h0 : 0 < c.alarm
  · have e0 : c.w0 now = decide (c.alarm ≤ now) := by simp [Lc.w0, h0]
    rw [e0]
    clear e0
    go_enter Try.func48, Try.ntmps48
    go_wp2
    refine reg_open (none) (n := 15) rfl (by kernel_rfl) ?_
    refine reg_take 0 (some 3) (v := ?_) rfl rfl (by kernel_rfl) (by kernel_rfl) (by kernel_rfl) (fun _ _ _ h => h) (by rfl) ?_ ?_
    rotate_left
    · intro W hW; have k := cell_of_one ((hW.block _ (lt_of_block HS.out) (by simp)).trans HS.out); go_simp; first | done | with_reducible rfl
    try simp only [Act.put, List.setIfInBounds_toArray, List.set_cons_zero, List.set_cons_succ]
    refine reg_take 1 (some 4) (v := ?_) rfl rfl (by kernel_rfl) (by kernel_rfl) (by kernel_rfl) (fun _ _ _ h => h) (by rfl) ?_ ?_
    rotate_left
    · intro W hW; go_simp; first | done | with_reducible rfl
    try simp only [Act.put, List.setIfInBounds_toArray, List.set_cons_zero, List.set_cons_succ]
    refine reg_take 2 (some 5) (v := ?_) rfl rfl (by kernel_rfl) (by kernel_rfl) (by kernel_rfl) (fun _ _ _ h => h) (by rfl) ?_ ?_
    rotate_left
    · intro W hW; go_simp; first | done | with_reducible rfl
    try simp only [Act.put, List.setIfInBounds_toArray, List.set_cons_zero, List.set_cons_succ]
    refine reg_take 3 (some 6) (v := ?_) rfl rfl (by kernel_rfl) (by kernel_rfl) (by kernel_rfl) (fun _ _ _ h => h) (by rfl) ?_ ?_
    rotate_left
    · intro W hW; have k : W.cell? ⟨B, 0, none⟩ = some (.int .u32 c.alarm) := cells_all ((hW.block _ (lt_of_block HL.out.blk) (by simp)).trans HL.out.blk) 0; go_simp; first | done | with_reducible rfl
    try simp only [Act.put, List.setIfInBounds_toArray, List.set_cons_zero, List.set_cons_succ]
    refine reg_take 4 (some 7) (v := ?_) rfl rfl (by kernel_rfl) (by kernel_rfl) (by kernel_rfl) (fun _ _ _ h => h) (by rfl) ?_ ?_
    rotate_left
    · intro W hW; go_simp; first | done | with_reducible rfl
    try simp only [Act.put, List.setIfInBounds_toArray, List.set_cons_zero, List.set_cons_succ]
    refine reg_take 5 (some 8) (v := ?_) rfl rfl (by kernel_rfl) (by kernel_rfl) (by kernel_rfl) (fun _ _ _ h => h) (by rfl) ?_ ?_
    rotate_left
    · intro W hW; go_simp; first | done | with_reducible rfl
    try simp only [Act.put, List.setIfInBounds_toArray, List.set_cons_zero, List.set_cons_succ]
    refine reg_take 6 (some 9) (v := ?_) rfl rfl (by kernel_rfl) (by kernel_rfl) (by kernel_rfl) (fun _ _ _ h => h) (by rfl) ?_ ?_
    rotate_left
    · intro W hW; have k := cell_of_one ((hW.block _ (lt_of_block HN.out) (by simp)).trans HN.out); go_simp; first | done | with_reducible rfl
    try simp only [Act.put, List.setIfInBounds_toArray, List.set_cons_zero, List.set_cons_succ]
    refine reg_take 7 (some 10) (v := ?_) rfl rfl (by kernel_rfl) (by kernel_rfl) (by kernel_rfl) (fun _ _ _ h => h) (by rfl) ?_ ?_
    rotate_left
    · intro W hW; have k := cell_of_one ((hW.block _ (lt_of_block HS.out) (by simp)).trans HS.out); go_simp; first | done | with_reducible rfl
    try simp only [Act.put, List.setIfInBounds_toArray, List.set_cons_zero, List.set_cons_succ]
    refine reg_take 8 (some 11) (v := ?_) rfl rfl (by kernel_rfl) (by kernel_rfl) (by kernel_rfl) (fun _ _ _ h => h) (by rfl) ?_ ?_
    rotate_left
    · intro W hW; go_simp; first | done | with_reducible rfl
    try simp only [Act.put, List.setIfInBounds_toArray, List.set_cons_zero, List.set_cons_succ]
    refine reg_take 9 (some 12) (v := ?_) rfl rfl (by kernel_rfl) (by kernel_rfl) (by kernel_rfl) (fun _ _ _ h => h) (by rfl) ?_ ?_
    rotate_left
    · intro W hW; go_simp; first | done | with_reducible rfl
    try simp only [Act.put, List.setIfInBounds_toArray, List.set_cons_zero, List.set_cons_succ]
    refine reg_take 10 (some 13) (v := ?_) rfl rfl (by kernel_rfl) (by kernel_rfl) (by kernel_rfl) (fun _ _ _ h => h) (by rfl) ?_ ?_
    rotate_left
    · intro W hW; have k : W.cell? ⟨B, 0, none⟩ = some (.int .u32 c.alarm) := cells_all ((hW.block _ (lt_of_block HL.out.blk) (by simp)).trans HL.out.blk) 0; go_simp; first | done | with_reducible rfl
    try simp only [Act.put, List.setIfInBounds_toArray, List.set_cons_zero, List.set_cons_succ]
    refine reg_take 11 (some 14) (v := ?_) rfl rfl (by kernel_rfl) (by kernel_rfl) (by kernel_rfl) (fun _ _ _ h => h) (by rfl) ?_ ?_
    rotate_left
    · intro W hW; go_simp; first | done | with_reducible rfl
    try simp only [Act.put, List.setIfInBounds_toArray, List.set_cons_zero, List.set_cons_succ]
    refine reg_take 12 (some 15) (v := ?_) rfl rfl (by kernel_rfl) (by kernel_rfl) (by kernel_rfl) (fun _ _ _ h => h) (by rfl) ?_ ?_
    rotate_left
    · intro W hW; go_simp; first | done | with_reducible rfl
    try simp only [Act.put, List.setIfInBounds_toArray, List.set_cons_zero, List.set_cons_succ]
    refine reg_take 13 (some 16) (v := ?_) rfl rfl (by kernel_rfl) (by kernel_rfl) (by kernel_rfl) (fun _ _ _ h => h) (by rfl) ?_ ?_
    rotate_left
    · intro W hW; go_simp; first | done | with_reducible rfl
    try simp only [Act.put, List.setIfInBounds_toArray, List.set_cons_zero, List.set_cons_succ]
    refine reg_take 14 (some 2) (v := ?_) rfl rfl (by kernel_rfl) (by kernel_rfl) (by kernel_rfl) (fun _ _ _ h => h) (by rfl) ?_ ?_
    rotate_left
    · intro W hW; go_simp; first | done | with_reducible rfl
    try simp only [Act.put, List.setIfInBounds_toArray, List.set_cons_zero, List.set_cons_succ]
    refine wpAnyH_done (by kernel_rfl) ?_ _
    go_wp2
    go_ret
    exact ⟨rfl, drewr (World.grownBy.refl _ _)⟩
  · have e0 : c.w0 now = false := by simp [Lc.w0, h0]
    rw [e0]
    clear e0
    go_enter Try.func48, Try.ntmps48
    go_wp2
    refine reg_open (none) (n := 15) rfl (by kernel_rfl) ?_
    refine reg_take 0 (some 3) (v := ?_) rfl rfl (by kernel_rfl) (by kernel_rfl) (by kernel_rfl) (fun _ _ _ h => h) (by rfl) ?_ ?_
    rotate_left
    · intro W hW; have k := cell_of_one ((hW.block _ (lt_of_block HS.out) (by simp)).trans HS.out); go_simp; first | done | with_reducible rfl
    try simp only [Act.put, List.setIfInBounds_toArray, List.set_cons_zero, List.set_cons_succ]
    refine reg_take 1 (some 4) (v := ?_) rfl rfl (by kernel_rfl) (by kernel_rfl) (by kernel_rfl) (fun _ _ _ h => h) (by rfl) ?_ ?_
    rotate_left
    · intro W hW; go_simp; first | done | with_reducible rfl
    try simp only [Act.put, List.setIfInBounds_toArray, List.set_cons_zero, List.set_cons_succ]
    refine reg_take 2 (some 5) (v := ?_) rfl rfl (by kernel_rfl) (by kernel_rfl) (by kernel_rfl) (fun _ _ _ h => h) (by rfl) ?_ ?_
    rotate_left
    · intro W hW; go_simp; first | done | with_reducible rfl
    try simp only [Act.put, List.setIfInBounds_toArray, List.set_cons_zero, List.set_cons_succ]
    refine reg_take 3 (some 6) (v := ?_) rfl rfl (by kernel_rfl) (by kernel_rfl) (by kernel_rfl) (fun _ _ _ h => h) (by rfl) ?_ ?_
    rotate_left
    · intro W hW; have k : W.cell? ⟨B, 0, none⟩ = some (.int .u32 c.alarm) := cells_all ((hW.block _ (lt_of_block HL.out.blk) (by simp)).trans HL.out.blk) 0; go_simp; first | done | with_reducible rfl
    try simp only [Act.put, List.setIfInBounds_toArray, List.set_cons_zero, List.set_cons_succ]
    refine reg_take 4 (some 7) (v := ?_) rfl rfl (by kernel_rfl) (by kernel_rfl) (by kernel_rfl) (fun _ _ _ h => h) (by rfl) ?_ ?_
    rotate_left
    · intro W hW; have hz : (0 < c.alarm) = False := eq_false (by omega); go_simp; first | done | with_reducible rfl
    try simp only [Act.put, List.setIfInBounds_toArray, List.set_cons_zero, List.set_cons_succ]
    refine reg_take 5 (some 8) (v := ?_) rfl rfl (by kernel_rfl) (by kernel_rfl) (by kernel_rfl) (fun _ _ _ h => h) (by rfl) ?_ ?_
    rotate_left
    · intro W hW; go_simp; first | done | with_reducible rfl
    try simp only [Act.put, List.setIfInBounds_toArray, List.set_cons_zero, List.set_cons_succ]
    refine reg_skip 6 (some 9) rfl rfl (by kernel_rfl) (by kernel_rfl) (by kernel_rfl) (fun _ _ _ h => h) (by rfl) ?_
    try simp only [Act.put, List.setIfInBounds_toArray, List.set_cons_zero, List.set_cons_succ]
    refine reg_skip 7 (some 10) rfl rfl (by kernel_rfl) (by kernel_rfl) (by kernel_rfl) (fun _ _ _ h => h) (by rfl) ?_
    try simp only [Act.put, List.setIfInBounds_toArray, List.set_cons_zero, List.set_cons_succ]
    refine reg_skip 8 (some 11) rfl rfl (by kernel_rfl) (by kernel_rfl) (by kernel_rfl) (fun _ _ _ h => h) (by rfl) ?_
    try simp only [Act.put, List.setIfInBounds_toArray, List.set_cons_zero, List.set_cons_succ]
    refine reg_skip 9 (some 12) rfl rfl (by kernel_rfl) (by kernel_rfl) (by kernel_rfl) (fun _ _ _ h => h) (by rfl) ?_
    try simp only [Act.put, List.setIfInBounds_toArray, List.set_cons_zero, List.set_cons_succ]
    refine reg_skip 10 (some 13) rfl rfl (by kernel_rfl) (by kernel_rfl) (by kernel_rfl) (fun _ _ _ h => h) (by rfl) ?_
    try simp only [Act.put, List.setIfInBounds_toArray, List.set_cons_zero, List.set_cons_succ]
    refine reg_skip 11 (some 14) rfl rfl (by kernel_rfl) (by kernel_rfl) (by kernel_rfl) (fun _ _ _ h => h) (by rfl) ?_
    try simp only [Act.put, List.setIfInBounds_toArray, List.set_cons_zero, List.set_cons_succ]
    refine reg_skip 12 (some 15) rfl rfl (by kernel_rfl) (by kernel_rfl) (by kernel_rfl) (fun _ _ _ h => h) (by rfl) ?_
    try simp only [Act.put, List.setIfInBounds_toArray, List.set_cons_zero, List.set_cons_succ]
    refine reg_take 13 (some 16) (v := ?_) rfl rfl (by kernel_rfl) (by kernel_rfl) (by kernel_rfl) (fun _ _ _ h => h) (by rfl) ?_ ?_
    rotate_left
    · intro W hW; go_simp; first | done | with_reducible rfl
    try simp only [Act.put, List.setIfInBounds_toArray, List.set_cons_zero, List.set_cons_succ]
    refine reg_take 14 (some 2) (v := ?_) rfl rfl (by kernel_rfl) (by kernel_rfl) (by kernel_rfl) (fun _ _ _ h => h) (by rfl) ?_ ?_
    rotate_left
    · intro W hW; go_simp; first | done | with_reducible rfl
    try simp only [Act.put, List.setIfInBounds_toArray, List.set_cons_zero, List.set_cons_succ]
    refine wpAnyH_done (by kernel_rfl) ?_ _
    go_wp2
    go_ret
    exact ⟨rfl, drewr (World.grownBy.refl _ _)⟩
theorem want1_lk (S B : Nat) (c : Lc) (a : Option Addr) (n cap : Nat) (hq : c.qv = .slice a n cap) (w : World) (hs : w.heap[S]? = some (.cells #[.pointer (some ⟨B, 0, none⟩)] 23 (0, 0))) (hL : Lk w B c) :
    Calls Try.prog 49 #[.pointer (some ⟨S, 0, none⟩)] w fun e w' => e = .returned (.bool (decide (0 < n))) ∧ w = w' := by
  have c0 := cell_of_one hs
  have c1 : w.cell? ⟨B, 6, none⟩ = some (.slice a n cap) := (hL.cell 6).trans (congrArg some hq)
  go_enter Try.func49, Try.ntmps49
  go_wp2
  go_ret
  exact ⟨by simp, rfl⟩
theorem want2_lk (S B : Nat) (c : Lc) (w : World) (hs : w.heap[S]? = some (.cells #[.pointer (some ⟨B, 0, none⟩)] 23 (0, 0))) (hL : Lk w B c) :
    Calls Try.prog 50 #[.pointer (some ⟨S, 0, none⟩)] w fun e w' => e = .returned (.bool c.u2) ∧ w = w' := by
  have c0 := cell_of_one hs
  have c1 : w.cell? ⟨B, 4, none⟩ = some (.bool c.u2) := hL.cell 4
  go_enter Try.func50, Try.ntmps50
  go_wp2
  go_ret
  exact ⟨rfl, rfl⟩
theorem want3_lk (S B : Nat) (c : Lc) (w : World) (hs : w.heap[S]? = some (.cells #[.pointer (some ⟨B, 0, none⟩)] 23 (0, 0))) (hL : Lk w B c) :
    Calls Try.prog 51 #[.pointer (some ⟨S, 0, none⟩)] w fun e w' => e = .returned (.bool c.u3) ∧ w = w' := by
  have c0 := cell_of_one hs
  have c1 : w.cell? ⟨B, 5, none⟩ = some (.bool c.u3) := hL.cell 5
  go_enter Try.func51, Try.ntmps51
  go_wp2
  go_ret
  exact ⟨rfl, rfl⟩
theorem four_new (w : World) (a b c d : Obj) : w.grownBy ((((w.alloc a).alloc b).alloc c).alloc d) none ∧ ((((w.alloc a).alloc b).alloc c).alloc d).heap[w.heap.size]? = some a ∧ ((((w.alloc a).alloc b).alloc c).alloc d).heap[w.heap.size + 1]? = some b ∧
    ((((w.alloc a).alloc b).alloc c).alloc d).heap[w.heap.size + 1 + 1]? = some c ∧ ((((w.alloc a).alloc b).alloc c).alloc d).heap[w.heap.size + 1 + 1 + 1]? = some d := by
  have h1 := heap_alloc_new w a
  have h2 := heap_alloc_new (w.alloc a) b
  have h3 := heap_alloc_new ((w.alloc a).alloc b) c
  have h4 := heap_alloc_new (((w.alloc a).alloc b).alloc c) d
  simp only [World.size_alloc] at h2 h3 h4
  refine ⟨(((World.grownBy_alloc w a none).trans (World.grownBy_alloc _ b none)).trans (World.grownBy_alloc _ c none)).trans (World.grownBy_alloc _ d none), ?_, ?_, ?_, h4⟩
  · exact (heap_alloc_old _ _ (by simp <;> omega)).trans ((heap_alloc_old _ _ (by simp <;> omega)).trans ((heap_alloc_old _ _ (by simp)).trans h1))
  · exact (heap_alloc_old _ _ (by simp <;> omega)).trans ((heap_alloc_old _ _ (by simp)).trans h2)
  · exact (heap_alloc_old _ _ (by simp)).trans h3
theorem wanting_lk (B : Nat) (now : Int) (w : World) : Calls Try.prog 41 #[.pointer (some ⟨B, 0, none⟩), .int .i64 now] w fun e w' => ∃ S N G V, e = .returned (.func (.func 52) #[] #[.pointer (some ⟨S, 0, none⟩), .pointer (some ⟨V, 0, none⟩)]) ∧ Wn w' S N G V B now ∧ w.grownBy w' none := by
  go_enter Try.func41, Try.ntmps41
  go_wp2
  go_ret
  have h := four_new w (.cells #[.pointer (some ⟨B, 0, none⟩)] 23) (.cells #[.int .i64 now] 2) (.cells #[.func (.func 48) #[] #[.pointer (some ⟨w.heap.size, 0, none⟩), .pointer (some ⟨w.heap.size + 1, 0, none⟩)], .func (.func 49) #[] #[.pointer (some ⟨w.heap.size, 0, none⟩)], .func (.func 50) #[] #[.pointer (some ⟨w.heap.size, 0, none⟩)], .func (.func 51) #[] #[.pointer (some ⟨w.heap.size, 0, none⟩)]] 44) (.cells #[.slice (some ⟨w.heap.size + 1 + 1, 0, none⟩) 4 4] 81)
  exact ⟨_, _, _, _, rfl, ⟨h.2.1, h.2.2.1, h.2.2.2.1, h.2.2.2.2⟩, h.1⟩
end Go.Proofs.Ytmdgehpmeikgfaa
