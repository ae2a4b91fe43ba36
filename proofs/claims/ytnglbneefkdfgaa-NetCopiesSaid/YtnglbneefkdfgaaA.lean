import Derived.Test.YtnglbneefkdfgaaGs
set_option linter.unusedVariables false
namespace Go.Proofs.Ytnglbneefkdfgaa
open Go.RowKit
/-- The cells of a net, but for the last: it is made. -/
structure Nc where
  wv : Value
  sv : Value
  nin : Int
  nout : Int
abbrev Nc.cells (c : Nc) : Array Value := #[c.wv, c.sv, .int .i64 c.nin, .int .i64 c.nout, .bool true]
/-- The block of a net. -/
def Nk (w : World) (B : Nat) (c : Nc) : Prop := w.heap[B]? = some (.cells c.cells 59 (0, 0))
theorem Nk.blk {w : World} {B : Nat} {c : Nc} (h : Nk w B c) : w.heap[B]? = some (.cells c.cells 59 (0, 0)) := h
theorem Nk.kept {w w' : World} {B : Nat} {c : Nc} {row : Option Nat} (h : Nk w B c) (hg : w.grownBy w' row) (hne : some B ≠ row) : Nk w' B c := (hg.block B (lt_of_block h) hne).trans h
theorem Nk.keptNone {w w' : World} {B : Nat} {c : Nc} (h : Nk w B c) (hg : w.grownBy w' none) : Nk w' B c := h.kept hg (by simp)
theorem Nk.keeps {w w' : World} {B : Nat} {c : Nc} {X : Nat → Prop} (h : Nk w B c) (hg : Keeps X w w') (hne : ¬ X B) : Nk w' B c := (hg.block B (lt_of_block h) hne).trans h
theorem Nk.lt {w : World} {B : Nat} {c : Nc} (h : Nk w B c) : B < w.heap.size := lt_of_block h
theorem Nk.drew {w : World} {B : Nat} {c : Nc} (h : Nk w B c) : Nk w.drew B c := h
theorem Nk.cell {w : World} {B : Nat} {c : Nc} (h : Nk w B c) (j : Nat) : w.cell? ⟨B, j, none⟩ = c.cells[j]? := cells_all h j
theorem Nk.free {w : World} {B : Nat} {c : Nc} (h : Nk w B c) (j : Nat) : w.frozen? ⟨B, j, none⟩ = false := frozen_all h j
theorem Nk.set {w : World} {B : Nat} {c c' : Nc} (j : Nat) (v : Value) (h : Nk w B c) (e : c'.cells = c.cells.setIfInBounds j v) : Nk (w.setCell ⟨B, j, none⟩ v) B c' := by
  have := heap_setCell_at (j := j) v h.blk
  rw [← e] at this
  exact this
def Nc.new : Nc := ⟨.slice none 0 0, .slice none 0 0, 0, 0⟩
theorem none_nil (w : World) : Calls Try.prog 31 #[.pointer none] w fun e w' => e = .returned (.bool true) ∧ w = w' := by
  go_enter Try.func31, Try.ntmps31
  go_wp2
  go_ret
  exact ⟨rfl, rfl⟩
theorem none_nk (B : Nat) (c : Nc) (w : World) (h : Nk w B c) : Calls Try.prog 31 #[.pointer (some ⟨B, 0, none⟩)] w fun e w' => e = .returned (.bool false) ∧ w = w' := by
  have hc : w.cell? ⟨B, 4, none⟩ = some (.bool true) := h.cell 4
  clear h
  go_enter Try.func31, Try.ntmps31
  go_wp2
  go_ret
  exact ⟨rfl, rfl⟩
theorem new_any (w : World) : Calls Try.prog 10 #[] w fun e w' => ∃ B, e = .returned (.pointer (some ⟨B, 0, none⟩)) ∧ w.heap.size ≤ B ∧ Nk w' B .new ∧ w.grownBy w' none := by
  have H := Lib.hid (heap_alloc_new w (.cells Nc.new.cells 59))
  go_enter Try.func10, Try.ntmps10
  go_wp2
  go_ret
  exact ⟨w.heap.size, rfl, Nat.le_refl _, H.out, World.grownBy_alloc _ _ _⟩
theorem waits_nil (w : World) : Calls Try.prog 14 #[.pointer none] w fun e w' => e = .returned (.int .i64 0) ∧ w = w' := by
  go_enter Try.func14, Try.ntmps14
  go_wp2_with fail
  refine (none_nil _).mono ?_; rintro e w' ⟨rfl, rfl⟩
  go_wp2
  go_ret
  exact ⟨rfl, rfl⟩
theorem waits_nk (B : Nat) (c : Nc) (n : Nat) (vs : List Value) (w : World) (h : Nk w B c) (hW : Gs eP w c.wv n vs) : Calls Try.prog 14 #[.pointer (some ⟨B, 0, none⟩)] w fun e w' => e = .returned (.int .i64 (n : Nat)) ∧ w = w' := by
  obtain ⟨a, cap, hv, _⟩ := hW.shape
  have HL := Lib.hid h
  have c0 : w.cell? ⟨B, 0, none⟩ = some (.slice a n cap) := (h.cell 0).trans (congrArg some hv)
  clear h hW
  go_enter Try.func14, Try.ntmps14
  go_wp2_with fail
  refine (none_nk B c _ HL.out).mono ?_; rintro e w' ⟨rfl, rfl⟩
  go_wp2
  go_ret
  exact ⟨rfl, rfl⟩
theorem count_nil (w : World) : Calls Try.prog 28 #[.pointer none] w fun e w' => e = .returned (.tuple #[.int .i64 0, .int .i64 0]) ∧ w = w' := by
  go_enter Try.func28, Try.ntmps28
  go_wp2_with fail
  refine (none_nil _).mono ?_; rintro e w' ⟨rfl, rfl⟩
  go_wp2
  go_ret2
  exact ⟨rfl, rfl⟩
theorem refused_nil (xa : Option Addr) (m xcap : Nat) (k : Int) (w : World) : Calls Try.prog 29 #[.pointer none, .slice xa m xcap, .int .i64 k] w fun e w' => e = .returned (.int .i64 1) ∧ w = w' := by
  go_enter Try.func29, Try.ntmps29
  go_wp2_with fail
  refine (none_nil _).mono ?_; rintro e w' ⟨rfl, rfl⟩
  go_wp2
  go_ret
  exact ⟨rfl, rfl⟩
set_option maxRecDepth 100000 in
theorem refused_many (B : Nat) (c : Nc) (xa : Option Addr) (m xcap : Nat) (k : Nat) (hk : 256 ≤ k) (w : World) (h : Nk w B c) : Calls Try.prog 29 #[.pointer (some ⟨B, 0, none⟩), .slice xa m xcap, .int .i64 (k : Nat)] w fun e w' => e = .returned (.int .i64 3) ∧ w = w' := by
  have HL := Lib.hid h
  have hk' : (256 : Int) ≤ (k : Nat) := by omega
  clear h
  go_enter Try.func29, Try.ntmps29
  go_wp2_with fail
  refine (none_nk B c _ HL.out).mono ?_; rintro e w' ⟨rfl, rfl⟩
  go_wp2
  go_ret
  exact ⟨rfl, rfl⟩
set_option maxRecDepth 100000 in
theorem refused_long (B : Nat) (c : Nc) (xa : Option Addr) (m xcap : Nat) (k : Nat) (hk : k < 256) (hm : 64 < m) (w : World) (h : Nk w B c) : Calls Try.prog 29 #[.pointer (some ⟨B, 0, none⟩), .slice xa m xcap, .int .i64 (k : Nat)] w fun e w' => e = .returned (.int .i64 3) ∧ w = w' := by
  have HL := Lib.hid h
  have hk' : ¬ (256 : Int) ≤ (k : Nat) := by omega
  have hm' : (64 : Int) < (m : Nat) := by omega
  clear h
  go_enter Try.func29, Try.ntmps29
  go_wp2_with fail
  refine (none_nk B c _ HL.out).mono ?_; rintro e w' ⟨rfl, rfl⟩
  go_wp2
  go_ret
  exact ⟨rfl, rfl⟩
set_option maxRecDepth 100000 in
theorem refused_ok (B : Nat) (c : Nc) (xa : Option Addr) (m xcap : Nat) (k : Nat) (hk : k < 256) (hm : m ≤ 64) (w : World) (h : Nk w B c) : Calls Try.prog 29 #[.pointer (some ⟨B, 0, none⟩), .slice xa m xcap, .int .i64 (k : Nat)] w fun e w' => e = .returned (.int .i64 0) ∧ w = w' := by
  have HL := Lib.hid h
  have hk' : ¬ (256 : Int) ≤ (k : Nat) := by omega
  have hm' : ¬ (64 : Int) < (m : Nat) := by omega
  clear h
  go_enter Try.func29, Try.ntmps29
  go_wp2_with fail
  refine (none_nk B c _ HL.out).mono ?_; rintro e w' ⟨rfl, rfl⟩
  go_wp2
  go_ret
  exact ⟨rfl, rfl⟩
theorem count_nk (B : Nat) (c : Nc) (w : World) (h : Nk w B c) : Calls Try.prog 28 #[.pointer (some ⟨B, 0, none⟩)] w fun e w' => e = .returned (.tuple #[.int .i64 c.nin, .int .i64 c.nout]) ∧ w.drew = w' := by
  have HL := Lib.hid h
  clear h
  go_enter Try.func28, Try.ntmps28
  go_wp2_with fail
  refine (none_nk B c _ HL.out).mono ?_; rintro e w' ⟨rfl, rfl⟩
  go_wp2
  refine reg_open (none) (n := 10) rfl (by kernel_rfl) ?_
  refine reg_take 0 (some 6) (v := ?_) rfl rfl (by kernel_rfl) (by kernel_rfl) (by kernel_rfl) (fun _ _ _ h => h) (by rfl) ?_ ?_
  rotate_left
  · intro W hW; go_simp; first | done | with_reducible rfl
  try simp only [Act.put, List.setIfInBounds_toArray, List.set_cons_zero, List.set_cons_succ]
  refine reg_take 1 (some 7) (v := ?_) rfl rfl (by kernel_rfl) (by kernel_rfl) (by kernel_rfl) (fun _ _ _ h => h) (by rfl) ?_ ?_
  rotate_left
  · intro W hW; go_simp; first | done | with_reducible rfl
  try simp only [Act.put, List.setIfInBounds_toArray, List.set_cons_zero, List.set_cons_succ]
  refine reg_take 2 (some 8) (v := ?_) rfl rfl (by kernel_rfl) (by kernel_rfl) (by kernel_rfl) (fun _ _ _ h => h) (by rfl) ?_ ?_
  rotate_left
  · intro W hW; go_simp; first | done | with_reducible rfl
  try simp only [Act.put, List.setIfInBounds_toArray, List.set_cons_zero, List.set_cons_succ]
  refine reg_take 3 (some 9) (v := ?_) rfl rfl (by kernel_rfl) (by kernel_rfl) (by kernel_rfl) (fun _ _ _ h => h) (by rfl) ?_ ?_
  rotate_left
  · intro W hW; have k := cells_all (((hW).block B (lt_of_block HL.out.blk) (by simp)).trans HL.out.blk) 2; go_simp; first | done | with_reducible rfl
  try simp only [Act.put, List.setIfInBounds_toArray, List.set_cons_zero, List.set_cons_succ]
  refine reg_take 4 (some 10) (v := ?_) rfl rfl (by kernel_rfl) (by kernel_rfl) (by kernel_rfl) (fun _ _ _ h => h) (by rfl) ?_ ?_
  rotate_left
  · intro W hW; go_simp; first | done | with_reducible rfl
  try simp only [Act.put, List.setIfInBounds_toArray, List.set_cons_zero, List.set_cons_succ]
  refine reg_take 5 (some 11) (v := ?_) rfl rfl (by kernel_rfl) (by kernel_rfl) (by kernel_rfl) (fun _ _ _ h => h) (by rfl) ?_ ?_
  rotate_left
  · intro W hW; go_simp; first | done | with_reducible rfl
  try simp only [Act.put, List.setIfInBounds_toArray, List.set_cons_zero, List.set_cons_succ]
  refine reg_take 6 (some 12) (v := ?_) rfl rfl (by kernel_rfl) (by kernel_rfl) (by kernel_rfl) (fun _ _ _ h => h) (by rfl) ?_ ?_
  rotate_left
  · intro W hW; go_simp; first | done | with_reducible rfl
  try simp only [Act.put, List.setIfInBounds_toArray, List.set_cons_zero, List.set_cons_succ]
  refine reg_take 7 (some 13) (v := ?_) rfl rfl (by kernel_rfl) (by kernel_rfl) (by kernel_rfl) (fun _ _ _ h => h) (by rfl) ?_ ?_
  rotate_left
  · intro W hW; have k := cells_all (((hW).block B (lt_of_block HL.out.blk) (by simp)).trans HL.out.blk) 3; go_simp; first | done | with_reducible rfl
  try simp only [Act.put, List.setIfInBounds_toArray, List.set_cons_zero, List.set_cons_succ]
  refine reg_take 8 (some 2) (v := ?_) rfl rfl (by kernel_rfl) (by kernel_rfl) (by kernel_rfl) (fun _ _ _ h => h) (by rfl) ?_ ?_
  rotate_left
  · intro W hW; go_simp; first | done | with_reducible rfl
  try simp only [Act.put, List.setIfInBounds_toArray, List.set_cons_zero, List.set_cons_succ]
  refine reg_take 9 (some 3) (v := ?_) rfl rfl (by kernel_rfl) (by kernel_rfl) (by kernel_rfl) (fun _ _ _ h => h) (by rfl) ?_ ?_
  rotate_left
  · intro W hW; go_simp; first | done | with_reducible rfl
  try simp only [Act.put, List.setIfInBounds_toArray, List.set_cons_zero, List.set_cons_succ]
  refine wpAnyH_done (by kernel_rfl) ?_ _
  go_wp2
  go_ret2
  exact ⟨rfl, rfl⟩
theorem copied_b (v : Value) (n : Nat) (vs : List Value) (w : World) (hQ : Go.Src Try.prog 1 22 v n vs w) (hone : ∀ u ∈ vs, u.oneCell' = true) (hl : n ≤ 1000000) : Calls Try.prog 30 #[v] w fun e w' => ∃ v', e = .returned v' ∧ Gs eB w' v' n vs ∧ w.grownBy w' none ∧ (∀ k, rowOf v' = some k → w.heap.size ≤ k) := by
  go_enter Try.func30, Try.ntmps30
  go_wp2_with (at_builtin; refine wpList_gs eB rfl _ _ 22 rfl _ 0 n [] vs rfl rfl (Gs.nil eB _) hQ hone (by omega) ?_)
  intro v2 w2 hQ2 hg2 hr2
  have hQ3 : Gs eB w2 v2 n vs := by simpa using hQ2
  have HQ := Lib.hid hQ3
  have HG := Lib.hid (show w.grownBy w2 none from hg2)
  have HR := Lib.hid (show ∀ k, rowOf v2 = some k → w.heap.size ≤ k from fun k hk => by
    rcases hr2 with h | h
    · rw [h] at hk; cases hk
    · rw [h] at hk; cases hk; exact Nat.le_refl _)
  clear hQ2 hQ3 hg2 hr2 hQ
  go_wp2
  go_ret
  exact ⟨v2, rfl, HQ.out, HG.out, HR.out⟩
theorem copied_p (v : Value) (n : Nat) (vs : List Value) (w : World) (hQ : Gs eP w v n vs) (hl : n ≤ 1000000) : Calls Try.prog 38 #[v] w fun e w' => ∃ v', e = .returned v' ∧ Gs eP w' v' n vs ∧ w.grownBy w' none ∧ (∀ k, rowOf v' = some k → w.heap.size ≤ k) := by
  have hs := hQ.src
  have hone := hQ.2.1
  clear hQ
  go_enter Try.func38, Try.ntmps38
  go_wp2_with (at_builtin; refine wpList_gs eP rfl _ _ 57 rfl _ 0 n [] vs rfl rfl (Gs.nil eP _) hs hone (by omega) ?_)
  intro v2 w2 hQ2 hg2 hr2
  have hQ3 : Gs eP w2 v2 n vs := by simpa using hQ2
  have HQ := Lib.hid hQ3
  have HG := Lib.hid (show w.grownBy w2 none from hg2)
  have HR := Lib.hid (show ∀ k, rowOf v2 = some k → w.heap.size ≤ k from fun k hk => by
    rcases hr2 with h | h
    · rw [h] at hk; cases hk
    · rw [h] at hk; cases hk; exact Nat.le_refl _)
  clear hQ2 hQ3 hg2 hr2 hs
  go_wp2
  go_ret
  exact ⟨v2, rfl, HQ.out, HG.out, HR.out⟩
theorem copied_l (v : Value) (n : Nat) (vs : List Value) (w : World) (hQ : Gs eL w v n vs) (hl : n ≤ 1000000) : Calls Try.prog 39 #[v] w fun e w' => ∃ v', e = .returned v' ∧ Gs eL w' v' n vs ∧ w.grownBy w' none ∧ (∀ k, rowOf v' = some k → w.heap.size ≤ k) := by
  have hs := hQ.src
  have hone := hQ.2.1
  clear hQ
  go_enter Try.func39, Try.ntmps39
  go_wp2_with (at_builtin; refine wpList_gs eL rfl _ _ 34 rfl _ 0 n [] vs rfl rfl (Gs.nil eL _) hs hone (by omega) ?_)
  intro v2 w2 hQ2 hg2 hr2
  have hQ3 : Gs eL w2 v2 n vs := by simpa using hQ2
  have HQ := Lib.hid hQ3
  have HG := Lib.hid (show w.grownBy w2 none from hg2)
  have HR := Lib.hid (show ∀ k, rowOf v2 = some k → w.heap.size ≤ k from fun k hk => by
    rcases hr2 with h | h
    · rw [h] at hk; cases hk
    · rw [h] at hk; cases hk; exact Nat.le_refl _)
  clear hQ2 hQ3 hg2 hr2 hs
  go_wp2
  go_ret
  exact ⟨v2, rfl, HQ.out, HG.out, HR.out⟩
end Go.Proofs.Ytnglbneefkdfgaa
