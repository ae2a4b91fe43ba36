import Derived.Test.YtpoifobhbmhelaaC
set_option linter.unusedVariables false
set_option linter.unusedSimpArgs false
namespace Go.Proofs.Ytpoifobhbmhelaa
open Go.RowKit
theorem drewr {a b : World} {row : Option Nat} (h : a.grownBy b row) : a.grownBy b.drew row := ⟨h.os, h.tape, h.output, h.size, h.block⟩
theorem rt_k {a k n c l g f m : Int} (hl : lim k = some (l, g, f, m)) (h : 0 ≤ a ∧ a ≤ 4611686018427387904) : Rt a k n c ↔ (l ≤ n ∧ n ≤ g) ∧ (f ≤ c ∧ c ≤ m) := by
  unfold Rt
  rw [hl]
  simp only [LimOk]
  constructor
  · rintro ⟨_, h1, h2, h3, h4⟩; exact ⟨⟨h1, h2⟩, h3, h4⟩
  · rintro ⟨⟨h1, h2⟩, h3, h4⟩; exact ⟨h, h1, h2, h3, h4⟩
theorem rt_no {a k n c : Int} (hl : lim k = none) : ¬ Rt a k n c := by
  unfold Rt
  rw [hl]
  exact fun h => h.2
theorem ret_yes {p : Prop} [Decidable p] (h : p) : Ending.returned (.bool true) = Ending.returned (.bool (decide p)) := by rw [decide_eq_true h]
theorem ret_no {p : Prop} [Decidable p] (h : ¬ p) : Ending.returned (.bool false) = Ending.returned (.bool (decide p)) := by rw [decide_eq_false h]
set_option maxRecDepth 100000 in
theorem rright_at (a k n : Int) (x : Option Addr) (c cap : Nat) (w : World) (h : ¬ (0 ≤ a ∧ a ≤ 4611686018427387904)) : Calls Try.prog 12 #[.agg #[.int .i64 a, .int .i64 k, .int .i64 n, .slice x c cap]] w fun e w' => e = .returned (.bool (decide (Rt a k n c))) ∧ w.grownBy w' none := by
  have HX := Lib.hid (heap_alloc_new w (.cells #[.int .i64 a, .int .i64 k, .int .i64 n, .slice x c cap] 25))
  have HX0 := Lib.hid (show (w.alloc (.cells #[.int .i64 a, .int .i64 k, .int .i64 n, .slice x c cap] 25)).cell? ⟨w.heap.size, 0, none⟩ = some (.int .i64 a) from by rw [cells_all HX.out]; rfl)
  have HX1 := Lib.hid (show (w.alloc (.cells #[.int .i64 a, .int .i64 k, .int .i64 n, .slice x c cap] 25)).cell? ⟨w.heap.size, 1, none⟩ = some (.int .i64 k) from by rw [cells_all HX.out]; rfl)
  have HX2 := Lib.hid (show (w.alloc (.cells #[.int .i64 a, .int .i64 k, .int .i64 n, .slice x c cap] 25)).cell? ⟨w.heap.size, 2, none⟩ = some (.int .i64 n) from by rw [cells_all HX.out]; rfl)
  have HX3 := Lib.hid (show (w.alloc (.cells #[.int .i64 a, .int .i64 k, .int .i64 n, .slice x c cap] 25)).cell? ⟨w.heap.size, 3, none⟩ = some (.slice x c cap) from by rw [cells_all HX.out]; rfl)
  have HA := Lib.hid h
  clear h
  go_enter Try.func12, Try.ntmps12
  go_wp2
  refine reg_open (none) (n := 7) rfl (by kernel_rfl) ?_
  refine reg_take 0 (some 5) (v := ?_) rfl rfl (by kernel_rfl) (by kernel_rfl) (by kernel_rfl) (fun _ _ _ h => h) (by rfl) ?_ ?_
  rotate_left
  · intro W hW; go_simp; first | done | with_reducible rfl
  try simp only [Act.put, List.setIfInBounds_toArray, List.set_cons_zero, List.set_cons_succ]
  refine reg_take 1 (some 6) (v := ?_) rfl rfl (by kernel_rfl) (by kernel_rfl) (by kernel_rfl) (fun _ _ _ h => h) (by rfl) ?_ ?_
  rotate_left
  · intro W hW; have k1 := (hW).cell (show (w.alloc (.cells #[.int .i64 a, .int .i64 k, .int .i64 n, .slice x c cap] 25)).drew.cell? ⟨w.heap.size, 2, none⟩ = some (.int .i64 n) from HX2.out) (by simp); go_simp; first | done | with_reducible rfl
  try simp only [Act.put, List.setIfInBounds_toArray, List.set_cons_zero, List.set_cons_succ]
  refine reg_take 2 (some 7) (v := ?_) rfl rfl (by kernel_rfl) (by kernel_rfl) (by kernel_rfl) (fun _ _ _ h => h) (by rfl) ?_ ?_
  rotate_left
  · intro W hW; go_simp; first | done | with_reducible rfl
  try simp only [Act.put, List.setIfInBounds_toArray, List.set_cons_zero, List.set_cons_succ]
  refine reg_take 3 (some 8) (v := ?_) rfl rfl (by kernel_rfl) (by kernel_rfl) (by kernel_rfl) (fun _ _ _ h => h) (by rfl) ?_ ?_
  rotate_left
  · intro W hW; have k1 := (hW).cell (show (w.alloc (.cells #[.int .i64 a, .int .i64 k, .int .i64 n, .slice x c cap] 25)).drew.cell? ⟨w.heap.size, 3, none⟩ = some (.slice x c cap) from HX3.out) (by simp); go_simp; first | done | with_reducible rfl
  try simp only [Act.put, List.setIfInBounds_toArray, List.set_cons_zero, List.set_cons_succ]
  refine reg_take 4 (some 9) (v := ?_) rfl rfl (by kernel_rfl) (by kernel_rfl) (by kernel_rfl) (fun _ _ _ h => h) (by rfl) ?_ ?_
  rotate_left
  · intro W hW; go_simp; first | done | with_reducible rfl
  try simp only [Act.put, List.setIfInBounds_toArray, List.set_cons_zero, List.set_cons_succ]
  refine reg_take 5 (some 3) (v := ?_) rfl rfl (by kernel_rfl) (by kernel_rfl) (by kernel_rfl) (fun _ _ _ h => h) (by rfl) ?_ ?_
  rotate_left
  · intro W hW; go_simp; first | done | with_reducible rfl
  try simp only [Act.put, List.setIfInBounds_toArray, List.set_cons_zero, List.set_cons_succ]
  refine reg_take 6 (some 4) (v := ?_) rfl rfl (by kernel_rfl) (by kernel_rfl) (by kernel_rfl) (fun _ _ _ h => h) (by rfl) ?_ ?_
  rotate_left
  · intro W hW; go_simp; first | done | with_reducible rfl
  try simp only [Act.put, List.setIfInBounds_toArray, List.set_cons_zero, List.set_cons_succ]
  refine wpAnyH_done (by kernel_rfl) ?_ _
  have k8 := HX0.out
  have k9 := HX1.out
  clear HX HX0 HX1 HX2 HX3
  go_wp2_with fail
  refine (within_no _ _ _ HA.out _).mono ?_; rintro e w2 ⟨rfl, rfl⟩
  go_wp2
  go_ret
  exact ⟨ret_no (fun h2 => HA.out h2.1), drewr (World.grownBy_alloc w _ none)⟩
set_option maxRecDepth 100000 in
theorem rright_none (a k n : Int) (x : Option Addr) (c cap : Nat) (w : World) (h : 0 ≤ a ∧ a ≤ 4611686018427387904) (hk : lim k = none) (g1 : (k == 1) = false) (g2 : (k == 2) = false) (g3 : (k == 3) = false) (g4 : (k == 4) = false) (g5 : (k == 5) = false) (g6 : (k == 6) = false) (g7 : (k == 7) = false) : Calls Try.prog 12 #[.agg #[.int .i64 a, .int .i64 k, .int .i64 n, .slice x c cap]] w fun e w' => e = .returned (.bool (decide (Rt a k n c))) ∧ w.grownBy w' none := by
  have HX := Lib.hid (heap_alloc_new w (.cells #[.int .i64 a, .int .i64 k, .int .i64 n, .slice x c cap] 25))
  have HX0 := Lib.hid (show (w.alloc (.cells #[.int .i64 a, .int .i64 k, .int .i64 n, .slice x c cap] 25)).cell? ⟨w.heap.size, 0, none⟩ = some (.int .i64 a) from by rw [cells_all HX.out]; rfl)
  have HX1 := Lib.hid (show (w.alloc (.cells #[.int .i64 a, .int .i64 k, .int .i64 n, .slice x c cap] 25)).cell? ⟨w.heap.size, 1, none⟩ = some (.int .i64 k) from by rw [cells_all HX.out]; rfl)
  have HX2 := Lib.hid (show (w.alloc (.cells #[.int .i64 a, .int .i64 k, .int .i64 n, .slice x c cap] 25)).cell? ⟨w.heap.size, 2, none⟩ = some (.int .i64 n) from by rw [cells_all HX.out]; rfl)
  have HX3 := Lib.hid (show (w.alloc (.cells #[.int .i64 a, .int .i64 k, .int .i64 n, .slice x c cap] 25)).cell? ⟨w.heap.size, 3, none⟩ = some (.slice x c cap) from by rw [cells_all HX.out]; rfl)
  have HAT := Lib.hid h
  have HA := Lib.hid h.1
  have HA2 := Lib.hid h.2
  have HL := Lib.hid hk
  clear h hk
  go_enter Try.func12, Try.ntmps12
  go_wp2
  refine reg_open (none) (n := 7) rfl (by kernel_rfl) ?_
  refine reg_take 0 (some 5) (v := ?_) rfl rfl (by kernel_rfl) (by kernel_rfl) (by kernel_rfl) (fun _ _ _ h => h) (by rfl) ?_ ?_
  rotate_left
  · intro W hW; go_simp; first | done | with_reducible rfl
  try simp only [Act.put, List.setIfInBounds_toArray, List.set_cons_zero, List.set_cons_succ]
  refine reg_take 1 (some 6) (v := ?_) rfl rfl (by kernel_rfl) (by kernel_rfl) (by kernel_rfl) (fun _ _ _ h => h) (by rfl) ?_ ?_
  rotate_left
  · intro W hW; have k1 := (hW).cell (show (w.alloc (.cells #[.int .i64 a, .int .i64 k, .int .i64 n, .slice x c cap] 25)).drew.cell? ⟨w.heap.size, 2, none⟩ = some (.int .i64 n) from HX2.out) (by simp); go_simp; first | done | with_reducible rfl
  try simp only [Act.put, List.setIfInBounds_toArray, List.set_cons_zero, List.set_cons_succ]
  refine reg_take 2 (some 7) (v := ?_) rfl rfl (by kernel_rfl) (by kernel_rfl) (by kernel_rfl) (fun _ _ _ h => h) (by rfl) ?_ ?_
  rotate_left
  · intro W hW; go_simp; first | done | with_reducible rfl
  try simp only [Act.put, List.setIfInBounds_toArray, List.set_cons_zero, List.set_cons_succ]
  refine reg_take 3 (some 8) (v := ?_) rfl rfl (by kernel_rfl) (by kernel_rfl) (by kernel_rfl) (fun _ _ _ h => h) (by rfl) ?_ ?_
  rotate_left
  · intro W hW; have k1 := (hW).cell (show (w.alloc (.cells #[.int .i64 a, .int .i64 k, .int .i64 n, .slice x c cap] 25)).drew.cell? ⟨w.heap.size, 3, none⟩ = some (.slice x c cap) from HX3.out) (by simp); go_simp; first | done | with_reducible rfl
  try simp only [Act.put, List.setIfInBounds_toArray, List.set_cons_zero, List.set_cons_succ]
  refine reg_take 4 (some 9) (v := ?_) rfl rfl (by kernel_rfl) (by kernel_rfl) (by kernel_rfl) (fun _ _ _ h => h) (by rfl) ?_ ?_
  rotate_left
  · intro W hW; go_simp; first | done | with_reducible rfl
  try simp only [Act.put, List.setIfInBounds_toArray, List.set_cons_zero, List.set_cons_succ]
  refine reg_take 5 (some 3) (v := ?_) rfl rfl (by kernel_rfl) (by kernel_rfl) (by kernel_rfl) (fun _ _ _ h => h) (by rfl) ?_ ?_
  rotate_left
  · intro W hW; go_simp; first | done | with_reducible rfl
  try simp only [Act.put, List.setIfInBounds_toArray, List.set_cons_zero, List.set_cons_succ]
  refine reg_take 6 (some 4) (v := ?_) rfl rfl (by kernel_rfl) (by kernel_rfl) (by kernel_rfl) (fun _ _ _ h => h) (by rfl) ?_ ?_
  rotate_left
  · intro W hW; go_simp; first | done | with_reducible rfl
  try simp only [Act.put, List.setIfInBounds_toArray, List.set_cons_zero, List.set_cons_succ]
  refine wpAnyH_done (by kernel_rfl) ?_ _
  have k8 := HX0.out
  have k9 := HX1.out
  clear HX HX0 HX1 HX2 HX3
  go_wp2_with fail
  refine (within_yes _ _ _ HA.out HA2.out _).mono ?_; rintro e w2 ⟨rfl, rfl⟩
  go_wp2
  go_ret
  exact ⟨ret_no (rt_no HL.out), drewr (World.grownBy_alloc w _ none)⟩
set_option maxRecDepth 100000 in
theorem rright_1 (a k n : Int) (x : Option Addr) (c cap : Nat) (w : World) (h : 0 ≤ a ∧ a ≤ 4611686018427387904) (hl : lim k = some (0, 65535, 0, 2048))  (g1 : (k == 1) = true) : Calls Try.prog 12 #[.agg #[.int .i64 a, .int .i64 k, .int .i64 n, .slice x c cap]] w fun e w' => e = .returned (.bool (decide (Rt a k n c))) ∧ w.grownBy w' none := by
  have HX := Lib.hid (heap_alloc_new w (.cells #[.int .i64 a, .int .i64 k, .int .i64 n, .slice x c cap] 25))
  have HX0 := Lib.hid (show (w.alloc (.cells #[.int .i64 a, .int .i64 k, .int .i64 n, .slice x c cap] 25)).cell? ⟨w.heap.size, 0, none⟩ = some (.int .i64 a) from by rw [cells_all HX.out]; rfl)
  have HX1 := Lib.hid (show (w.alloc (.cells #[.int .i64 a, .int .i64 k, .int .i64 n, .slice x c cap] 25)).cell? ⟨w.heap.size, 1, none⟩ = some (.int .i64 k) from by rw [cells_all HX.out]; rfl)
  have HX2 := Lib.hid (show (w.alloc (.cells #[.int .i64 a, .int .i64 k, .int .i64 n, .slice x c cap] 25)).cell? ⟨w.heap.size, 2, none⟩ = some (.int .i64 n) from by rw [cells_all HX.out]; rfl)
  have HX3 := Lib.hid (show (w.alloc (.cells #[.int .i64 a, .int .i64 k, .int .i64 n, .slice x c cap] 25)).cell? ⟨w.heap.size, 3, none⟩ = some (.slice x c cap) from by rw [cells_all HX.out]; rfl)
  have HAT := Lib.hid h
  have HA := Lib.hid h.1
  have HA2 := Lib.hid h.2
  have HL := Lib.hid hl
  clear h hl
  go_enter Try.func12, Try.ntmps12
  go_wp2
  refine reg_open (none) (n := 7) rfl (by kernel_rfl) ?_
  refine reg_take 0 (some 5) (v := ?_) rfl rfl (by kernel_rfl) (by kernel_rfl) (by kernel_rfl) (fun _ _ _ h => h) (by rfl) ?_ ?_
  rotate_left
  · intro W hW; go_simp; first | done | with_reducible rfl
  try simp only [Act.put, List.setIfInBounds_toArray, List.set_cons_zero, List.set_cons_succ]
  refine reg_take 1 (some 6) (v := ?_) rfl rfl (by kernel_rfl) (by kernel_rfl) (by kernel_rfl) (fun _ _ _ h => h) (by rfl) ?_ ?_
  rotate_left
  · intro W hW; have k1 := (hW).cell (show (w.alloc (.cells #[.int .i64 a, .int .i64 k, .int .i64 n, .slice x c cap] 25)).drew.cell? ⟨w.heap.size, 2, none⟩ = some (.int .i64 n) from HX2.out) (by simp); go_simp; first | done | with_reducible rfl
  try simp only [Act.put, List.setIfInBounds_toArray, List.set_cons_zero, List.set_cons_succ]
  refine reg_take 2 (some 7) (v := ?_) rfl rfl (by kernel_rfl) (by kernel_rfl) (by kernel_rfl) (fun _ _ _ h => h) (by rfl) ?_ ?_
  rotate_left
  · intro W hW; go_simp; first | done | with_reducible rfl
  try simp only [Act.put, List.setIfInBounds_toArray, List.set_cons_zero, List.set_cons_succ]
  refine reg_take 3 (some 8) (v := ?_) rfl rfl (by kernel_rfl) (by kernel_rfl) (by kernel_rfl) (fun _ _ _ h => h) (by rfl) ?_ ?_
  rotate_left
  · intro W hW; have k1 := (hW).cell (show (w.alloc (.cells #[.int .i64 a, .int .i64 k, .int .i64 n, .slice x c cap] 25)).drew.cell? ⟨w.heap.size, 3, none⟩ = some (.slice x c cap) from HX3.out) (by simp); go_simp; first | done | with_reducible rfl
  try simp only [Act.put, List.setIfInBounds_toArray, List.set_cons_zero, List.set_cons_succ]
  refine reg_take 4 (some 9) (v := ?_) rfl rfl (by kernel_rfl) (by kernel_rfl) (by kernel_rfl) (fun _ _ _ h => h) (by rfl) ?_ ?_
  rotate_left
  · intro W hW; go_simp; first | done | with_reducible rfl
  try simp only [Act.put, List.setIfInBounds_toArray, List.set_cons_zero, List.set_cons_succ]
  refine reg_take 5 (some 3) (v := ?_) rfl rfl (by kernel_rfl) (by kernel_rfl) (by kernel_rfl) (fun _ _ _ h => h) (by rfl) ?_ ?_
  rotate_left
  · intro W hW; go_simp; first | done | with_reducible rfl
  try simp only [Act.put, List.setIfInBounds_toArray, List.set_cons_zero, List.set_cons_succ]
  refine reg_take 6 (some 4) (v := ?_) rfl rfl (by kernel_rfl) (by kernel_rfl) (by kernel_rfl) (fun _ _ _ h => h) (by rfl) ?_ ?_
  rotate_left
  · intro W hW; go_simp; first | done | with_reducible rfl
  try simp only [Act.put, List.setIfInBounds_toArray, List.set_cons_zero, List.set_cons_succ]
  refine wpAnyH_done (by kernel_rfl) ?_ _
  have k8 := HX0.out
  have k9 := HX1.out
  clear HX HX0 HX1 HX2 HX3
  go_wp2_with fail
  refine (within_yes _ _ _ HA.out HA2.out _).mono ?_; rintro e w2 ⟨rfl, rfl⟩
  by_cases hn : 0 ≤ n ∧ n ≤ 65535
  · have HN := Lib.hid hn
    have HN1 := Lib.hid hn.1
    have HN2 := Lib.hid hn.2
    clear hn
    by_cases hc2 : (c : Int) ≤ 2048
    · have HC := Lib.hid hc2
      have hc3 : decide ((c : Int) ≤ 2048) = true := decide_eq_true hc2
      clear hc2
      go_wp2_with fail
      refine (within_yes _ _ _ HN1.out HN2.out _).mono ?_; rintro e w2 ⟨rfl, rfl⟩
      go_wp2
      go_ret
      exact ⟨ret_yes (by rw [rt_k HL.out HAT.out]; have := HC.out; have := HN.out; omega), drewr (World.grownBy_alloc w _ none)⟩
    · have HC := Lib.hid hc2
      have hc3 : decide ((c : Int) ≤ 2048) = false := decide_eq_false hc2
      clear hc2
      go_wp2_with fail
      refine (within_yes _ _ _ HN1.out HN2.out _).mono ?_; rintro e w2 ⟨rfl, rfl⟩
      go_wp2
      go_ret
      exact ⟨ret_no (by rw [rt_k HL.out HAT.out]; have := HC.out; have := HN.out; omega), drewr (World.grownBy_alloc w _ none)⟩
  · have HN := Lib.hid hn
    clear hn
    go_wp2_with fail
    refine (within_no _ _ _ HN.out _).mono ?_; rintro e w2 ⟨rfl, rfl⟩
    go_wp2
    go_ret
    exact ⟨ret_no (by rw [rt_k HL.out HAT.out]; have := HN.out; omega), drewr (World.grownBy_alloc w _ none)⟩
set_option maxRecDepth 100000 in
theorem rright_2 (a k n : Int) (x : Option Addr) (c cap : Nat) (w : World) (h : 0 ≤ a ∧ a ≤ 4611686018427387904) (hl : lim k = some (0, 255, 0, 64)) (g1 : (k == 1) = false) (g2 : (k == 2) = true) : Calls Try.prog 12 #[.agg #[.int .i64 a, .int .i64 k, .int .i64 n, .slice x c cap]] w fun e w' => e = .returned (.bool (decide (Rt a k n c))) ∧ w.grownBy w' none := by
  have HX := Lib.hid (heap_alloc_new w (.cells #[.int .i64 a, .int .i64 k, .int .i64 n, .slice x c cap] 25))
  have HX0 := Lib.hid (show (w.alloc (.cells #[.int .i64 a, .int .i64 k, .int .i64 n, .slice x c cap] 25)).cell? ⟨w.heap.size, 0, none⟩ = some (.int .i64 a) from by rw [cells_all HX.out]; rfl)
  have HX1 := Lib.hid (show (w.alloc (.cells #[.int .i64 a, .int .i64 k, .int .i64 n, .slice x c cap] 25)).cell? ⟨w.heap.size, 1, none⟩ = some (.int .i64 k) from by rw [cells_all HX.out]; rfl)
  have HX2 := Lib.hid (show (w.alloc (.cells #[.int .i64 a, .int .i64 k, .int .i64 n, .slice x c cap] 25)).cell? ⟨w.heap.size, 2, none⟩ = some (.int .i64 n) from by rw [cells_all HX.out]; rfl)
  have HX3 := Lib.hid (show (w.alloc (.cells #[.int .i64 a, .int .i64 k, .int .i64 n, .slice x c cap] 25)).cell? ⟨w.heap.size, 3, none⟩ = some (.slice x c cap) from by rw [cells_all HX.out]; rfl)
  have HAT := Lib.hid h
  have HA := Lib.hid h.1
  have HA2 := Lib.hid h.2
  have HL := Lib.hid hl
  clear h hl
  go_enter Try.func12, Try.ntmps12
  go_wp2
  refine reg_open (none) (n := 7) rfl (by kernel_rfl) ?_
  refine reg_take 0 (some 5) (v := ?_) rfl rfl (by kernel_rfl) (by kernel_rfl) (by kernel_rfl) (fun _ _ _ h => h) (by rfl) ?_ ?_
  rotate_left
  · intro W hW; go_simp; first | done | with_reducible rfl
  try simp only [Act.put, List.setIfInBounds_toArray, List.set_cons_zero, List.set_cons_succ]
  refine reg_take 1 (some 6) (v := ?_) rfl rfl (by kernel_rfl) (by kernel_rfl) (by kernel_rfl) (fun _ _ _ h => h) (by rfl) ?_ ?_
  rotate_left
  · intro W hW; have k1 := (hW).cell (show (w.alloc (.cells #[.int .i64 a, .int .i64 k, .int .i64 n, .slice x c cap] 25)).drew.cell? ⟨w.heap.size, 2, none⟩ = some (.int .i64 n) from HX2.out) (by simp); go_simp; first | done | with_reducible rfl
  try simp only [Act.put, List.setIfInBounds_toArray, List.set_cons_zero, List.set_cons_succ]
  refine reg_take 2 (some 7) (v := ?_) rfl rfl (by kernel_rfl) (by kernel_rfl) (by kernel_rfl) (fun _ _ _ h => h) (by rfl) ?_ ?_
  rotate_left
  · intro W hW; go_simp; first | done | with_reducible rfl
  try simp only [Act.put, List.setIfInBounds_toArray, List.set_cons_zero, List.set_cons_succ]
  refine reg_take 3 (some 8) (v := ?_) rfl rfl (by kernel_rfl) (by kernel_rfl) (by kernel_rfl) (fun _ _ _ h => h) (by rfl) ?_ ?_
  rotate_left
  · intro W hW; have k1 := (hW).cell (show (w.alloc (.cells #[.int .i64 a, .int .i64 k, .int .i64 n, .slice x c cap] 25)).drew.cell? ⟨w.heap.size, 3, none⟩ = some (.slice x c cap) from HX3.out) (by simp); go_simp; first | done | with_reducible rfl
  try simp only [Act.put, List.setIfInBounds_toArray, List.set_cons_zero, List.set_cons_succ]
  refine reg_take 4 (some 9) (v := ?_) rfl rfl (by kernel_rfl) (by kernel_rfl) (by kernel_rfl) (fun _ _ _ h => h) (by rfl) ?_ ?_
  rotate_left
  · intro W hW; go_simp; first | done | with_reducible rfl
  try simp only [Act.put, List.setIfInBounds_toArray, List.set_cons_zero, List.set_cons_succ]
  refine reg_take 5 (some 3) (v := ?_) rfl rfl (by kernel_rfl) (by kernel_rfl) (by kernel_rfl) (fun _ _ _ h => h) (by rfl) ?_ ?_
  rotate_left
  · intro W hW; go_simp; first | done | with_reducible rfl
  try simp only [Act.put, List.setIfInBounds_toArray, List.set_cons_zero, List.set_cons_succ]
  refine reg_take 6 (some 4) (v := ?_) rfl rfl (by kernel_rfl) (by kernel_rfl) (by kernel_rfl) (fun _ _ _ h => h) (by rfl) ?_ ?_
  rotate_left
  · intro W hW; go_simp; first | done | with_reducible rfl
  try simp only [Act.put, List.setIfInBounds_toArray, List.set_cons_zero, List.set_cons_succ]
  refine wpAnyH_done (by kernel_rfl) ?_ _
  have k8 := HX0.out
  have k9 := HX1.out
  clear HX HX0 HX1 HX2 HX3
  go_wp2_with fail
  refine (within_yes _ _ _ HA.out HA2.out _).mono ?_; rintro e w2 ⟨rfl, rfl⟩
  by_cases hn : 0 ≤ n ∧ n ≤ 255
  · have HN := Lib.hid hn
    have HN1 := Lib.hid hn.1
    have HN2 := Lib.hid hn.2
    clear hn
    by_cases hc2 : (c : Int) ≤ 64
    · have HC := Lib.hid hc2
      have hc3 : decide ((c : Int) ≤ 64) = true := decide_eq_true hc2
      clear hc2
      go_wp2_with fail
      refine (within_yes _ _ _ HN1.out HN2.out _).mono ?_; rintro e w2 ⟨rfl, rfl⟩
      go_wp2
      go_ret
      exact ⟨ret_yes (by rw [rt_k HL.out HAT.out]; have := HC.out; have := HN.out; omega), drewr (World.grownBy_alloc w _ none)⟩
    · have HC := Lib.hid hc2
      have hc3 : decide ((c : Int) ≤ 64) = false := decide_eq_false hc2
      clear hc2
      go_wp2_with fail
      refine (within_yes _ _ _ HN1.out HN2.out _).mono ?_; rintro e w2 ⟨rfl, rfl⟩
      go_wp2
      go_ret
      exact ⟨ret_no (by rw [rt_k HL.out HAT.out]; have := HC.out; have := HN.out; omega), drewr (World.grownBy_alloc w _ none)⟩
  · have HN := Lib.hid hn
    clear hn
    go_wp2_with fail
    refine (within_no _ _ _ HN.out _).mono ?_; rintro e w2 ⟨rfl, rfl⟩
    go_wp2
    go_ret
    exact ⟨ret_no (by rw [rt_k HL.out HAT.out]; have := HN.out; omega), drewr (World.grownBy_alloc w _ none)⟩
set_option maxRecDepth 100000 in
theorem rright_3 (a k n : Int) (x : Option Addr) (c cap : Nat) (w : World) (h : 0 ≤ a ∧ a ≤ 4611686018427387904) (hl : lim k = some (0, 0, 0, 256)) (g1 : (k == 1) = false) (g2 : (k == 2) = false) (g3 : (k == 3) = true) : Calls Try.prog 12 #[.agg #[.int .i64 a, .int .i64 k, .int .i64 n, .slice x c cap]] w fun e w' => e = .returned (.bool (decide (Rt a k n c))) ∧ w.grownBy w' none := by
  have HX := Lib.hid (heap_alloc_new w (.cells #[.int .i64 a, .int .i64 k, .int .i64 n, .slice x c cap] 25))
  have HX0 := Lib.hid (show (w.alloc (.cells #[.int .i64 a, .int .i64 k, .int .i64 n, .slice x c cap] 25)).cell? ⟨w.heap.size, 0, none⟩ = some (.int .i64 a) from by rw [cells_all HX.out]; rfl)
  have HX1 := Lib.hid (show (w.alloc (.cells #[.int .i64 a, .int .i64 k, .int .i64 n, .slice x c cap] 25)).cell? ⟨w.heap.size, 1, none⟩ = some (.int .i64 k) from by rw [cells_all HX.out]; rfl)
  have HX2 := Lib.hid (show (w.alloc (.cells #[.int .i64 a, .int .i64 k, .int .i64 n, .slice x c cap] 25)).cell? ⟨w.heap.size, 2, none⟩ = some (.int .i64 n) from by rw [cells_all HX.out]; rfl)
  have HX3 := Lib.hid (show (w.alloc (.cells #[.int .i64 a, .int .i64 k, .int .i64 n, .slice x c cap] 25)).cell? ⟨w.heap.size, 3, none⟩ = some (.slice x c cap) from by rw [cells_all HX.out]; rfl)
  have HAT := Lib.hid h
  have HA := Lib.hid h.1
  have HA2 := Lib.hid h.2
  have HL := Lib.hid hl
  clear h hl
  go_enter Try.func12, Try.ntmps12
  go_wp2
  refine reg_open (none) (n := 7) rfl (by kernel_rfl) ?_
  refine reg_take 0 (some 5) (v := ?_) rfl rfl (by kernel_rfl) (by kernel_rfl) (by kernel_rfl) (fun _ _ _ h => h) (by rfl) ?_ ?_
  rotate_left
  · intro W hW; go_simp; first | done | with_reducible rfl
  try simp only [Act.put, List.setIfInBounds_toArray, List.set_cons_zero, List.set_cons_succ]
  refine reg_take 1 (some 6) (v := ?_) rfl rfl (by kernel_rfl) (by kernel_rfl) (by kernel_rfl) (fun _ _ _ h => h) (by rfl) ?_ ?_
  rotate_left
  · intro W hW; have k1 := (hW).cell (show (w.alloc (.cells #[.int .i64 a, .int .i64 k, .int .i64 n, .slice x c cap] 25)).drew.cell? ⟨w.heap.size, 2, none⟩ = some (.int .i64 n) from HX2.out) (by simp); go_simp; first | done | with_reducible rfl
  try simp only [Act.put, List.setIfInBounds_toArray, List.set_cons_zero, List.set_cons_succ]
  refine reg_take 2 (some 7) (v := ?_) rfl rfl (by kernel_rfl) (by kernel_rfl) (by kernel_rfl) (fun _ _ _ h => h) (by rfl) ?_ ?_
  rotate_left
  · intro W hW; go_simp; first | done | with_reducible rfl
  try simp only [Act.put, List.setIfInBounds_toArray, List.set_cons_zero, List.set_cons_succ]
  refine reg_take 3 (some 8) (v := ?_) rfl rfl (by kernel_rfl) (by kernel_rfl) (by kernel_rfl) (fun _ _ _ h => h) (by rfl) ?_ ?_
  rotate_left
  · intro W hW; have k1 := (hW).cell (show (w.alloc (.cells #[.int .i64 a, .int .i64 k, .int .i64 n, .slice x c cap] 25)).drew.cell? ⟨w.heap.size, 3, none⟩ = some (.slice x c cap) from HX3.out) (by simp); go_simp; first | done | with_reducible rfl
  try simp only [Act.put, List.setIfInBounds_toArray, List.set_cons_zero, List.set_cons_succ]
  refine reg_take 4 (some 9) (v := ?_) rfl rfl (by kernel_rfl) (by kernel_rfl) (by kernel_rfl) (fun _ _ _ h => h) (by rfl) ?_ ?_
  rotate_left
  · intro W hW; go_simp; first | done | with_reducible rfl
  try simp only [Act.put, List.setIfInBounds_toArray, List.set_cons_zero, List.set_cons_succ]
  refine reg_take 5 (some 3) (v := ?_) rfl rfl (by kernel_rfl) (by kernel_rfl) (by kernel_rfl) (fun _ _ _ h => h) (by rfl) ?_ ?_
  rotate_left
  · intro W hW; go_simp; first | done | with_reducible rfl
  try simp only [Act.put, List.setIfInBounds_toArray, List.set_cons_zero, List.set_cons_succ]
  refine reg_take 6 (some 4) (v := ?_) rfl rfl (by kernel_rfl) (by kernel_rfl) (by kernel_rfl) (fun _ _ _ h => h) (by rfl) ?_ ?_
  rotate_left
  · intro W hW; go_simp; first | done | with_reducible rfl
  try simp only [Act.put, List.setIfInBounds_toArray, List.set_cons_zero, List.set_cons_succ]
  refine wpAnyH_done (by kernel_rfl) ?_ _
  have k8 := HX0.out
  have k9 := HX1.out
  clear HX HX0 HX1 HX2 HX3
  go_wp2_with fail
  refine (within_yes _ _ _ HA.out HA2.out _).mono ?_; rintro e w2 ⟨rfl, rfl⟩
  by_cases hn : n = 0
  · have HN := Lib.hid hn
    have hn2 : (n == 0) = true := by simpa using hn
    clear hn
    by_cases hc2 : (c : Int) ≤ 256
    · have HC := Lib.hid hc2
      have hc3 : decide ((c : Int) ≤ 256) = true := decide_eq_true hc2
      clear hc2
      go_wp2
      go_ret
      exact ⟨ret_yes (by rw [rt_k HL.out HAT.out]; have := HC.out; have := HN.out; omega), drewr (World.grownBy_alloc w _ none)⟩
    · have HC := Lib.hid hc2
      have hc3 : decide ((c : Int) ≤ 256) = false := decide_eq_false hc2
      clear hc2
      go_wp2
      go_ret
      exact ⟨ret_no (by rw [rt_k HL.out HAT.out]; have := HC.out; have := HN.out; omega), drewr (World.grownBy_alloc w _ none)⟩
  · have HN := Lib.hid hn
    have hn2 : (n == 0) = false := by simpa using hn
    clear hn
    go_wp2
    go_ret
    exact ⟨ret_no (by rw [rt_k HL.out HAT.out]; have := HN.out; omega), drewr (World.grownBy_alloc w _ none)⟩
set_option maxRecDepth 100000 in
theorem rright_4 (a k n : Int) (x : Option Addr) (c cap : Nat) (w : World) (h : 0 ≤ a ∧ a ≤ 4611686018427387904) (hl : lim k = some (0, 0, 0, 64)) (g1 : (k == 1) = false) (g2 : (k == 2) = false) (g3 : (k == 3) = false) (g4 : (k == 4) = true) : Calls Try.prog 12 #[.agg #[.int .i64 a, .int .i64 k, .int .i64 n, .slice x c cap]] w fun e w' => e = .returned (.bool (decide (Rt a k n c))) ∧ w.grownBy w' none := by
  have HX := Lib.hid (heap_alloc_new w (.cells #[.int .i64 a, .int .i64 k, .int .i64 n, .slice x c cap] 25))
  have HX0 := Lib.hid (show (w.alloc (.cells #[.int .i64 a, .int .i64 k, .int .i64 n, .slice x c cap] 25)).cell? ⟨w.heap.size, 0, none⟩ = some (.int .i64 a) from by rw [cells_all HX.out]; rfl)
  have HX1 := Lib.hid (show (w.alloc (.cells #[.int .i64 a, .int .i64 k, .int .i64 n, .slice x c cap] 25)).cell? ⟨w.heap.size, 1, none⟩ = some (.int .i64 k) from by rw [cells_all HX.out]; rfl)
  have HX2 := Lib.hid (show (w.alloc (.cells #[.int .i64 a, .int .i64 k, .int .i64 n, .slice x c cap] 25)).cell? ⟨w.heap.size, 2, none⟩ = some (.int .i64 n) from by rw [cells_all HX.out]; rfl)
  have HX3 := Lib.hid (show (w.alloc (.cells #[.int .i64 a, .int .i64 k, .int .i64 n, .slice x c cap] 25)).cell? ⟨w.heap.size, 3, none⟩ = some (.slice x c cap) from by rw [cells_all HX.out]; rfl)
  have HAT := Lib.hid h
  have HA := Lib.hid h.1
  have HA2 := Lib.hid h.2
  have HL := Lib.hid hl
  clear h hl
  go_enter Try.func12, Try.ntmps12
  go_wp2
  refine reg_open (none) (n := 7) rfl (by kernel_rfl) ?_
  refine reg_take 0 (some 5) (v := ?_) rfl rfl (by kernel_rfl) (by kernel_rfl) (by kernel_rfl) (fun _ _ _ h => h) (by rfl) ?_ ?_
  rotate_left
  · intro W hW; go_simp; first | done | with_reducible rfl
  try simp only [Act.put, List.setIfInBounds_toArray, List.set_cons_zero, List.set_cons_succ]
  refine reg_take 1 (some 6) (v := ?_) rfl rfl (by kernel_rfl) (by kernel_rfl) (by kernel_rfl) (fun _ _ _ h => h) (by rfl) ?_ ?_
  rotate_left
  · intro W hW; have k1 := (hW).cell (show (w.alloc (.cells #[.int .i64 a, .int .i64 k, .int .i64 n, .slice x c cap] 25)).drew.cell? ⟨w.heap.size, 2, none⟩ = some (.int .i64 n) from HX2.out) (by simp); go_simp; first | done | with_reducible rfl
  try simp only [Act.put, List.setIfInBounds_toArray, List.set_cons_zero, List.set_cons_succ]
  refine reg_take 2 (some 7) (v := ?_) rfl rfl (by kernel_rfl) (by kernel_rfl) (by kernel_rfl) (fun _ _ _ h => h) (by rfl) ?_ ?_
  rotate_left
  · intro W hW; go_simp; first | done | with_reducible rfl
  try simp only [Act.put, List.setIfInBounds_toArray, List.set_cons_zero, List.set_cons_succ]
  refine reg_take 3 (some 8) (v := ?_) rfl rfl (by kernel_rfl) (by kernel_rfl) (by kernel_rfl) (fun _ _ _ h => h) (by rfl) ?_ ?_
  rotate_left
  · intro W hW; have k1 := (hW).cell (show (w.alloc (.cells #[.int .i64 a, .int .i64 k, .int .i64 n, .slice x c cap] 25)).drew.cell? ⟨w.heap.size, 3, none⟩ = some (.slice x c cap) from HX3.out) (by simp); go_simp; first | done | with_reducible rfl
  try simp only [Act.put, List.setIfInBounds_toArray, List.set_cons_zero, List.set_cons_succ]
  refine reg_take 4 (some 9) (v := ?_) rfl rfl (by kernel_rfl) (by kernel_rfl) (by kernel_rfl) (fun _ _ _ h => h) (by rfl) ?_ ?_
  rotate_left
  · intro W hW; go_simp; first | done | with_reducible rfl
  try simp only [Act.put, List.setIfInBounds_toArray, List.set_cons_zero, List.set_cons_succ]
  refine reg_take 5 (some 3) (v := ?_) rfl rfl (by kernel_rfl) (by kernel_rfl) (by kernel_rfl) (fun _ _ _ h => h) (by rfl) ?_ ?_
  rotate_left
  · intro W hW; go_simp; first | done | with_reducible rfl
  try simp only [Act.put, List.setIfInBounds_toArray, List.set_cons_zero, List.set_cons_succ]
  refine reg_take 6 (some 4) (v := ?_) rfl rfl (by kernel_rfl) (by kernel_rfl) (by kernel_rfl) (fun _ _ _ h => h) (by rfl) ?_ ?_
  rotate_left
  · intro W hW; go_simp; first | done | with_reducible rfl
  try simp only [Act.put, List.setIfInBounds_toArray, List.set_cons_zero, List.set_cons_succ]
  refine wpAnyH_done (by kernel_rfl) ?_ _
  have k8 := HX0.out
  have k9 := HX1.out
  clear HX HX0 HX1 HX2 HX3
  go_wp2_with fail
  refine (within_yes _ _ _ HA.out HA2.out _).mono ?_; rintro e w2 ⟨rfl, rfl⟩
  by_cases hn : n = 0
  · have HN := Lib.hid hn
    have hn2 : (n == 0) = true := by simpa using hn
    clear hn
    by_cases hc2 : (c : Int) ≤ 64
    · have HC := Lib.hid hc2
      have hc3 : decide ((c : Int) ≤ 64) = true := decide_eq_true hc2
      clear hc2
      go_wp2
      go_ret
      exact ⟨ret_yes (by rw [rt_k HL.out HAT.out]; have := HC.out; have := HN.out; omega), drewr (World.grownBy_alloc w _ none)⟩
    · have HC := Lib.hid hc2
      have hc3 : decide ((c : Int) ≤ 64) = false := decide_eq_false hc2
      clear hc2
      go_wp2
      go_ret
      exact ⟨ret_no (by rw [rt_k HL.out HAT.out]; have := HC.out; have := HN.out; omega), drewr (World.grownBy_alloc w _ none)⟩
  · have HN := Lib.hid hn
    have hn2 : (n == 0) = false := by simpa using hn
    clear hn
    go_wp2
    go_ret
    exact ⟨ret_no (by rw [rt_k HL.out HAT.out]; have := HN.out; omega), drewr (World.grownBy_alloc w _ none)⟩
set_option maxRecDepth 100000 in
theorem rright_5 (a k n : Int) (x : Option Addr) (c cap : Nat) (w : World) (h : 0 ≤ a ∧ a ≤ 4611686018427387904) (hl : lim k = some (1, 4, 2, 2)) (g1 : (k == 1) = false) (g2 : (k == 2) = false) (g3 : (k == 3) = false) (g4 : (k == 4) = false) (g5 : (k == 5) = true) : Calls Try.prog 12 #[.agg #[.int .i64 a, .int .i64 k, .int .i64 n, .slice x c cap]] w fun e w' => e = .returned (.bool (decide (Rt a k n c))) ∧ w.grownBy w' none := by
  have HX := Lib.hid (heap_alloc_new w (.cells #[.int .i64 a, .int .i64 k, .int .i64 n, .slice x c cap] 25))
  have HX0 := Lib.hid (show (w.alloc (.cells #[.int .i64 a, .int .i64 k, .int .i64 n, .slice x c cap] 25)).cell? ⟨w.heap.size, 0, none⟩ = some (.int .i64 a) from by rw [cells_all HX.out]; rfl)
  have HX1 := Lib.hid (show (w.alloc (.cells #[.int .i64 a, .int .i64 k, .int .i64 n, .slice x c cap] 25)).cell? ⟨w.heap.size, 1, none⟩ = some (.int .i64 k) from by rw [cells_all HX.out]; rfl)
  have HX2 := Lib.hid (show (w.alloc (.cells #[.int .i64 a, .int .i64 k, .int .i64 n, .slice x c cap] 25)).cell? ⟨w.heap.size, 2, none⟩ = some (.int .i64 n) from by rw [cells_all HX.out]; rfl)
  have HX3 := Lib.hid (show (w.alloc (.cells #[.int .i64 a, .int .i64 k, .int .i64 n, .slice x c cap] 25)).cell? ⟨w.heap.size, 3, none⟩ = some (.slice x c cap) from by rw [cells_all HX.out]; rfl)
  have HAT := Lib.hid h
  have HA := Lib.hid h.1
  have HA2 := Lib.hid h.2
  have HL := Lib.hid hl
  clear h hl
  go_enter Try.func12, Try.ntmps12
  go_wp2
  refine reg_open (none) (n := 7) rfl (by kernel_rfl) ?_
  refine reg_take 0 (some 5) (v := ?_) rfl rfl (by kernel_rfl) (by kernel_rfl) (by kernel_rfl) (fun _ _ _ h => h) (by rfl) ?_ ?_
  rotate_left
  · intro W hW; go_simp; first | done | with_reducible rfl
  try simp only [Act.put, List.setIfInBounds_toArray, List.set_cons_zero, List.set_cons_succ]
  refine reg_take 1 (some 6) (v := ?_) rfl rfl (by kernel_rfl) (by kernel_rfl) (by kernel_rfl) (fun _ _ _ h => h) (by rfl) ?_ ?_
  rotate_left
  · intro W hW; have k1 := (hW).cell (show (w.alloc (.cells #[.int .i64 a, .int .i64 k, .int .i64 n, .slice x c cap] 25)).drew.cell? ⟨w.heap.size, 2, none⟩ = some (.int .i64 n) from HX2.out) (by simp); go_simp; first | done | with_reducible rfl
  try simp only [Act.put, List.setIfInBounds_toArray, List.set_cons_zero, List.set_cons_succ]
  refine reg_take 2 (some 7) (v := ?_) rfl rfl (by kernel_rfl) (by kernel_rfl) (by kernel_rfl) (fun _ _ _ h => h) (by rfl) ?_ ?_
  rotate_left
  · intro W hW; go_simp; first | done | with_reducible rfl
  try simp only [Act.put, List.setIfInBounds_toArray, List.set_cons_zero, List.set_cons_succ]
  refine reg_take 3 (some 8) (v := ?_) rfl rfl (by kernel_rfl) (by kernel_rfl) (by kernel_rfl) (fun _ _ _ h => h) (by rfl) ?_ ?_
  rotate_left
  · intro W hW; have k1 := (hW).cell (show (w.alloc (.cells #[.int .i64 a, .int .i64 k, .int .i64 n, .slice x c cap] 25)).drew.cell? ⟨w.heap.size, 3, none⟩ = some (.slice x c cap) from HX3.out) (by simp); go_simp; first | done | with_reducible rfl
  try simp only [Act.put, List.setIfInBounds_toArray, List.set_cons_zero, List.set_cons_succ]
  refine reg_take 4 (some 9) (v := ?_) rfl rfl (by kernel_rfl) (by kernel_rfl) (by kernel_rfl) (fun _ _ _ h => h) (by rfl) ?_ ?_
  rotate_left
  · intro W hW; go_simp; first | done | with_reducible rfl
  try simp only [Act.put, List.setIfInBounds_toArray, List.set_cons_zero, List.set_cons_succ]
  refine reg_take 5 (some 3) (v := ?_) rfl rfl (by kernel_rfl) (by kernel_rfl) (by kernel_rfl) (fun _ _ _ h => h) (by rfl) ?_ ?_
  rotate_left
  · intro W hW; go_simp; first | done | with_reducible rfl
  try simp only [Act.put, List.setIfInBounds_toArray, List.set_cons_zero, List.set_cons_succ]
  refine reg_take 6 (some 4) (v := ?_) rfl rfl (by kernel_rfl) (by kernel_rfl) (by kernel_rfl) (fun _ _ _ h => h) (by rfl) ?_ ?_
  rotate_left
  · intro W hW; go_simp; first | done | with_reducible rfl
  try simp only [Act.put, List.setIfInBounds_toArray, List.set_cons_zero, List.set_cons_succ]
  refine wpAnyH_done (by kernel_rfl) ?_ _
  have k8 := HX0.out
  have k9 := HX1.out
  clear HX HX0 HX1 HX2 HX3
  go_wp2_with fail
  refine (within_yes _ _ _ HA.out HA2.out _).mono ?_; rintro e w2 ⟨rfl, rfl⟩
  by_cases hn : 1 ≤ n ∧ n ≤ 4
  · have HN := Lib.hid hn
    have HN1 := Lib.hid hn.1
    have HN2 := Lib.hid hn.2
    clear hn
    by_cases hc1 : (c : Int) = 2
    · have HC := Lib.hid hc1
      have hc2 : ((c : Int) == 2) = true := by simpa using hc1
      clear hc1
      go_wp2_with fail
      refine (within_yes _ _ _ HN1.out HN2.out _).mono ?_; rintro e w2 ⟨rfl, rfl⟩
      go_wp2
      go_ret
      exact ⟨ret_yes (by rw [rt_k HL.out HAT.out]; have := HC.out; have := HN.out; omega), drewr (World.grownBy_alloc w _ none)⟩
    · have HC := Lib.hid hc1
      have hc2 : ((c : Int) == 2) = false := by simpa using hc1
      clear hc1
      go_wp2_with fail
      refine (within_yes _ _ _ HN1.out HN2.out _).mono ?_; rintro e w2 ⟨rfl, rfl⟩
      go_wp2
      go_ret
      exact ⟨ret_no (by rw [rt_k HL.out HAT.out]; have := HC.out; have := HN.out; omega), drewr (World.grownBy_alloc w _ none)⟩
  · have HN := Lib.hid hn
    clear hn
    go_wp2_with fail
    refine (within_no _ _ _ HN.out _).mono ?_; rintro e w2 ⟨rfl, rfl⟩
    go_wp2
    go_ret
    exact ⟨ret_no (by rw [rt_k HL.out HAT.out]; have := HN.out; omega), drewr (World.grownBy_alloc w _ none)⟩
set_option maxRecDepth 100000 in
theorem rright_6 (a k n : Int) (x : Option Addr) (c cap : Nat) (w : World) (h : 0 ≤ a ∧ a ≤ 4611686018427387904) (hl : lim k = some (1, 4, 2, 2)) (g1 : (k == 1) = false) (g2 : (k == 2) = false) (g3 : (k == 3) = false) (g4 : (k == 4) = false) (g5 : (k == 5) = false) (g6 : (k == 6) = true) : Calls Try.prog 12 #[.agg #[.int .i64 a, .int .i64 k, .int .i64 n, .slice x c cap]] w fun e w' => e = .returned (.bool (decide (Rt a k n c))) ∧ w.grownBy w' none := by
  have HX := Lib.hid (heap_alloc_new w (.cells #[.int .i64 a, .int .i64 k, .int .i64 n, .slice x c cap] 25))
  have HX0 := Lib.hid (show (w.alloc (.cells #[.int .i64 a, .int .i64 k, .int .i64 n, .slice x c cap] 25)).cell? ⟨w.heap.size, 0, none⟩ = some (.int .i64 a) from by rw [cells_all HX.out]; rfl)
  have HX1 := Lib.hid (show (w.alloc (.cells #[.int .i64 a, .int .i64 k, .int .i64 n, .slice x c cap] 25)).cell? ⟨w.heap.size, 1, none⟩ = some (.int .i64 k) from by rw [cells_all HX.out]; rfl)
  have HX2 := Lib.hid (show (w.alloc (.cells #[.int .i64 a, .int .i64 k, .int .i64 n, .slice x c cap] 25)).cell? ⟨w.heap.size, 2, none⟩ = some (.int .i64 n) from by rw [cells_all HX.out]; rfl)
  have HX3 := Lib.hid (show (w.alloc (.cells #[.int .i64 a, .int .i64 k, .int .i64 n, .slice x c cap] 25)).cell? ⟨w.heap.size, 3, none⟩ = some (.slice x c cap) from by rw [cells_all HX.out]; rfl)
  have HAT := Lib.hid h
  have HA := Lib.hid h.1
  have HA2 := Lib.hid h.2
  have HL := Lib.hid hl
  clear h hl
  go_enter Try.func12, Try.ntmps12
  go_wp2
  refine reg_open (none) (n := 7) rfl (by kernel_rfl) ?_
  refine reg_take 0 (some 5) (v := ?_) rfl rfl (by kernel_rfl) (by kernel_rfl) (by kernel_rfl) (fun _ _ _ h => h) (by rfl) ?_ ?_
  rotate_left
  · intro W hW; go_simp; first | done | with_reducible rfl
  try simp only [Act.put, List.setIfInBounds_toArray, List.set_cons_zero, List.set_cons_succ]
  refine reg_take 1 (some 6) (v := ?_) rfl rfl (by kernel_rfl) (by kernel_rfl) (by kernel_rfl) (fun _ _ _ h => h) (by rfl) ?_ ?_
  rotate_left
  · intro W hW; have k1 := (hW).cell (show (w.alloc (.cells #[.int .i64 a, .int .i64 k, .int .i64 n, .slice x c cap] 25)).drew.cell? ⟨w.heap.size, 2, none⟩ = some (.int .i64 n) from HX2.out) (by simp); go_simp; first | done | with_reducible rfl
  try simp only [Act.put, List.setIfInBounds_toArray, List.set_cons_zero, List.set_cons_succ]
  refine reg_take 2 (some 7) (v := ?_) rfl rfl (by kernel_rfl) (by kernel_rfl) (by kernel_rfl) (fun _ _ _ h => h) (by rfl) ?_ ?_
  rotate_left
  · intro W hW; go_simp; first | done | with_reducible rfl
  try simp only [Act.put, List.setIfInBounds_toArray, List.set_cons_zero, List.set_cons_succ]
  refine reg_take 3 (some 8) (v := ?_) rfl rfl (by kernel_rfl) (by kernel_rfl) (by kernel_rfl) (fun _ _ _ h => h) (by rfl) ?_ ?_
  rotate_left
  · intro W hW; have k1 := (hW).cell (show (w.alloc (.cells #[.int .i64 a, .int .i64 k, .int .i64 n, .slice x c cap] 25)).drew.cell? ⟨w.heap.size, 3, none⟩ = some (.slice x c cap) from HX3.out) (by simp); go_simp; first | done | with_reducible rfl
  try simp only [Act.put, List.setIfInBounds_toArray, List.set_cons_zero, List.set_cons_succ]
  refine reg_take 4 (some 9) (v := ?_) rfl rfl (by kernel_rfl) (by kernel_rfl) (by kernel_rfl) (fun _ _ _ h => h) (by rfl) ?_ ?_
  rotate_left
  · intro W hW; go_simp; first | done | with_reducible rfl
  try simp only [Act.put, List.setIfInBounds_toArray, List.set_cons_zero, List.set_cons_succ]
  refine reg_take 5 (some 3) (v := ?_) rfl rfl (by kernel_rfl) (by kernel_rfl) (by kernel_rfl) (fun _ _ _ h => h) (by rfl) ?_ ?_
  rotate_left
  · intro W hW; go_simp; first | done | with_reducible rfl
  try simp only [Act.put, List.setIfInBounds_toArray, List.set_cons_zero, List.set_cons_succ]
  refine reg_take 6 (some 4) (v := ?_) rfl rfl (by kernel_rfl) (by kernel_rfl) (by kernel_rfl) (fun _ _ _ h => h) (by rfl) ?_ ?_
  rotate_left
  · intro W hW; go_simp; first | done | with_reducible rfl
  try simp only [Act.put, List.setIfInBounds_toArray, List.set_cons_zero, List.set_cons_succ]
  refine wpAnyH_done (by kernel_rfl) ?_ _
  have k8 := HX0.out
  have k9 := HX1.out
  clear HX HX0 HX1 HX2 HX3
  go_wp2_with fail
  refine (within_yes _ _ _ HA.out HA2.out _).mono ?_; rintro e w2 ⟨rfl, rfl⟩
  by_cases hn : 1 ≤ n ∧ n ≤ 4
  · have HN := Lib.hid hn
    have HN1 := Lib.hid hn.1
    have HN2 := Lib.hid hn.2
    clear hn
    by_cases hc1 : (c : Int) = 2
    · have HC := Lib.hid hc1
      have hc2 : ((c : Int) == 2) = true := by simpa using hc1
      clear hc1
      go_wp2_with fail
      refine (within_yes _ _ _ HN1.out HN2.out _).mono ?_; rintro e w2 ⟨rfl, rfl⟩
      go_wp2
      go_ret
      exact ⟨ret_yes (by rw [rt_k HL.out HAT.out]; have := HC.out; have := HN.out; omega), drewr (World.grownBy_alloc w _ none)⟩
    · have HC := Lib.hid hc1
      have hc2 : ((c : Int) == 2) = false := by simpa using hc1
      clear hc1
      go_wp2_with fail
      refine (within_yes _ _ _ HN1.out HN2.out _).mono ?_; rintro e w2 ⟨rfl, rfl⟩
      go_wp2
      go_ret
      exact ⟨ret_no (by rw [rt_k HL.out HAT.out]; have := HC.out; have := HN.out; omega), drewr (World.grownBy_alloc w _ none)⟩
  · have HN := Lib.hid hn
    clear hn
    go_wp2_with fail
    refine (within_no _ _ _ HN.out _).mono ?_; rintro e w2 ⟨rfl, rfl⟩
    go_wp2
    go_ret
    exact ⟨ret_no (by rw [rt_k HL.out HAT.out]; have := HN.out; omega), drewr (World.grownBy_alloc w _ none)⟩
set_option maxRecDepth 100000 in
theorem rright_7 (a k n : Int) (x : Option Addr) (c cap : Nat) (w : World) (h : 0 ≤ a ∧ a ≤ 4611686018427387904) (hl : lim k = some (0, 0, 2, 2)) (g1 : (k == 1) = false) (g2 : (k == 2) = false) (g3 : (k == 3) = false) (g4 : (k == 4) = false) (g5 : (k == 5) = false) (g6 : (k == 6) = false) (g7 : (k == 7) = true) : Calls Try.prog 12 #[.agg #[.int .i64 a, .int .i64 k, .int .i64 n, .slice x c cap]] w fun e w' => e = .returned (.bool (decide (Rt a k n c))) ∧ w.grownBy w' none := by
  have HX := Lib.hid (heap_alloc_new w (.cells #[.int .i64 a, .int .i64 k, .int .i64 n, .slice x c cap] 25))
  have HX0 := Lib.hid (show (w.alloc (.cells #[.int .i64 a, .int .i64 k, .int .i64 n, .slice x c cap] 25)).cell? ⟨w.heap.size, 0, none⟩ = some (.int .i64 a) from by rw [cells_all HX.out]; rfl)
  have HX1 := Lib.hid (show (w.alloc (.cells #[.int .i64 a, .int .i64 k, .int .i64 n, .slice x c cap] 25)).cell? ⟨w.heap.size, 1, none⟩ = some (.int .i64 k) from by rw [cells_all HX.out]; rfl)
  have HX2 := Lib.hid (show (w.alloc (.cells #[.int .i64 a, .int .i64 k, .int .i64 n, .slice x c cap] 25)).cell? ⟨w.heap.size, 2, none⟩ = some (.int .i64 n) from by rw [cells_all HX.out]; rfl)
  have HX3 := Lib.hid (show (w.alloc (.cells #[.int .i64 a, .int .i64 k, .int .i64 n, .slice x c cap] 25)).cell? ⟨w.heap.size, 3, none⟩ = some (.slice x c cap) from by rw [cells_all HX.out]; rfl)
  have HAT := Lib.hid h
  have HA := Lib.hid h.1
  have HA2 := Lib.hid h.2
  have HL := Lib.hid hl
  clear h hl
  go_enter Try.func12, Try.ntmps12
  go_wp2
  refine reg_open (none) (n := 7) rfl (by kernel_rfl) ?_
  refine reg_take 0 (some 5) (v := ?_) rfl rfl (by kernel_rfl) (by kernel_rfl) (by kernel_rfl) (fun _ _ _ h => h) (by rfl) ?_ ?_
  rotate_left
  · intro W hW; go_simp; first | done | with_reducible rfl
  try simp only [Act.put, List.setIfInBounds_toArray, List.set_cons_zero, List.set_cons_succ]
  refine reg_take 1 (some 6) (v := ?_) rfl rfl (by kernel_rfl) (by kernel_rfl) (by kernel_rfl) (fun _ _ _ h => h) (by rfl) ?_ ?_
  rotate_left
  · intro W hW; have k1 := (hW).cell (show (w.alloc (.cells #[.int .i64 a, .int .i64 k, .int .i64 n, .slice x c cap] 25)).drew.cell? ⟨w.heap.size, 2, none⟩ = some (.int .i64 n) from HX2.out) (by simp); go_simp; first | done | with_reducible rfl
  try simp only [Act.put, List.setIfInBounds_toArray, List.set_cons_zero, List.set_cons_succ]
  refine reg_take 2 (some 7) (v := ?_) rfl rfl (by kernel_rfl) (by kernel_rfl) (by kernel_rfl) (fun _ _ _ h => h) (by rfl) ?_ ?_
  rotate_left
  · intro W hW; go_simp; first | done | with_reducible rfl
  try simp only [Act.put, List.setIfInBounds_toArray, List.set_cons_zero, List.set_cons_succ]
  refine reg_take 3 (some 8) (v := ?_) rfl rfl (by kernel_rfl) (by kernel_rfl) (by kernel_rfl) (fun _ _ _ h => h) (by rfl) ?_ ?_
  rotate_left
  · intro W hW; have k1 := (hW).cell (show (w.alloc (.cells #[.int .i64 a, .int .i64 k, .int .i64 n, .slice x c cap] 25)).drew.cell? ⟨w.heap.size, 3, none⟩ = some (.slice x c cap) from HX3.out) (by simp); go_simp; first | done | with_reducible rfl
  try simp only [Act.put, List.setIfInBounds_toArray, List.set_cons_zero, List.set_cons_succ]
  refine reg_take 4 (some 9) (v := ?_) rfl rfl (by kernel_rfl) (by kernel_rfl) (by kernel_rfl) (fun _ _ _ h => h) (by rfl) ?_ ?_
  rotate_left
  · intro W hW; go_simp; first | done | with_reducible rfl
  try simp only [Act.put, List.setIfInBounds_toArray, List.set_cons_zero, List.set_cons_succ]
  refine reg_take 5 (some 3) (v := ?_) rfl rfl (by kernel_rfl) (by kernel_rfl) (by kernel_rfl) (fun _ _ _ h => h) (by rfl) ?_ ?_
  rotate_left
  · intro W hW; go_simp; first | done | with_reducible rfl
  try simp only [Act.put, List.setIfInBounds_toArray, List.set_cons_zero, List.set_cons_succ]
  refine reg_take 6 (some 4) (v := ?_) rfl rfl (by kernel_rfl) (by kernel_rfl) (by kernel_rfl) (fun _ _ _ h => h) (by rfl) ?_ ?_
  rotate_left
  · intro W hW; go_simp; first | done | with_reducible rfl
  try simp only [Act.put, List.setIfInBounds_toArray, List.set_cons_zero, List.set_cons_succ]
  refine wpAnyH_done (by kernel_rfl) ?_ _
  have k8 := HX0.out
  have k9 := HX1.out
  clear HX HX0 HX1 HX2 HX3
  go_wp2_with fail
  refine (within_yes _ _ _ HA.out HA2.out _).mono ?_; rintro e w2 ⟨rfl, rfl⟩
  by_cases hn : n = 0
  · have HN := Lib.hid hn
    have hn2 : (n == 0) = true := by simpa using hn
    clear hn
    by_cases hc1 : (c : Int) = 2
    · have HC := Lib.hid hc1
      have hc2 : ((c : Int) == 2) = true := by simpa using hc1
      clear hc1
      go_wp2
      go_ret
      exact ⟨ret_yes (by rw [rt_k HL.out HAT.out]; have := HC.out; have := HN.out; omega), drewr (World.grownBy_alloc w _ none)⟩
    · have HC := Lib.hid hc1
      have hc2 : ((c : Int) == 2) = false := by simpa using hc1
      clear hc1
      go_wp2
      go_ret
      exact ⟨ret_no (by rw [rt_k HL.out HAT.out]; have := HC.out; have := HN.out; omega), drewr (World.grownBy_alloc w _ none)⟩
  · have HN := Lib.hid hn
    have hn2 : (n == 0) = false := by simpa using hn
    clear hn
    go_wp2
    go_ret
    exact ⟨ret_no (by rw [rt_k HL.out HAT.out]; have := HN.out; omega), drewr (World.grownBy_alloc w _ none)⟩
theorem rright_any (a k n : Int) (x : Option Addr) (c cap : Nat) (w : World) : Calls Try.prog 12 #[.agg #[.int .i64 a, .int .i64 k, .int .i64 n, .slice x c cap]] w fun e w' => e = .returned (.bool (decide (Rt a k n c))) ∧ w.grownBy w' none := by
  by_cases h : 0 ≤ a ∧ a ≤ 4611686018427387904
  · by_cases h1 : k = 1
    · exact rright_1 a k n x c cap w h (by rw [h1]; rfl)  (by simpa using h1)
    by_cases h2 : k = 2
    · exact rright_2 a k n x c cap w h (by rw [h2]; rfl) (by simpa using h1) (by simpa using h2)
    by_cases h3 : k = 3
    · exact rright_3 a k n x c cap w h (by rw [h3]; rfl) (by simpa using h1) (by simpa using h2) (by simpa using h3)
    by_cases h4 : k = 4
    · exact rright_4 a k n x c cap w h (by rw [h4]; rfl) (by simpa using h1) (by simpa using h2) (by simpa using h3) (by simpa using h4)
    by_cases h5 : k = 5
    · exact rright_5 a k n x c cap w h (by rw [h5]; rfl) (by simpa using h1) (by simpa using h2) (by simpa using h3) (by simpa using h4) (by simpa using h5)
    by_cases h6 : k = 6
    · exact rright_6 a k n x c cap w h (by rw [h6]; rfl) (by simpa using h1) (by simpa using h2) (by simpa using h3) (by simpa using h4) (by simpa using h5) (by simpa using h6)
    by_cases h7 : k = 7
    · exact rright_7 a k n x c cap w h (by rw [h7]; rfl) (by simpa using h1) (by simpa using h2) (by simpa using h3) (by simpa using h4) (by simpa using h5) (by simpa using h6) (by simpa using h7)
    exact rright_none a k n x c cap w h (by unfold lim; simp [h1, h2, h3, h4, h5, h6, h7]) (by simpa using h1) (by simpa using h2) (by simpa using h3) (by simpa using h4) (by simpa using h5) (by simpa using h6) (by simpa using h7)
  · exact rright_at a k n x c cap w h
end Go.Proofs.Ytpoifobhbmhelaa
