/- LogRecords: the walk, whole. -/
import Derived.Test.YtpoifobhbmhelaaAQ
set_option linter.unusedVariables false
set_option linter.unusedSimpArgs false
namespace Go.Proofs.Ytpoifobhbmhelaa
open Go.RowKit
set_option maxRecDepth 100000 in
set_option maxHeartbeats 4000000 in
theorem recs_yes (a k n : Int) (x : Option Addr) (L c : Nat) (b : List UInt8) (w : World) (hL : L = b.length) (hs : Go.Proofs.Ytpoifobhbmhelaa.Src w x b) (hle : b.length ≤ c) (h5 : ¬ 5000 < L) (hok : Rt a k n L) : Calls Try.prog 3 #[rV a k n x L c] w fun e w' => e = .returned (.bool true) ∧ w.grownBy w' none := by
  have hRL := recs_rl (a := a) (k := k) (n := n) (.cells #[.int .i64 a, .int .i64 k, .int .i64 n, .slice x L c] 25) (.cells #[.int .i64 1, .int .i64 1, .int .i64 1, .slice (some ⟨w.heap.size + 1, 0, none⟩) 1 1, .bool false, .int .i64 0] 31) hL hs hle
  have hOk : (⟨1, 1, 1, rsOf [⟨a, k, n, b, x, c⟩], false, 0⟩ : Lg).Ok := (one_ok a k n b).2 (by rw [← hL]; exact hok)
  have hC := encode_yes 1 1 1 (some ⟨w.heap.size + 1, 0, none⟩) 1 [⟨a, k, n, b, x, c⟩] false 0 (((w.alloc (.cells #[.int .i64 a, .int .i64 k, .int .i64 n, .slice x L c] 25)).alloc (.cells #[.int .i64 a, .int .i64 k, .int .i64 n, .slice x L c] 25)).alloc (.cells #[.int .i64 1, .int .i64 1, .int .i64 1, .slice (some ⟨w.heap.size + 1, 0, none⟩) 1 1, .bool false, .int .i64 0] 31)) hRL (by show 1 ≤ 400; decide) hOk
  have HL := Lib.hid (show bdS [⟨a, k, n, b, x, c⟩] ≤ 90000 from by simp [bdS]; omega)
  have HOk := Lib.hid hOk
  have HC := Lib.hid hC
  have HRL := Lib.hid hRL
  have HG0 := Lib.hid (recs_g w (.cells #[.int .i64 a, .int .i64 k, .int .i64 n, .slice x L c] 25) (.cells #[.int .i64 a, .int .i64 k, .int .i64 n, .slice x L c] 25) (.cells #[.int .i64 1, .int .i64 1, .int .i64 1, .slice (some ⟨w.heap.size + 1, 0, none⟩) 1 1, .bool false, .int .i64 0] 31))
  have HB0 := Lib.hid (recs_b w (o := (.cells #[.int .i64 a, .int .i64 k, .int .i64 n, .slice x L c] 25)) (.cells #[.int .i64 a, .int .i64 k, .int .i64 n, .slice x L c] 25) (.cells #[.int .i64 1, .int .i64 1, .int .i64 1, .slice (some ⟨w.heap.size + 1, 0, none⟩) 1 1, .bool false, .int .i64 0] 31) rfl)
  have HX0 := Lib.hid (two_new3 w (.cells #[.int .i64 a, .int .i64 k, .int .i64 n, .slice x L c] 25) (.cells #[.int .i64 a, .int .i64 k, .int .i64 n, .slice x L c] 25) (.cells #[.int .i64 1, .int .i64 1, .int .i64 1, .slice (some ⟨w.heap.size + 1, 0, none⟩) 1 1, .bool false, .int .i64 0] 31)).2.2
  have HOK := Lib.hid hok
  clear hC hL hs hle hok hOk hRL
  go_enter Try.func3, Try.ntmps3
  go_wp2_with fail
  refine HC.out.mono ?_; rintro e1 w1 ⟨v, rfl, hv, hg1⟩
  obtain ⟨R, hR⟩ : ∃ R, R = encL (⟨1, 1, 1, rsOf [⟨a, k, n, b, x, c⟩], false, 0⟩ : Lg) := ⟨_, rfl⟩
  rw [← hR] at hv
  have HR := Lib.hid hR
  obtain ⟨N, hN⟩ : ∃ N, N = R.length := ⟨_, rfl⟩
  have HN := Lib.hid hN
  obtain ⟨b1, c1, rfl, hbc⟩ := hv.shape
  rw [← hN] at hbc ⊢
  have HS1 := Lib.hid (Gs.toSrc hv.1 : Go.Proofs.Ytpoifobhbmhelaa.Src w1 b1 R)
  have HG1 := Lib.hid (HG0.out.trans hg1)
  have HX1 := Lib.hid (keep_blk hg1 HX0.out)
  have HRL1 := Lib.hid (HRL.out.kept hg1)
  have hb := keep_blk hg1 HB0.out
  have k0 := cells_all hb 0
  have k1 := cells_all hb 1
  have k2 := cells_all hb 2
  have k3 := cells_all hb 3
  simp only [List.getElem?_toArray, List.getElem?_cons_zero, List.getElem?_cons_succ] at k0 k1 k2 k3
  clear hg1 hb HB0 HC hv hbc hR hN
  go_wp2_with fail
  refine (rright_yes HOK.out x c _).mono ?_; rintro e2 w2 ⟨rfl, hg2⟩
  have HG2 := Lib.hid (HG1.out.trans hg2)
  have HS2 := Lib.hid (HS1.out.keptNone hg2)
  have HX2 := Lib.hid (keep_blk hg2 HX1.out)
  have HRL2 := Lib.hid (HRL1.out.kept hg2)
  clear hg2 k0 k1 k2 k3
  go_wp2
  refine reg_open (none) (n := 15) rfl (by kernel_rfl) ?_
  refine reg_take 0 (some 34) (v := ?_) rfl rfl (by kernel_rfl) (by kernel_rfl) (by kernel_rfl) (fun _ _ _ h => h) (by rfl) ?_ ?_
  rotate_left
  · intro W hW; go_simp; first | done | with_reducible rfl
  try simp only [Act.put, List.setIfInBounds_toArray, List.set_cons_zero, List.set_cons_succ]
  refine reg_take 1 (some 35) (v := ?_) rfl rfl (by kernel_rfl) (by kernel_rfl) (by kernel_rfl) (fun _ _ _ h => h) (by rfl) ?_ ?_
  rotate_left
  · intro W hW; have kq := conv_srcn (c := c1) HN.out (HS2.out.keptNone (drewl hW)); go_simp; first | done | with_reducible rfl
  try simp only [Act.put, List.setIfInBounds_toArray, List.set_cons_zero, List.set_cons_succ]
  refine reg_take 2 (some 36) (v := ?_) rfl rfl (by kernel_rfl) (by kernel_rfl) (by kernel_rfl) (fun _ _ _ h => h) (by rfl) ?_ ?_
  rotate_left
  · intro W hW; have kb := keep_blk (drewl hW) HX2.out; have k0 := cells_all kb 0; have k1 := cells_all kb 1; have k2 := cells_all kb 2; have k3 := cells_all kb 3; have k4 := cells_all kb 4; have k5 := cells_all kb 5; go_simp; first | done | with_reducible rfl
  try simp only [Act.put, List.setIfInBounds_toArray, List.set_cons_zero, List.set_cons_succ]
  refine wpAnyH_ready (rs := [3]) (by kernel_rfl) (by simp) ?_
  refine (AllReadyH.cons (o := { dst := some 37, op := Op.call { callee := Callee.value (Operand.func 14), args := #[Operand.tmp 36], argTypes := #[31] }, type := 23, pos := "law.go:69", after := #[{ on := 2, ground := Ground.data }], guard := none }) rfl (fun K hK => ?_) AllReadyH.nil)
  go_simp
  refine (rencode_any 1 1 1 (some ⟨w.heap.size + 1, 0, none⟩) 1 [⟨a, k, n, b, x, c⟩] false 0 _ (HRL2.out.kept (drewl (World.grownBy.refl _ _))) (by show 1 ≤ 1000000; decide) HL.out HOk.out).mono ?_; rintro e y3 ⟨v7, rfl, hv7, hg7⟩; rw [← HR.out] at hv7; obtain ⟨b7, c7, rfl, -⟩ := hv7.shape; rw [← HN.out]; have hs7 : Go.Proofs.Ytpoifobhbmhelaa.Src y3 b7 R := Gs.toSrc hv7.1
  refine reg_next hK hg7 ?_
  clear hK K
  try simp only [Act.put, List.setIfInBounds_toArray, List.set_cons_zero, List.set_cons_succ]
  refine reg_take 4 (some 38) (v := ?_) rfl rfl (by kernel_rfl) (by kernel_rfl) (by kernel_rfl) (fun _ _ _ h => h) (by rfl) ?_ ?_
  rotate_left
  · intro W hW; have kq := conv_srcn (c := c7) HN.out (hs7.keptNone hW); go_simp; first | done | with_reducible rfl
  try simp only [Act.put, List.setIfInBounds_toArray, List.set_cons_zero, List.set_cons_succ]
  refine reg_take 5 (some 39) (v := ?_) rfl rfl (by kernel_rfl) (by kernel_rfl) (by kernel_rfl) (fun _ _ _ h => h) (by rfl) ?_ ?_
  rotate_left
  · intro W hW; go_simp; first | done | with_reducible rfl
  try simp only [Act.put, List.setIfInBounds_toArray, List.set_cons_zero, List.set_cons_succ]
  refine reg_take 6 (some 40) (v := ?_) rfl rfl (by kernel_rfl) (by kernel_rfl) (by kernel_rfl) (fun _ _ _ h => h) (by rfl) ?_ ?_
  rotate_left
  · intro W hW; go_simp; first | done | with_reducible rfl
  try simp only [Act.put, List.setIfInBounds_toArray, List.set_cons_zero, List.set_cons_succ]
  refine reg_take 7 (some 41) (v := ?_) rfl rfl (by kernel_rfl) (by kernel_rfl) (by kernel_rfl) (fun _ _ _ h => h) (by rfl) ?_ ?_
  rotate_left
  · intro W hW; go_simp; first | done | with_reducible rfl
  try simp only [Act.put, List.setIfInBounds_toArray, List.set_cons_zero, List.set_cons_succ]
  refine wpAnyH_ready (rs := [8]) (by kernel_rfl) (by simp) ?_
  refine (AllReadyH.cons (o := { dst := some 42, op := Op.call { callee := Callee.value (Operand.func 13), args := #[Operand.tmp 41], argTypes := #[32] }, type := 3, pos := "law.go:69", after := #[{ on := 7, ground := Ground.data }, { on := 6, ground := Ground.chain }, { on := 6, ground := Ground.guard }], guard := some (6, true) }) rfl (fun K hK => ?_) AllReadyH.nil)
  go_simp
  refine (num_any 0 _).mono ?_; rintro e y2 ⟨rfl, rfl⟩
  refine reg_same hK ?_
  clear hK K
  try simp only [Act.put, List.setIfInBounds_toArray, List.set_cons_zero, List.set_cons_succ]
  refine reg_take 9 (some 43) (v := ?_) rfl rfl (by kernel_rfl) (by kernel_rfl) (by kernel_rfl) (fun _ _ _ h => h) (by rfl) ?_ ?_
  rotate_left
  · intro W hW; go_simp; first | done | with_reducible rfl
  try simp only [Act.put, List.setIfInBounds_toArray, List.set_cons_zero, List.set_cons_succ]
  refine reg_take 10 (some 44) (v := ?_) rfl rfl (by kernel_rfl) (by kernel_rfl) (by kernel_rfl) (fun _ _ _ h => h) (by rfl) ?_ ?_
  rotate_left
  · intro W hW; go_simp; first | done | with_reducible rfl
  try simp only [Act.put, List.setIfInBounds_toArray, List.set_cons_zero, List.set_cons_succ]
  refine reg_take 11 (some 45) (v := ?_) rfl rfl (by kernel_rfl) (by kernel_rfl) (by kernel_rfl) (fun _ _ _ h => h) (by rfl) ?_ ?_
  rotate_left
  · intro W hW; go_simp; first | done | with_reducible rfl
  try simp only [Act.put, List.setIfInBounds_toArray, List.set_cons_zero, List.set_cons_succ]
  refine wpAnyH_ready (rs := [12]) (by kernel_rfl) (by simp) ?_
  refine (AllReadyH.cons (o := { dst := some 46, op := Op.call { callee := Callee.value (Operand.func 10), args := #[], argTypes := #[] }, type := 4, pos := "law.go:69", after := #[{ on := 11, ground := Ground.chain }, { on := 11, ground := Ground.guard }], guard := some (11, true) }) rfl (fun K hK => ?_) AllReadyH.nil)
  go_simp
  refine (works_any _).mono ?_; rintro e y5 ⟨rfl, hg9⟩
  refine reg_next hK hg9 ?_
  clear hK K
  try simp only [Act.put, List.setIfInBounds_toArray, List.set_cons_zero, List.set_cons_succ]
  refine reg_take 13 (some 47) (v := ?_) rfl rfl (by kernel_rfl) (by kernel_rfl) (by kernel_rfl) (fun _ _ _ h => h) (by rfl) ?_ ?_
  rotate_left
  · intro W hW; go_simp; first | done | with_reducible rfl
  try simp only [Act.put, List.setIfInBounds_toArray, List.set_cons_zero, List.set_cons_succ]
  refine reg_take 14 (some 2) (v := ?_) rfl rfl (by kernel_rfl) (by kernel_rfl) (by kernel_rfl) (fun _ _ _ h => h) (by rfl) ?_ ?_
  rotate_left
  · intro W hW; go_simp; first | done | with_reducible rfl
  try simp only [Act.put, List.setIfInBounds_toArray, List.set_cons_zero, List.set_cons_succ]
  refine wpAnyH_done (by kernel_rfl) ?_ _
  have HG9 := Lib.hid (HG2.out.trans (drewl (hg7.trans hg9)))
  go_wp2
  go_ret
  exact ⟨rfl, HG9.out⟩
theorem logRecords_walk (t : Rv) (w : World) (hs : Go.Proofs.Ytpoifobhbmhelaa.Src w t.x t.b) (hle : t.b.length ≤ t.c) : Calls Try.prog 3 #[t.val] w fun e w' => e = .returned (.bool true) ∧ w.grownBy w' none := by
  by_cases h5 : 5000 < t.b.length
  · exact recs_long t.a t.k t.n t.x t.b.length t.c w h5
  · by_cases hR : Rt t.a t.k t.n t.b.length
    · exact recs_yes t.a t.k t.n t.x t.b.length t.c t.b w rfl hs hle h5 hR
    · exact recs_no t.a t.k t.n t.x t.b.length t.c t.b w rfl hs hle h5 hR

end Go.Proofs.Ytpoifobhbmhelaa
