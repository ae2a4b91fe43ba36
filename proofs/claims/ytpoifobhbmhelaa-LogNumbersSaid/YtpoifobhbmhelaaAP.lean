/- LogNumbers: the walk, whole. -/
import Derived.Test.YtpoifobhbmhelaaAO
set_option linter.unusedVariables false
set_option linter.unusedSimpArgs false
namespace Go.Proofs.Ytpoifobhbmhelaa
open Go.RowKit
set_option maxRecDepth 100000 in
set_option maxHeartbeats 4000000 in
theorem numbers_yes (f s m e : Int) (w : World) (hok : (⟨f, s, m, [], true, e⟩ : Lg).Ok) : Calls Try.prog 5 #[.agg #[.int .i64 f, .int .i64 s], .int .i64 m, .int .i64 e] w fun x w' => x = .returned (.bool true) ∧ w.grownBy w' none := by
  have HOK := Lib.hid hok
  have HCK := Lib.hid (ckV_yes hok)
  obtain ⟨R, hR⟩ : ∃ R, R = encL ⟨f, s, m, [], true, e⟩ := ⟨_, rfl⟩
  have HR := Lib.hid hR
  obtain ⟨N, hN⟩ : ∃ N, N = R.length := ⟨_, rfl⟩
  have HN := Lib.hid hN
  have HNB := Lib.hid (show N ≤ 32 from by rw [hN, hR]; exact encL_len (ts := []) hok)
  have HD := Lib.hid (show decL R = (⟨f, s, m, [], true, e⟩, N, 0) from by rw [hN, hR]; exact decL_encL hok)
  clear hok hR hN
  go_enter Try.func5, Try.ntmps5
  go_wp2_with fail
  refine (encode_yes f s m none 0 [] true e _ (.inl rfl) (by decide) HOK.out).mono ?_; rintro e1 w1 ⟨v, rfl, hv, hg1⟩
  rw [show (⟨f, s, m, rsOf [], true, e⟩ : Lg) = ⟨f, s, m, [], true, e⟩ from rfl, ← HR.out] at hv
  obtain ⟨b, c, rfl, hbc⟩ := hv.shape
  rw [← HN.out] at hbc ⊢
  have HS := Lib.hid (Gs.toSrc hv.1 : Go.Proofs.Ytpoifobhbmhelaa.Src w1 b R)
  have HBC := Lib.hid hbc
  have hb := keep_blk hg1 (heap_alloc_new (w.alloc (.cells #[.int .i64 f, .int .i64 s] 28)) (.cells #[.int .i64 f, .int .i64 s, .int .i64 m, .slice none 0 0, .bool true, .int .i64 e] 31))
  rw [World.size_alloc] at hb
  have HG1 := Lib.hid (((World.grownBy_alloc w (.cells #[.int .i64 f, .int .i64 s] 28) none).trans (World.grownBy_alloc _ (.cells #[.int .i64 f, .int .i64 s, .int .i64 m, .slice none 0 0, .bool true, .int .i64 e] 31) none)).trans hg1)
  have HB := Lib.hid hb
  have k0 := cells_all hb 0
  have k1 := cells_all hb 1
  have k2 := cells_all hb 2
  have k3 := cells_all hb 3
  have k4 := cells_all hb 4
  have k5 := cells_all hb 5
  simp only [List.getElem?_toArray, List.getElem?_cons_zero, List.getElem?_cons_succ] at k0 k1 k2 k3 k4 k5
  clear hb hg1 hv hbc
  have hC := rcheck_any f s m none 0 [] true e w1 (.inl rfl) (by decide)
  rw [show (⟨f, s, m, rsOf [], true, e⟩ : Lg) = ⟨f, s, m, [], true, e⟩ from rfl, HCK.out] at hC
  have HC := Lib.hid hC
  clear hC
  go_wp2_with fail
  refine HC.out.mono ?_; rintro e2 w2 ⟨rfl, hg2⟩
  have HG2 := Lib.hid (HG1.out.trans hg2)
  have HS2 := Lib.hid (HS.out.keptNone hg2)
  have HB2 := Lib.hid (keep_blk hg2 HB.out)
  have hC5 := decode_any b c R w2 HS2.out (by rw [← HN.out]; exact HBC.out) (by rw [← HN.out]; have := HNB.out; omega)
  rw [HD.out, ← HN.out] at hC5
  have HC5 := Lib.hid hC5
  clear hC5 hg2 k0 k1 k2 k3 k4 k5
  go_wp2_with fail
  refine HC5.out.mono ?_; rintro e5 w5 ⟨a5, c5, ts5, rfl, hts5, hrl5, hg5⟩
  obtain rfl : ts5 = [] := by simpa [rsOf] using hts5
  simp only [List.length_nil]
  have HG5 := Lib.hid (HG2.out.trans (hg5.trans (World.grownBy_alloc w5 (.cells #[.int .i64 f, .int .i64 s, .int .i64 m, .slice a5 0 c5, .bool true, .int .i64 e] 31) none)))
  have HB5 := Lib.hid (keep_blk (hg5.trans (World.grownBy_alloc w5 (.cells #[.int .i64 f, .int .i64 s, .int .i64 m, .slice a5 0 c5, .bool true, .int .i64 e] 31) none)) HB2.out)
  have HX5 := Lib.hid (heap_alloc_new w5 (.cells #[.int .i64 f, .int .i64 s, .int .i64 m, .slice a5 0 c5, .bool true, .int .i64 e] 31))
  have HS5 := Lib.hid (HS2.out.keptNone (hg5.trans (World.grownBy_alloc w5 (.cells #[.int .i64 f, .int .i64 s, .int .i64 m, .slice a5 0 c5, .bool true, .int .i64 e] 31) none)))
  clear hts5 hrl5 hg5 HC5
  go_wp2
  refine reg_open (none) (n := 29) rfl (by kernel_rfl) ?_
  refine reg_take 0 (some 42) (v := ?_) rfl rfl (by kernel_rfl) (by kernel_rfl) (by kernel_rfl) (fun _ _ _ h => h) (by rfl) ?_ ?_
  rotate_left
  · intro W hW; go_simp; first | done | with_reducible rfl
  try simp only [Act.put, List.setIfInBounds_toArray, List.set_cons_zero, List.set_cons_succ]
  refine reg_take 2 (some 44) (v := ?_) rfl rfl (by kernel_rfl) (by kernel_rfl) (by kernel_rfl) (fun _ _ _ h => h) (by rfl) ?_ ?_
  rotate_left
  · intro W hW; go_simp; first | done | with_reducible rfl
  try simp only [Act.put, List.setIfInBounds_toArray, List.set_cons_zero, List.set_cons_succ]
  refine wpAnyH_ready (rs := [1]) (by kernel_rfl) (by simp) ?_
  refine (AllReadyH.cons (o := { dst := some 43, op := Op.call { callee := Callee.value (Operand.func 13), args := #[Operand.tmp 42], argTypes := #[32] }, type := 3, pos := "near.go:17", after := #[{ on := 0, ground := Ground.data }], guard := none }) rfl (fun K hK => ?_) AllReadyH.nil)
  go_simp
  refine (num_any 0 _).mono ?_; rintro e y1 ⟨rfl, rfl⟩
  refine reg_same hK ?_
  clear hK K
  try simp only [Act.put, List.setIfInBounds_toArray, List.set_cons_zero, List.set_cons_succ]
  refine wpAnyH_ready (rs := [3]) (by kernel_rfl) (by simp) ?_
  refine (AllReadyH.cons (o := { dst := some 45, op := Op.call { callee := Callee.value (Operand.func 13), args := #[Operand.tmp 44], argTypes := #[32] }, type := 3, pos := "near.go:17", after := #[{ on := 2, ground := Ground.data }, { on := 1, ground := Ground.chain }], guard := none }) rfl (fun K hK => ?_) AllReadyH.nil)
  go_simp
  refine (num_any 0 _).mono ?_; rintro e y2 ⟨rfl, rfl⟩
  refine reg_same hK ?_
  clear hK K
  try simp only [Act.put, List.setIfInBounds_toArray, List.set_cons_zero, List.set_cons_succ]
  refine reg_take 4 (some 46) (v := ?_) rfl rfl (by kernel_rfl) (by kernel_rfl) (by kernel_rfl) (fun _ _ _ h => h) (by rfl) ?_ ?_
  rotate_left
  · intro W hW; go_simp; first | done | with_reducible rfl
  try simp only [Act.put, List.setIfInBounds_toArray, List.set_cons_zero, List.set_cons_succ]
  refine reg_take 5 (some 47) (v := ?_) rfl rfl (by kernel_rfl) (by kernel_rfl) (by kernel_rfl) (fun _ _ _ h => h) (by rfl) ?_ ?_
  rotate_left
  · intro W hW; go_simp; first | done | with_reducible rfl
  try simp only [Act.put, List.setIfInBounds_toArray, List.set_cons_zero, List.set_cons_succ]
  refine reg_take 6 (some 48) (v := ?_) rfl rfl (by kernel_rfl) (by kernel_rfl) (by kernel_rfl) (fun _ _ _ h => h) (by rfl) ?_ ?_
  rotate_left
  · intro W hW; go_simp; first | done | with_reducible rfl
  try simp only [Act.put, List.setIfInBounds_toArray, List.set_cons_zero, List.set_cons_succ]
  refine reg_take 7 (some 49) (v := ?_) rfl rfl (by kernel_rfl) (by kernel_rfl) (by kernel_rfl) (fun _ _ _ h => h) (by rfl) ?_ ?_
  rotate_left
  · intro W hW; go_simp; first | done | with_reducible rfl
  try simp only [Act.put, List.setIfInBounds_toArray, List.set_cons_zero, List.set_cons_succ]
  refine reg_take 8 (some 50) (v := ?_) rfl rfl (by kernel_rfl) (by kernel_rfl) (by kernel_rfl) (fun _ _ _ h => h) (by rfl) ?_ ?_
  rotate_left
  · intro W hW; have kq := conv_srcn (c := c) HN.out (HS5.out.keptNone (drewl hW)); go_simp; first | done | with_reducible rfl
  try simp only [Act.put, List.setIfInBounds_toArray, List.set_cons_zero, List.set_cons_succ]
  refine reg_take 9 (some 51) (v := ?_) rfl rfl (by kernel_rfl) (by kernel_rfl) (by kernel_rfl) (fun _ _ _ h => h) (by rfl) ?_ ?_
  rotate_left
  · intro W hW; have kb := keep_blk (drewl hW) HB5.out; have k0 := cells_all kb 0; have k1 := cells_all kb 1; have k2 := cells_all kb 2; have k3 := cells_all kb 3; have k4 := cells_all kb 4; have k5 := cells_all kb 5; go_simp; first | done | with_reducible rfl
  try simp only [Act.put, List.setIfInBounds_toArray, List.set_cons_zero, List.set_cons_succ]
  refine wpAnyH_ready (rs := [10]) (by kernel_rfl) (by simp) ?_
  refine (AllReadyH.cons (o := { dst := some 52, op := Op.call { callee := Callee.value (Operand.func 14), args := #[Operand.tmp 51], argTypes := #[31] }, type := 23, pos := "near.go:17", after := #[{ on := 9, ground := Ground.data }, { on := 6, ground := Ground.chain }, { on := 6, ground := Ground.guard }], guard := some (6, true) }) rfl (fun K hK => ?_) AllReadyH.nil)
  go_simp
  refine (rencode_any f s m none 0 [] true e _ (.inl rfl) (by decide) (by decide) HOK.out).mono ?_; rintro e y3 ⟨v7, rfl, hv7, hg7⟩; rw [show (⟨f, s, m, rsOf [], true, e⟩ : Lg) = ⟨f, s, m, [], true, e⟩ from rfl, ← HR.out] at hv7; obtain ⟨b7, c7, rfl, -⟩ := hv7.shape; rw [← HN.out]; have hs7 : Go.Proofs.Ytpoifobhbmhelaa.Src y3 b7 R := Gs.toSrc hv7.1
  refine reg_next hK hg7 ?_
  clear hK K
  try simp only [Act.put, List.setIfInBounds_toArray, List.set_cons_zero, List.set_cons_succ]
  refine reg_take 11 (some 53) (v := ?_) rfl rfl (by kernel_rfl) (by kernel_rfl) (by kernel_rfl) (fun _ _ _ h => h) (by rfl) ?_ ?_
  rotate_left
  · intro W hW; have kq := conv_srcn (c := c7) HN.out (hs7.keptNone hW); go_simp; first | done | with_reducible rfl
  try simp only [Act.put, List.setIfInBounds_toArray, List.set_cons_zero, List.set_cons_succ]
  refine reg_take 12 (some 54) (v := ?_) rfl rfl (by kernel_rfl) (by kernel_rfl) (by kernel_rfl) (fun _ _ _ h => h) (by rfl) ?_ ?_
  rotate_left
  · intro W hW; go_simp; first | done | with_reducible rfl
  try simp only [Act.put, List.setIfInBounds_toArray, List.set_cons_zero, List.set_cons_succ]
  refine reg_take 13 (some 55) (v := ?_) rfl rfl (by kernel_rfl) (by kernel_rfl) (by kernel_rfl) (fun _ _ _ h => h) (by rfl) ?_ ?_
  rotate_left
  · intro W hW; go_simp; first | done | with_reducible rfl
  try simp only [Act.put, List.setIfInBounds_toArray, List.set_cons_zero, List.set_cons_succ]
  refine reg_take 14 (some 56) (v := ?_) rfl rfl (by kernel_rfl) (by kernel_rfl) (by kernel_rfl) (fun _ _ _ h => h) (by rfl) ?_ ?_
  rotate_left
  · intro W hW; go_simp; first | done | with_reducible rfl
  try simp only [Act.put, List.setIfInBounds_toArray, List.set_cons_zero, List.set_cons_succ]
  refine reg_take 15 (some 57) (v := ?_) rfl rfl (by kernel_rfl) (by kernel_rfl) (by kernel_rfl) (fun _ _ _ h => h) (by rfl) ?_ ?_
  rotate_left
  · intro W hW; go_simp; first | done | with_reducible rfl
  try simp only [Act.put, List.setIfInBounds_toArray, List.set_cons_zero, List.set_cons_succ]
  refine reg_take 16 (some 58) (v := ?_) rfl rfl (by kernel_rfl) (by kernel_rfl) (by kernel_rfl) (fun _ _ _ h => h) (by rfl) ?_ ?_
  rotate_left
  · intro W hW; go_simp; first | done | with_reducible rfl
  try simp only [Act.put, List.setIfInBounds_toArray, List.set_cons_zero, List.set_cons_succ]
  refine reg_take 17 (some 59) (v := ?_) rfl rfl (by kernel_rfl) (by kernel_rfl) (by kernel_rfl) (fun _ _ _ h => h) (by rfl) ?_ ?_
  rotate_left
  · intro W hW; go_simp; first | done | with_reducible rfl
  try simp only [Act.put, List.setIfInBounds_toArray, List.set_cons_zero, List.set_cons_succ]
  refine reg_take 18 (some 60) (v := ?_) rfl rfl (by kernel_rfl) (by kernel_rfl) (by kernel_rfl) (fun _ _ _ h => h) (by rfl) ?_ ?_
  rotate_left
  · intro W hW; go_simp; first | done | with_reducible rfl
  try simp only [Act.put, List.setIfInBounds_toArray, List.set_cons_zero, List.set_cons_succ]
  refine reg_take 19 (some 61) (v := ?_) rfl rfl (by kernel_rfl) (by kernel_rfl) (by kernel_rfl) (fun _ _ _ h => h) (by rfl) ?_ ?_
  rotate_left
  · intro W hW; go_simp; first | done | with_reducible rfl
  try simp only [Act.put, List.setIfInBounds_toArray, List.set_cons_zero, List.set_cons_succ]
  refine reg_take 20 (some 62) (v := ?_) rfl rfl (by kernel_rfl) (by kernel_rfl) (by kernel_rfl) (fun _ _ _ h => h) (by rfl) ?_ ?_
  rotate_left
  · intro W hW; go_simp; first | done | with_reducible rfl
  try simp only [Act.put, List.setIfInBounds_toArray, List.set_cons_zero, List.set_cons_succ]
  refine reg_take 21 (some 63) (v := ?_) rfl rfl (by kernel_rfl) (by kernel_rfl) (by kernel_rfl) (fun _ _ _ h => h) (by rfl) ?_ ?_
  rotate_left
  · intro W hW; have kb := keep_blk (drewl (hg7.trans hW)) HX5.out; have k0 := cells_all kb 0; have k1 := cells_all kb 1; have k2 := cells_all kb 2; have k3 := cells_all kb 3; have k4 := cells_all kb 4; have k5 := cells_all kb 5; go_simp; first | done | with_reducible rfl
  try simp only [Act.put, List.setIfInBounds_toArray, List.set_cons_zero, List.set_cons_succ]
  refine reg_take 22 (some 64) (v := ?_) rfl rfl (by kernel_rfl) (by kernel_rfl) (by kernel_rfl) (fun _ _ _ h => h) (by rfl) ?_ ?_
  rotate_left
  · intro W hW; have kb := keep_blk (drewl (hg7.trans hW)) HB5.out; have k0 := cells_all kb 0; have k1 := cells_all kb 1; have k2 := cells_all kb 2; have k3 := cells_all kb 3; have k4 := cells_all kb 4; have k5 := cells_all kb 5; go_simp; first | done | with_reducible rfl
  try simp only [Act.put, List.setIfInBounds_toArray, List.set_cons_zero, List.set_cons_succ]
  refine wpAnyH_ready (rs := [23]) (by kernel_rfl) (by simp) ?_
  refine (AllReadyH.cons (o := { dst := some 65, op := Op.call { callee := Callee.value (Operand.func 17), args := #[Operand.tmp 63, Operand.tmp 64], argTypes := #[31, 31] }, type := 4, pos := "near.go:17", after := #[{ on := 21, ground := Ground.data }, { on := 22, ground := Ground.data }, { on := 20, ground := Ground.chain }, { on := 20, ground := Ground.guard }], guard := some (20, true) }) rfl (fun K hK => ?_) AllReadyH.nil)
  go_simp
  have hD := rsame_any f s m a5 c5 [] true e f s m none 0 [] true e y3 (.inl rfl) (.inl rfl) (by decide); rw [decide_eq_true (show LgEq f s m [] true e f s m [] true e from rfl)] at hD; refine hD.mono ?_; rintro e y4 ⟨rfl, hg8⟩
  refine reg_next hK hg8 ?_
  clear hK K
  try simp only [Act.put, List.setIfInBounds_toArray, List.set_cons_zero, List.set_cons_succ]
  refine reg_take 24 (some 66) (v := ?_) rfl rfl (by kernel_rfl) (by kernel_rfl) (by kernel_rfl) (fun _ _ _ h => h) (by rfl) ?_ ?_
  rotate_left
  · intro W hW; go_simp; first | done | with_reducible rfl
  try simp only [Act.put, List.setIfInBounds_toArray, List.set_cons_zero, List.set_cons_succ]
  refine reg_take 25 (some 67) (v := ?_) rfl rfl (by kernel_rfl) (by kernel_rfl) (by kernel_rfl) (fun _ _ _ h => h) (by rfl) ?_ ?_
  rotate_left
  · intro W hW; go_simp; first | done | with_reducible rfl
  try simp only [Act.put, List.setIfInBounds_toArray, List.set_cons_zero, List.set_cons_succ]
  refine wpAnyH_ready (rs := [26]) (by kernel_rfl) (by simp) ?_
  refine (AllReadyH.cons (o := { dst := some 68, op := Op.call { callee := Callee.value (Operand.func 10), args := #[], argTypes := #[] }, type := 4, pos := "near.go:17", after := #[{ on := 25, ground := Ground.chain }, { on := 25, ground := Ground.guard }], guard := some (25, true) }) rfl (fun K hK => ?_) AllReadyH.nil)
  go_simp
  refine (works_any _).mono ?_; rintro e y5 ⟨rfl, hg9⟩
  refine reg_next hK hg9 ?_
  clear hK K
  try simp only [Act.put, List.setIfInBounds_toArray, List.set_cons_zero, List.set_cons_succ]
  refine reg_take 27 (some 69) (v := ?_) rfl rfl (by kernel_rfl) (by kernel_rfl) (by kernel_rfl) (fun _ _ _ h => h) (by rfl) ?_ ?_
  rotate_left
  · intro W hW; go_simp; first | done | with_reducible rfl
  try simp only [Act.put, List.setIfInBounds_toArray, List.set_cons_zero, List.set_cons_succ]
  refine reg_take 28 (some 6) (v := ?_) rfl rfl (by kernel_rfl) (by kernel_rfl) (by kernel_rfl) (fun _ _ _ h => h) (by rfl) ?_ ?_
  rotate_left
  · intro W hW; go_simp; first | done | with_reducible rfl
  try simp only [Act.put, List.setIfInBounds_toArray, List.set_cons_zero, List.set_cons_succ]
  refine wpAnyH_done (by kernel_rfl) ?_ _
  have HG9 := Lib.hid (HG5.out.trans (drewl (hg7.trans (hg8.trans hg9))))
  go_wp2
  go_ret
  exact ⟨rfl, HG9.out⟩
end Go.Proofs.Ytpoifobhbmhelaa
