/- works: a log, there and back, and cut off. -/
import Derived.Test.YtpoifobhbmhelaaAJ
set_option linter.unusedVariables false
set_option linter.unusedSimpArgs false
namespace Go.Proofs.Ytpoifobhbmhelaa
open Go.RowKit
theorem rs_one {ts : List Rv} (h : rsOf ts = someL.rs) : ts.length = 1 := by have := congrArg List.length h; simpa [rsOf, someL] using this
set_option maxRecDepth 100000 in
set_option maxHeartbeats 4000000 in
theorem works_any (w : World) : Calls Try.prog 10 #[] w fun e w' => e = .returned (.bool true) ∧ w.grownBy w' none := by
  go_enter Try.func10, Try.ntmps10
  go_wp2_with fail
  refine (some_any _).mono ?_; rintro e w1 ⟨a, ts, rfl, hts, hrl, hg1⟩
  have HG1 := Lib.hid hg1
  have hC := encode_yes 2 1 4 a 1 ts true 301 w1 hrl (by rw [rs_one hts]; decide) (by rw [hts]; exact some_ok)
  rw [rs_one hts, hts] at hC
  have HC := Lib.hid hC
  clear hC hts hrl hg1
  go_wp2_with fail
  refine HC.out.mono ?_; rintro e w2 ⟨v, rfl, hv, hg2⟩
  rw [show (⟨2, 1, 4, someL.rs, true, 301⟩ : Lg) = someL from rfl, some_enc] at hv
  obtain ⟨b, c, rfl, hbc⟩ := hv.shape
  have HG2 := Lib.hid (HG1.out.trans hg2)
  have hs : Go.Proofs.Ytpoifobhbmhelaa.Src w2 b someB := Gs.toSrc hv.1
  have HS := Lib.hid hs
  have HBC := Lib.hid hbc
  have hC2 := decode_any b c someB w2 hs hbc (by decide)
  rw [some_dec] at hC2
  have HC2 := Lib.hid hC2
  clear hC2 hs hbc hv hg2 HC
  simp only [show someB.length = 18 from rfl] at *
  go_wp2_with fail
  refine HC2.out.mono ?_; rintro e w3 ⟨a2, c2, ts2, rfl, hts2, hrl2, hg3⟩
  have HG3 := Lib.hid (HG2.out.trans hg3)
  have HS3 := Lib.hid (HS.out.keptNone hg3)
  have hn2 := rs_one hts2
  simp only [hn2, someL]
  have HT2 := Lib.hid hts2
  have HN2 := Lib.hid hn2
  have HR2 := Lib.hid hrl2
  clear hg3 hts2 hrl2 hn2 HC2
  go_wp2
  have HG4 := Lib.hid (World.grownBy_alloc w3 (.cells ([.int .i64 2, .int .i64 1, .int .i64 4, .slice a2 1 c2, .bool true, .int .i64 301] : List Value).toArray 31) none)
  have HX := Lib.hid (heap_alloc_new w3 (.cells ([.int .i64 2, .int .i64 1, .int .i64 4, .slice a2 1 c2, .bool true, .int .i64 301] : List Value).toArray 31))
  have HS4 := Lib.hid (HS3.out.keptNone HG4.out)
  have HR4 := Lib.hid (HR2.out.kept HG4.out)
  refine reg_open (none) (n := 23) rfl (by kernel_rfl) ?_
  refine reg_take 0 (some 20) (v := ?_) rfl rfl (by kernel_rfl) (by kernel_rfl) (by kernel_rfl) (fun _ _ _ h => h) (by rfl) ?_ ?_
  rotate_left
  · intro W hW; go_simp; first | done | with_reducible rfl
  try simp only [Act.put, List.setIfInBounds_toArray, List.set_cons_zero, List.set_cons_succ]
  refine reg_take 2 (some 22) (v := ?_) rfl rfl (by kernel_rfl) (by kernel_rfl) (by kernel_rfl) (fun _ _ _ h => h) (by rfl) ?_ ?_
  rotate_left
  · intro W hW; go_simp; first | done | with_reducible rfl
  try simp only [Act.put, List.setIfInBounds_toArray, List.set_cons_zero, List.set_cons_succ]
  refine wpAnyH_ready (rs := [1]) (by kernel_rfl) (by simp) ?_
  refine (AllReadyH.cons (o := { dst := some 21, op := Op.call { callee := Callee.value (Operand.func 13), args := #[Operand.tmp 20], argTypes := #[32] }, type := 3, pos := "law.go:22", after := #[{ on := 0, ground := Ground.data }], guard := none }) rfl (fun K hK => ?_) AllReadyH.nil)
  go_simp
  refine (num_any 0 _).mono ?_; rintro e y1 ⟨rfl, rfl⟩
  refine reg_same hK ?_
  clear hK K
  try simp only [Act.put, List.setIfInBounds_toArray, List.set_cons_zero, List.set_cons_succ]
  refine wpAnyH_ready (rs := [3]) (by kernel_rfl) (by simp) ?_
  refine (AllReadyH.cons (o := { dst := some 23, op := Op.call { callee := Callee.value (Operand.func 13), args := #[Operand.tmp 22], argTypes := #[32] }, type := 3, pos := "law.go:22", after := #[{ on := 2, ground := Ground.data }, { on := 1, ground := Ground.chain }], guard := none }) rfl (fun K hK => ?_) AllReadyH.nil)
  go_simp
  refine (num_any 0 _).mono ?_; rintro e y2 ⟨rfl, rfl⟩
  refine reg_same hK ?_
  clear hK K
  try simp only [Act.put, List.setIfInBounds_toArray, List.set_cons_zero, List.set_cons_succ]
  refine reg_take 4 (some 24) (v := ?_) rfl rfl (by kernel_rfl) (by kernel_rfl) (by kernel_rfl) (fun _ _ _ h => h) (by rfl) ?_ ?_
  rotate_left
  · intro W hW; go_simp; first | done | with_reducible rfl
  try simp only [Act.put, List.setIfInBounds_toArray, List.set_cons_zero, List.set_cons_succ]
  refine reg_take 5 (some 25) (v := ?_) rfl rfl (by kernel_rfl) (by kernel_rfl) (by kernel_rfl) (fun _ _ _ h => h) (by rfl) ?_ ?_
  rotate_left
  · intro W hW; go_simp; first | done | with_reducible rfl
  try simp only [Act.put, List.setIfInBounds_toArray, List.set_cons_zero, List.set_cons_succ]
  refine reg_take 6 (some 26) (v := ?_) rfl rfl (by kernel_rfl) (by kernel_rfl) (by kernel_rfl) (fun _ _ _ h => h) (by rfl) ?_ ?_
  rotate_left
  · intro W hW; go_simp; first | done | with_reducible rfl
  try simp only [Act.put, List.setIfInBounds_toArray, List.set_cons_zero, List.set_cons_succ]
  refine reg_take 7 (some 27) (v := ?_) rfl rfl (by kernel_rfl) (by kernel_rfl) (by kernel_rfl) (fun _ _ _ h => h) (by rfl) ?_ ?_
  rotate_left
  · intro W hW; go_simp; first | done | with_reducible rfl
  try simp only [Act.put, List.setIfInBounds_toArray, List.set_cons_zero, List.set_cons_succ]
  refine reg_take 8 (some 28) (v := ?_) rfl rfl (by kernel_rfl) (by kernel_rfl) (by kernel_rfl) (fun _ _ _ h => h) (by rfl) ?_ ?_
  rotate_left
  · intro W hW; have kq := conv_srcn (n := 18) (c := c) rfl (HS4.out.keptNone (drewl hW)); go_simp; first | done | with_reducible rfl
  try simp only [Act.put, List.setIfInBounds_toArray, List.set_cons_zero, List.set_cons_succ]
  refine reg_take 9 (some 29) (v := ?_) rfl rfl (by kernel_rfl) (by kernel_rfl) (by kernel_rfl) (fun _ _ _ h => h) (by rfl) ?_ ?_
  rotate_left
  · intro W hW; go_simp; first | done | with_reducible rfl
  try simp only [Act.put, List.setIfInBounds_toArray, List.set_cons_zero, List.set_cons_succ]
  refine reg_take 10 (some 30) (v := ?_) rfl rfl (by kernel_rfl) (by kernel_rfl) (by kernel_rfl) (fun _ _ _ h => h) (by rfl) ?_ ?_
  rotate_left
  · intro W hW; go_simp; first | done | with_reducible rfl
  try simp only [Act.put, List.setIfInBounds_toArray, List.set_cons_zero, List.set_cons_succ]
  refine reg_take 11 (some 31) (v := ?_) rfl rfl (by kernel_rfl) (by kernel_rfl) (by kernel_rfl) (fun _ _ _ h => h) (by rfl) ?_ ?_
  rotate_left
  · intro W hW; go_simp; first | done | with_reducible rfl
  try simp only [Act.put, List.setIfInBounds_toArray, List.set_cons_zero, List.set_cons_succ]
  refine reg_take 12 (some 32) (v := ?_) rfl rfl (by kernel_rfl) (by kernel_rfl) (by kernel_rfl) (fun _ _ _ h => h) (by rfl) ?_ ?_
  rotate_left
  · intro W hW; go_simp; first | done | with_reducible rfl
  try simp only [Act.put, List.setIfInBounds_toArray, List.set_cons_zero, List.set_cons_succ]
  refine reg_take 13 (some 33) (v := ?_) rfl rfl (by kernel_rfl) (by kernel_rfl) (by kernel_rfl) (fun _ _ _ h => h) (by rfl) ?_ ?_
  rotate_left
  · intro W hW; go_simp; first | done | with_reducible rfl
  try simp only [Act.put, List.setIfInBounds_toArray, List.set_cons_zero, List.set_cons_succ]
  refine reg_take 14 (some 34) (v := ?_) rfl rfl (by kernel_rfl) (by kernel_rfl) (by kernel_rfl) (fun _ _ _ h => h) (by rfl) ?_ ?_
  rotate_left
  · intro W hW; go_simp; first | done | with_reducible rfl
  try simp only [Act.put, List.setIfInBounds_toArray, List.set_cons_zero, List.set_cons_succ]
  refine reg_take 15 (some 35) (v := ?_) rfl rfl (by kernel_rfl) (by kernel_rfl) (by kernel_rfl) (fun _ _ _ h => h) (by rfl) ?_ ?_
  rotate_left
  · intro W hW; go_simp; first | done | with_reducible rfl
  try simp only [Act.put, List.setIfInBounds_toArray, List.set_cons_zero, List.set_cons_succ]
  refine reg_take 16 (some 36) (v := ?_) rfl rfl (by kernel_rfl) (by kernel_rfl) (by kernel_rfl) (fun _ _ _ h => h) (by rfl) ?_ ?_
  rotate_left
  · intro W hW; go_simp; first | done | with_reducible rfl
  try simp only [Act.put, List.setIfInBounds_toArray, List.set_cons_zero, List.set_cons_succ]
  refine reg_take 17 (some 37) (v := ?_) rfl rfl (by kernel_rfl) (by kernel_rfl) (by kernel_rfl) (fun _ _ _ h => h) (by rfl) ?_ ?_
  rotate_left
  · intro W hW; go_simp; first | done | with_reducible rfl
  try simp only [Act.put, List.setIfInBounds_toArray, List.set_cons_zero, List.set_cons_succ]
  refine reg_take 18 (some 38) (v := ?_) rfl rfl (by kernel_rfl) (by kernel_rfl) (by kernel_rfl) (fun _ _ _ h => h) (by rfl) ?_ ?_
  rotate_left
  · intro W hW; have kb := keep_blk (drewl hW) HX.out; have k0 := cells_all kb 0; have k1 := cells_all kb 1; have k2 := cells_all kb 2; have k3 := cells_all kb 3; have k4 := cells_all kb 4; have k5 := cells_all kb 5; go_simp; first | done | with_reducible rfl
  try simp only [Act.put, List.setIfInBounds_toArray, List.set_cons_zero, List.set_cons_succ]
  refine wpAnyH_ready (rs := [19]) (by kernel_rfl) (by simp) ?_
  refine (AllReadyH.cons (o := { dst := some 39, op := Op.call { callee := Callee.value (Operand.func 25), args := #[], argTypes := #[] }, type := 31, pos := "law.go:22", after := #[{ on := 17, ground := Ground.chain }, { on := 17, ground := Ground.guard }], guard := some (17, false) }) rfl (fun K hK => ?_) AllReadyH.nil)
  go_simp
  refine (some_any _).mono ?_; rintro e y3 ⟨a4, ts4, rfl, hts4, hrl4, hg4⟩
  refine reg_next hK hg4 ?_
  clear hK K
  try simp only [Act.put, List.setIfInBounds_toArray, List.set_cons_zero, List.set_cons_succ]
  refine wpAnyH_ready (rs := [20]) (by kernel_rfl) (by simp) ?_
  refine (AllReadyH.cons (o := { dst := some 40, op := Op.call { callee := Callee.value (Operand.func 17), args := #[Operand.tmp 38, Operand.tmp 39], argTypes := #[31, 31] }, type := 4, pos := "law.go:22", after := #[{ on := 18, ground := Ground.data }, { on := 19, ground := Ground.data }, { on := 19, ground := Ground.chain }, { on := 17, ground := Ground.guard }], guard := some (17, false) }) rfl (fun K hK => ?_) AllReadyH.nil)
  go_simp
  have hD := rsame_any 2 1 4 a2 c2 ts2 true 301 2 1 4 a4 1 ts4 true 301 y3 (HR4.out.kept (drewl hg4)) hrl4 (by rw [HN2.out]; decide); rw [HN2.out, rs_one hts4, decide_eq_true (show LgEq 2 1 4 ts2 true 301 2 1 4 ts4 true 301 from by unfold LgEq; rw [HT2.out, hts4])] at hD; refine hD.mono ?_; rintro e y4 ⟨rfl, hg5⟩
  refine reg_next hK hg5 ?_
  clear hK K
  try simp only [Act.put, List.setIfInBounds_toArray, List.set_cons_zero, List.set_cons_succ]
  refine reg_take 21 (some 41) (v := ?_) rfl rfl (by kernel_rfl) (by kernel_rfl) (by kernel_rfl) (fun _ _ _ h => h) (by rfl) ?_ ?_
  rotate_left
  · intro W hW; go_simp; first | done | with_reducible rfl
  try simp only [Act.put, List.setIfInBounds_toArray, List.set_cons_zero, List.set_cons_succ]
  refine reg_take 22 (some 42) (v := ?_) rfl rfl (by kernel_rfl) (by kernel_rfl) (by kernel_rfl) (fun _ _ _ h => h) (by rfl) ?_ ?_
  rotate_left
  · intro W hW; go_simp; first | done | with_reducible rfl
  try simp only [Act.put, List.setIfInBounds_toArray, List.set_cons_zero, List.set_cons_succ]
  refine wpAnyH_done (by kernel_rfl) ?_ _
  have HG5 := Lib.hid (drewl (hg4.trans hg5))
  clear hts4 hrl4 hg4 hg5 hD
  have hw0 : (IntKind.i64.wrap 0 != 0) = false := by decide
  have hw17 : IntKind.i64.wrap 17 = 17 := by decide
  have hs5 := src_take (HS4.out.keptNone HG5.out) 17
  obtain ⟨B, o, rfl, -⟩ := src_some HS.out (by simp)
  have hc1 : 17 ≤ c := Nat.le_trans (by decide) HBC.out
  have hc2 : ¬ c = 0 := by omega
  have hC5 := decode_any _ c (someB.take 17) y4 hs5 hc1 (by decide)
  rw [some_cut] at hC5
  simp only [show (someB.take 17).length = 17 from rfl] at hC5
  have HC5 := Lib.hid hC5
  clear hC5 hs5
  go_wp2_with fail
  refine HC5.out.mono ?_; rintro e w5 ⟨a5, c6, ts5, rfl, hts5, hrl5, hg6⟩
  have hn5 := rs_one hts5
  simp only [hn5, show ((14 : Nat) : Int) = 14 from rfl]
  have HG6 := Lib.hid ((HG3.out.trans HG4.out).trans (HG5.out.trans hg6))
  clear hts5 hrl5 hn5 hg6 HC5
  have HX5 := Lib.hid (heap_alloc_new w5 (.cells ([.int .i64 2, .int .i64 1, .int .i64 4, .slice a5 1 c6, .bool false, .int .i64 0] : List Value).toArray 31))
  have r2 := cells_all HX5.out 2
  have r3 := cells_all HX5.out 3
  simp only [List.getElem?_toArray, List.getElem?_cons_zero, List.getElem?_cons_succ] at r2 r3
  go_wp2_with fail
  refine (num_any 0 _).mono ?_; rintro e y6 ⟨rfl, rfl⟩
  go_wp2
  go_ret
  exact ⟨rfl, HG6.out.trans (World.grownBy_alloc w5 _ none)⟩
end Go.Proofs.Ytpoifobhbmhelaa
