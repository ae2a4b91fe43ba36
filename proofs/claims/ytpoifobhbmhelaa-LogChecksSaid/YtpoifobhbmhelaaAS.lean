/- LogEncodes: the walk. -/
import Derived.Test.YtpoifobhbmhelaaAK
set_option linter.unusedVariables false
set_option linter.unusedSimpArgs false
namespace Go.Proofs.Ytpoifobhbmhelaa
open Go.RowKit
theorem few_yes {f s m : Int} {a : Option Addr} {n c : Nat} {ts : List Rv} {wh : Bool} {e : Int} {w : World} (hn : n = ts.length) (hs : RL w a ts) (h : fewS ts ≤ 20000) : Calls Try.prog 19 #[lgV f s m a n c wh e] w fun e' w' => e' = .returned (.bool true) ∧ w.grownBy w' none := by
  have h1 := few_any f s m a c ts wh e w hs (by have := fewS_len ts; omega)
  rw [decide_eq_true h, ← hn] at h1
  exact h1
theorem few_no {f s m : Int} {a : Option Addr} {n c : Nat} {ts : List Rv} {wh : Bool} {e : Int} {w : World} (hn : n = ts.length) (hs : RL w a ts) (hm : n ≤ 9223372036854775807) (h : ¬ fewS ts ≤ 20000) : Calls Try.prog 19 #[lgV f s m a n c wh e] w fun e' w' => e' = .returned (.bool false) ∧ w.grownBy w' none := by
  have h1 := few_any f s m a c ts wh e w hs (by omega)
  rw [decide_eq_false h, ← hn] at h1
  exact h1
theorem few_len {ts : List Rv} (h : fewS ts ≤ 20000) : ts.length ≤ 400 := by have := fewS_len ts; omega
theorem few_bytes : ∀ {ts : List Rv}, fewS ts ≤ 20000 → ∀ t ∈ ts, t.b.length ≤ 1000000
  | [], _, t, ht => by cases ht
  | u :: r, h, t, ht => by
    simp only [fewS] at h
    rcases List.mem_cons.1 ht with rfl | ht
    · omega
    · exact few_bytes (by omega) t ht
theorem encs_many (f s m : Int) (a : Option Addr) (n c : Nat) (ts : List Rv) (wh : Bool) (e : Int) (w : World) (hn : n = ts.length) (hs : RL w a ts) (hm : n ≤ 9223372036854775807) (hf : ¬ fewS ts ≤ 20000) : Calls Try.prog 7 #[lgV f s m a n c wh e] w fun e w' => e = .returned (.bool true) ∧ w.grownBy w' none := by
  have HA := Lib.hid (World.grownBy_alloc w (boxL f s m a n c wh e) none)
  have HC := Lib.hid (few_no (f := f) (s := s) (m := m) (c := c) (wh := wh) (e := e) hn (hs.kept HA.out) hm hf)
  clear hn hs hm hf
  go_enter Try.func7, Try.ntmps7
  go_wp2_with fail
  refine HC.out.mono ?_; rintro e1 w1 ⟨rfl, hg1⟩
  have HG1 := Lib.hid (HA.out.trans hg1)
  clear hg1
  go_wp2_with fail
  refine (works_any _).mono ?_; rintro e w2 ⟨rfl, hg2⟩
  have HG2 := Lib.hid (HG1.out.trans hg2)
  clear hg2
  go_wp2
  go_ret
  exact ⟨rfl, HG2.out⟩
set_option maxRecDepth 100000 in
set_option maxHeartbeats 4000000 in
theorem encs_no (f s m : Int) (a : Option Addr) (n c : Nat) (ts : List Rv) (wh : Bool) (e : Int) (w : World) (hn : n = ts.length) (hs : RL w a ts) (hf : fewS ts ≤ 20000) (hno : ¬ (⟨f, s, m, rsOf ts, wh, e⟩ : Lg).Ok) : Calls Try.prog 7 #[lgV f s m a n c wh e] w fun e w' => e = .returned (.bool true) ∧ w.grownBy w' none := by
  have HA := Lib.hid (World.grownBy_alloc w (boxL f s m a n c wh e) none)
  have HB := Lib.hid (heap_alloc_new w (boxL f s m a n c wh e))
  have HS := Lib.hid (hs.kept HA.out)
  have HC := Lib.hid (few_yes (f := f) (s := s) (m := m) (c := c) (wh := wh) (e := e) hn HS.out hf)
  have HN := Lib.hid hn
  have HNL := Lib.hid (show ts.length ≤ 400 from few_len hf)
  have HBD := Lib.hid (show bdS ts ≤ 20000 from Nat.le_trans (bdS_few ts hf) hf)
  have HBY := Lib.hid (few_bytes hf)
  have HNO := Lib.hid hno
  have HCK := Lib.hid (ckV_no hno)
  clear hn hs hf hno
  go_enter Try.func7, Try.ntmps7
  go_wp2_with fail
  refine HC.out.mono ?_; rintro e1 w1 ⟨rfl, hg1⟩
  have HG1 := Lib.hid (HA.out.trans hg1)
  have HB1 := Lib.hid (keep_blk hg1 HB.out)
  have HS1 := Lib.hid (HS.out.kept hg1)
  have k0 := cells_all HB1.out 0
  have k1 := cells_all HB1.out 1
  have k2 := cells_all HB1.out 2
  have k3 := cells_all HB1.out 3
  have k4 := cells_all HB1.out 4
  have k5 := cells_all HB1.out 5
  simp only [List.getElem?_toArray, List.getElem?_cons_zero, List.getElem?_cons_succ] at k0 k1 k2 k3 k4 k5
  have hC := encode_no f s m a c ts wh e w1 HS1.out (by have := HNL.out; omega) HNO.out
  rw [← HN.out] at hC
  have HC2 := Lib.hid hC
  clear hC hg1 HC
  go_wp2_with fail
  refine HC2.out.mono ?_; rintro e2 w2 ⟨rfl, hg2⟩
  have HG2 := Lib.hid (HG1.out.trans hg2)
  have HB2 := Lib.hid (keep_blk hg2 HB1.out)
  have HS2 := Lib.hid (HS1.out.kept hg2)
  clear k0 k1 k2 k3 k4 k5
  have k0 := cells_all HB2.out 0
  have k1 := cells_all HB2.out 1
  have k2 := cells_all HB2.out 2
  have k3 := cells_all HB2.out 3
  have k4 := cells_all HB2.out 4
  have k5 := cells_all HB2.out 5
  simp only [List.getElem?_toArray, List.getElem?_cons_zero, List.getElem?_cons_succ] at k0 k1 k2 k3 k4 k5
  have hC := bound_no f s m a c ts wh e w2 HS2.out (by have := HNL.out; omega) HNO.out
  rw [← HN.out] at hC
  have HC3 := Lib.hid hC
  clear hC hg2 HC2
  go_wp2_with fail
  refine HC3.out.mono ?_; rintro e3 w3 ⟨rfl, hg3⟩
  have HG3 := Lib.hid (HG2.out.trans hg3)
  have HB3 := Lib.hid (keep_blk hg3 HB2.out)
  have HS3 := Lib.hid (HS2.out.kept hg3)
  clear k0 k1 k2 k3 k4 k5
  have k0 := cells_all HB3.out 0
  have k1 := cells_all HB3.out 1
  have k2 := cells_all HB3.out 2
  have k3 := cells_all HB3.out 3
  have k4 := cells_all HB3.out 4
  have k5 := cells_all HB3.out 5
  simp only [List.getElem?_toArray, List.getElem?_cons_zero, List.getElem?_cons_succ] at k0 k1 k2 k3 k4 k5
  have hC := rcheck_any f s m a c ts wh e w3 HS3.out (by have := HNL.out; omega)
  rw [← HN.out, HCK.out] at hC
  have HC4 := Lib.hid hC
  clear hC hg3 HC3
  go_wp2_with fail
  refine HC4.out.mono ?_; rintro e4 w4 ⟨rfl, hg4⟩
  have HG4 := Lib.hid (HG3.out.trans hg4)
  clear hg4 k0 k1 k2 k3 k4 k5 HC4
  go_wp2_with fail
  refine (num_any 260 _).mono ?_; rintro e5 w5 ⟨rfl, rfl⟩
  go_wp2_with fail
  refine (num_any 260 _).mono ?_; rintro e6 w6 ⟨rfl, rfl⟩
  go_wp2_with fail
  refine (works_any _).mono ?_; rintro e7 w7 ⟨rfl, hg7⟩
  have HG7 := Lib.hid (HG4.out.trans hg7)
  clear hg7
  go_wp2
  go_ret
  exact ⟨rfl, HG7.out⟩
set_option maxRecDepth 100000 in
set_option maxHeartbeats 4000000 in
theorem encs_yes (f s m : Int) (a : Option Addr) (n c : Nat) (ts : List Rv) (wh : Bool) (e : Int) (w : World) (hn : n = ts.length) (hs : RL w a ts) (hf : fewS ts ≤ 20000) (hok : (⟨f, s, m, rsOf ts, wh, e⟩ : Lg).Ok) : Calls Try.prog 7 #[lgV f s m a n c wh e] w fun e w' => e = .returned (.bool true) ∧ w.grownBy w' none := by
  have HA := Lib.hid (World.grownBy_alloc w (boxL f s m a n c wh e) none)
  have HB := Lib.hid (heap_alloc_new w (boxL f s m a n c wh e))
  have HS := Lib.hid (hs.kept HA.out)
  have HC := Lib.hid (few_yes (f := f) (s := s) (m := m) (c := c) (wh := wh) (e := e) hn HS.out hf)
  have HN := Lib.hid hn
  have HNL := Lib.hid (show ts.length ≤ 400 from few_len hf)
  have HBD := Lib.hid (show bdS ts ≤ 20000 from Nat.le_trans (bdS_few ts hf) hf)
  have HBY := Lib.hid (few_bytes hf)
  have HOK := Lib.hid hok
  have HCK := Lib.hid (ckV_yes hok)
  obtain ⟨R, hR⟩ : ∃ R, R = encL ⟨f, s, m, rsOf ts, wh, e⟩ := ⟨_, rfl⟩
  have HR := Lib.hid hR
  obtain ⟨N, hN⟩ : ∃ N, N = R.length := ⟨_, rfl⟩
  have HNR := Lib.hid hN
  obtain ⟨D, hD⟩ : ∃ D, D = 32 + bdS ts := ⟨_, rfl⟩
  have HD := Lib.hid hD
  clear hn hs hf hok hR hN hD
  go_enter Try.func7, Try.ntmps7
  go_wp2_with fail
  refine HC.out.mono ?_; rintro e1 w1 ⟨rfl, hg1⟩
  have HG1 := Lib.hid (HA.out.trans hg1)
  have HB1 := Lib.hid (keep_blk hg1 HB.out)
  have HS1 := Lib.hid (HS.out.kept hg1)
  have k0 := cells_all HB1.out 0
  have k1 := cells_all HB1.out 1
  have k2 := cells_all HB1.out 2
  have k3 := cells_all HB1.out 3
  have k4 := cells_all HB1.out 4
  have k5 := cells_all HB1.out 5
  simp only [List.getElem?_toArray, List.getElem?_cons_zero, List.getElem?_cons_succ] at k0 k1 k2 k3 k4 k5
  have hC := encode_yes f s m a c ts wh e w1 HS1.out HNL.out HOK.out
  rw [← HN.out, ← HR.out] at hC
  have HC2 := Lib.hid hC
  clear hC hg1 HC
  go_wp2_with fail
  refine HC2.out.mono ?_; rintro e2 w2 ⟨v, rfl, hv, hg2⟩
  obtain ⟨b, c', rfl, hbc⟩ := hv.shape
  rw [← HNR.out] at hbc ⊢
  have HSB2 := Lib.hid (Gs.toSrc hv.1 : Go.Proofs.Ytpoifobhbmhelaa.Src w2 b R)
  have HG2 := Lib.hid (HG1.out.trans hg2)
  have HB2 := Lib.hid (keep_blk hg2 HB1.out)
  have HS2 := Lib.hid (HS1.out.kept hg2)
  clear k0 k1 k2 k3 k4 k5
  have k0 := cells_all HB2.out 0
  have k1 := cells_all HB2.out 1
  have k2 := cells_all HB2.out 2
  have k3 := cells_all HB2.out 3
  have k4 := cells_all HB2.out 4
  have k5 := cells_all HB2.out 5
  simp only [List.getElem?_toArray, List.getElem?_cons_zero, List.getElem?_cons_succ] at k0 k1 k2 k3 k4 k5
  have hC := bound_yes f s m a c ts wh e w2 HS2.out (by have := HNL.out; omega) HOK.out
  rw [← HN.out, ← HD.out] at hC
  have HC3 := Lib.hid hC
  clear hC hg2 HC2 hv hbc
  go_wp2_with fail
  refine HC3.out.mono ?_; rintro e3 w3 ⟨rfl, hg3⟩
  have HG3 := Lib.hid (HG2.out.trans hg3)
  have HB3 := Lib.hid (keep_blk hg3 HB2.out)
  have HS3 := Lib.hid (HS2.out.kept hg3)
  have HSB3 := Lib.hid (HSB2.out.keptNone hg3)
  clear k0 k1 k2 k3 k4 k5
  have k0 := cells_all HB3.out 0
  have k1 := cells_all HB3.out 1
  have k2 := cells_all HB3.out 2
  have k3 := cells_all HB3.out 3
  have k4 := cells_all HB3.out 4
  have k5 := cells_all HB3.out 5
  simp only [List.getElem?_toArray, List.getElem?_cons_zero, List.getElem?_cons_succ] at k0 k1 k2 k3 k4 k5
  have hC := rcheck_any f s m a c ts wh e w3 HS3.out (by have := HNL.out; omega)
  rw [← HN.out, HCK.out] at hC
  have HC4 := Lib.hid hC
  clear hC hg3 HC3
  go_wp2_with fail
  refine HC4.out.mono ?_; rintro e4 w4 ⟨rfl, hg4⟩
  have HG4 := Lib.hid (HG3.out.trans hg4)
  have HB4 := Lib.hid (keep_blk hg4 HB3.out)
  have HS4 := Lib.hid (HS3.out.kept hg4)
  have HSB4 := Lib.hid (HSB3.out.keptNone hg4)
  have HRE := Lib.hid (fun (W : World) (h : RL W a ts) => rencode_any f s m a c ts wh e W h (by have := HNL.out; omega) (by have := HBD.out; omega) HOK.out)
  have HRB := Lib.hid (fun (W : World) (h : RL W a ts) => rbound_any f s m a c ts wh e W h (by have := HNL.out; omega) HBY.out)
  have hre := HRE.out
  have hrb := HRB.out
  simp only [← HN.out, ← HR.out, ← HD.out] at hre hrb
  have HRE := Lib.hid hre
  have HRB := Lib.hid hrb
  clear hg4 k0 k1 k2 k3 k4 k5 HC4 hre hrb
  go_wp2
  refine reg_open (none) (n := 24) rfl (by kernel_rfl) ?_
  refine reg_take 0 (some 44) (v := ?_) rfl rfl (by kernel_rfl) (by kernel_rfl) (by kernel_rfl) (fun _ _ _ h => h) (by rfl) ?_ ?_
  rotate_left
  · intro W hW; go_simp; first | done | with_reducible rfl
  try simp only [Act.put, List.setIfInBounds_toArray, List.set_cons_zero, List.set_cons_succ]
  refine reg_take 1 (some 45) (v := ?_) rfl rfl (by kernel_rfl) (by kernel_rfl) (by kernel_rfl) (fun _ _ _ h => h) (by rfl) ?_ ?_
  rotate_left
  · intro W hW; have kq := conv_srcn (c := c') HNR.out (HSB4.out.keptNone (drewl hW)); go_simp; first | done | with_reducible rfl
  try simp only [Act.put, List.setIfInBounds_toArray, List.set_cons_zero, List.set_cons_succ]
  refine reg_take 2 (some 46) (v := ?_) rfl rfl (by kernel_rfl) (by kernel_rfl) (by kernel_rfl) (fun _ _ _ h => h) (by rfl) ?_ ?_
  rotate_left
  · intro W hW; have kb := keep_blk (drewl hW) HB4.out; have k0 := cells_all kb 0; have k1 := cells_all kb 1; have k2 := cells_all kb 2; have k3 := cells_all kb 3; have k4 := cells_all kb 4; have k5 := cells_all kb 5; go_simp; first | done | with_reducible rfl
  try simp only [Act.put, List.setIfInBounds_toArray, List.set_cons_zero, List.set_cons_succ]
  refine wpAnyH_ready (rs := [3]) (by kernel_rfl) (by simp) ?_
  refine (AllReadyH.cons (o := { dst := some 47, op := Op.call { callee := Callee.value (Operand.func 14), args := #[Operand.tmp 46], argTypes := #[31] }, type := 23, pos := "law.go:56", after := #[{ on := 2, ground := Ground.data }], guard := none }) rfl (fun K hK => ?_) AllReadyH.nil)
  go_simp
  refine (HRE.out _ (HS4.out.kept (drewl (World.grownBy.refl _ _)))).mono ?_; rintro x y3 ⟨v7, rfl, hv7, hg7⟩; obtain ⟨b7, c7, rfl, -⟩ := hv7.shape; rw [← HNR.out]; have hs7 : Go.Proofs.Ytpoifobhbmhelaa.Src y3 b7 R := Gs.toSrc hv7.1
  refine reg_next hK hg7 ?_
  clear hK K
  try simp only [Act.put, List.setIfInBounds_toArray, List.set_cons_zero, List.set_cons_succ]
  refine reg_take 4 (some 48) (v := ?_) rfl rfl (by kernel_rfl) (by kernel_rfl) (by kernel_rfl) (fun _ _ _ h => h) (by rfl) ?_ ?_
  rotate_left
  · intro W hW; have kq := conv_srcn (c := c7) HNR.out (hs7.keptNone hW); go_simp; first | done | with_reducible rfl
  try simp only [Act.put, List.setIfInBounds_toArray, List.set_cons_zero, List.set_cons_succ]
  refine reg_take 5 (some 49) (v := ?_) rfl rfl (by kernel_rfl) (by kernel_rfl) (by kernel_rfl) (fun _ _ _ h => h) (by rfl) ?_ ?_
  rotate_left
  · intro W hW; go_simp; first | done | with_reducible rfl
  try simp only [Act.put, List.setIfInBounds_toArray, List.set_cons_zero, List.set_cons_succ]
  refine reg_take 6 (some 50) (v := ?_) rfl rfl (by kernel_rfl) (by kernel_rfl) (by kernel_rfl) (fun _ _ _ h => h) (by rfl) ?_ ?_
  rotate_left
  · intro W hW; go_simp; first | done | with_reducible rfl
  try simp only [Act.put, List.setIfInBounds_toArray, List.set_cons_zero, List.set_cons_succ]
  refine reg_take 7 (some 51) (v := ?_) rfl rfl (by kernel_rfl) (by kernel_rfl) (by kernel_rfl) (fun _ _ _ h => h) (by rfl) ?_ ?_
  rotate_left
  · intro W hW; go_simp; first | done | with_reducible rfl
  try simp only [Act.put, List.setIfInBounds_toArray, List.set_cons_zero, List.set_cons_succ]
  refine reg_take 8 (some 52) (v := ?_) rfl rfl (by kernel_rfl) (by kernel_rfl) (by kernel_rfl) (fun _ _ _ h => h) (by rfl) ?_ ?_
  rotate_left
  · intro W hW; have kb := keep_blk (drewl (hg7.trans hW)) HB4.out; have k0 := cells_all kb 0; have k1 := cells_all kb 1; have k2 := cells_all kb 2; have k3 := cells_all kb 3; have k4 := cells_all kb 4; have k5 := cells_all kb 5; go_simp; first | done | with_reducible rfl
  try simp only [Act.put, List.setIfInBounds_toArray, List.set_cons_zero, List.set_cons_succ]
  refine wpAnyH_ready (rs := [9]) (by kernel_rfl) (by simp) ?_
  refine (AllReadyH.cons (o := { dst := some 53, op := Op.call { callee := Callee.value (Operand.func 21), args := #[Operand.tmp 52], argTypes := #[31] }, type := 3, pos := "law.go:56", after := #[{ on := 8, ground := Ground.data }, { on := 6, ground := Ground.chain }, { on := 6, ground := Ground.guard }], guard := some (6, true) }) rfl (fun K hK => ?_) AllReadyH.nil)
  go_simp
  refine (HRB.out _ (HS4.out.kept (drewl hg7))).mono ?_; rintro x y4 ⟨rfl, hg8⟩
  refine reg_next hK hg8 ?_
  clear hK K
  try simp only [Act.put, List.setIfInBounds_toArray, List.set_cons_zero, List.set_cons_succ]
  refine reg_take 10 (some 54) (v := ?_) rfl rfl (by kernel_rfl) (by kernel_rfl) (by kernel_rfl) (fun _ _ _ h => h) (by rfl) ?_ ?_
  rotate_left
  · intro W hW; go_simp; first | done | with_reducible rfl
  try simp only [Act.put, List.setIfInBounds_toArray, List.set_cons_zero, List.set_cons_succ]
  refine reg_take 11 (some 55) (v := ?_) rfl rfl (by kernel_rfl) (by kernel_rfl) (by kernel_rfl) (fun _ _ _ h => h) (by rfl) ?_ ?_
  rotate_left
  · intro W hW; go_simp; first | done | with_reducible rfl
  try simp only [Act.put, List.setIfInBounds_toArray, List.set_cons_zero, List.set_cons_succ]
  refine reg_take 12 (some 56) (v := ?_) rfl rfl (by kernel_rfl) (by kernel_rfl) (by kernel_rfl) (fun _ _ _ h => h) (by rfl) ?_ ?_
  rotate_left
  · intro W hW; go_simp; first | done | with_reducible rfl
  try simp only [Act.put, List.setIfInBounds_toArray, List.set_cons_zero, List.set_cons_succ]
  refine reg_take 13 (some 57) (v := ?_) rfl rfl (by kernel_rfl) (by kernel_rfl) (by kernel_rfl) (fun _ _ _ h => h) (by rfl) ?_ ?_
  rotate_left
  · intro W hW; go_simp; first | done | with_reducible rfl
  try simp only [Act.put, List.setIfInBounds_toArray, List.set_cons_zero, List.set_cons_succ]
  refine reg_take 15 (some 59) (v := ?_) rfl rfl (by kernel_rfl) (by kernel_rfl) (by kernel_rfl) (fun _ _ _ h => h) (by rfl) ?_ ?_
  rotate_left
  · intro W hW; go_simp; first | done | with_reducible rfl
  try simp only [Act.put, List.setIfInBounds_toArray, List.set_cons_zero, List.set_cons_succ]
  refine wpAnyH_ready (rs := [14]) (by kernel_rfl) (by simp) ?_
  refine (AllReadyH.cons (o := { dst := some 58, op := Op.call { callee := Callee.value (Operand.func 13), args := #[Operand.tmp 57], argTypes := #[32] }, type := 3, pos := "law.go:56", after := #[{ on := 13, ground := Ground.data }, { on := 12, ground := Ground.chain }, { on := 12, ground := Ground.guard }], guard := some (12, true) }) rfl (fun K hK => ?_) AllReadyH.nil)
  go_simp
  refine (num_any 0 _).mono ?_; rintro x y1 ⟨rfl, rfl⟩
  refine reg_same hK ?_
  clear hK K
  try simp only [Act.put, List.setIfInBounds_toArray, List.set_cons_zero, List.set_cons_succ]
  refine wpAnyH_ready (rs := [16]) (by kernel_rfl) (by simp) ?_
  refine (AllReadyH.cons (o := { dst := some 60, op := Op.call { callee := Callee.value (Operand.func 13), args := #[Operand.tmp 59], argTypes := #[32] }, type := 3, pos := "law.go:56", after := #[{ on := 15, ground := Ground.data }, { on := 14, ground := Ground.chain }, { on := 12, ground := Ground.guard }], guard := some (12, true) }) rfl (fun K hK => ?_) AllReadyH.nil)
  go_simp
  refine (num_any 0 _).mono ?_; rintro x y2 ⟨rfl, rfl⟩
  refine reg_same hK ?_
  clear hK K
  try simp only [Act.put, List.setIfInBounds_toArray, List.set_cons_zero, List.set_cons_succ]
  refine reg_take 17 (some 61) (v := ?_) rfl rfl (by kernel_rfl) (by kernel_rfl) (by kernel_rfl) (fun _ _ _ h => h) (by rfl) ?_ ?_
  rotate_left
  · intro W hW; go_simp; first | done | with_reducible rfl
  try simp only [Act.put, List.setIfInBounds_toArray, List.set_cons_zero, List.set_cons_succ]
  refine reg_take 18 (some 62) (v := ?_) rfl rfl (by kernel_rfl) (by kernel_rfl) (by kernel_rfl) (fun _ _ _ h => h) (by rfl) ?_ ?_
  rotate_left
  · intro W hW; go_simp; first | done | with_reducible rfl
  try simp only [Act.put, List.setIfInBounds_toArray, List.set_cons_zero, List.set_cons_succ]
  refine reg_take 19 (some 63) (v := ?_) rfl rfl (by kernel_rfl) (by kernel_rfl) (by kernel_rfl) (fun _ _ _ h => h) (by rfl) ?_ ?_
  rotate_left
  · intro W hW; go_simp; first | done | with_reducible rfl
  try simp only [Act.put, List.setIfInBounds_toArray, List.set_cons_zero, List.set_cons_succ]
  refine reg_take 20 (some 64) (v := ?_) rfl rfl (by kernel_rfl) (by kernel_rfl) (by kernel_rfl) (fun _ _ _ h => h) (by rfl) ?_ ?_
  rotate_left
  · intro W hW; go_simp; first | done | with_reducible rfl
  try simp only [Act.put, List.setIfInBounds_toArray, List.set_cons_zero, List.set_cons_succ]
  refine wpAnyH_ready (rs := [21]) (by kernel_rfl) (by simp) ?_
  refine (AllReadyH.cons (o := { dst := some 65, op := Op.call { callee := Callee.value (Operand.func 10), args := #[], argTypes := #[] }, type := 4, pos := "law.go:56", after := #[{ on := 20, ground := Ground.chain }, { on := 20, ground := Ground.guard }], guard := some (20, true) }) rfl (fun K hK => ?_) AllReadyH.nil)
  go_simp
  refine (works_any _).mono ?_; rintro x y5 ⟨rfl, hg9⟩
  refine reg_next hK hg9 ?_
  clear hK K
  try simp only [Act.put, List.setIfInBounds_toArray, List.set_cons_zero, List.set_cons_succ]
  refine reg_take 22 (some 66) (v := ?_) rfl rfl (by kernel_rfl) (by kernel_rfl) (by kernel_rfl) (fun _ _ _ h => h) (by rfl) ?_ ?_
  rotate_left
  · intro W hW; go_simp; first | done | with_reducible rfl
  try simp only [Act.put, List.setIfInBounds_toArray, List.set_cons_zero, List.set_cons_succ]
  refine reg_take 23 (some 2) (v := ?_) rfl rfl (by kernel_rfl) (by kernel_rfl) (by kernel_rfl) (fun _ _ _ h => h) (by rfl) ?_ ?_
  rotate_left
  · intro W hW; go_simp; first | done | with_reducible rfl
  try simp only [Act.put, List.setIfInBounds_toArray, List.set_cons_zero, List.set_cons_succ]
  refine wpAnyH_done (by kernel_rfl) ?_ _
  have HG9 := Lib.hid (HG4.out.trans (drewl (hg7.trans (hg8.trans hg9))))
  go_wp2
  go_ret
  exact ⟨rfl, HG9.out⟩
theorem logEncodes_walk (f s m : Int) (a : Option Addr) (c : Nat) (ts : List Rv) (wh : Bool) (e : Int) (w : World) (hs : RL w a ts) (hm : ts.length ≤ 9223372036854775807) : Calls Try.prog 7 #[lgV f s m a ts.length c wh e] w fun e w' => e = .returned (.bool true) ∧ w.grownBy w' none := by
  by_cases hf : fewS ts ≤ 20000
  · by_cases hok : (⟨f, s, m, rsOf ts, wh, e⟩ : Lg).Ok
    · exact encs_yes f s m a _ c ts wh e w rfl hs hf hok
    · exact encs_no f s m a _ c ts wh e w rfl hs hf hok
  · exact encs_many f s m a _ c ts wh e w rfl hs hm hf
end Go.Proofs.Ytpoifobhbmhelaa
