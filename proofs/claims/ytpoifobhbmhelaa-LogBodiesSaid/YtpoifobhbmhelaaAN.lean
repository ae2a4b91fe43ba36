/- LogBodies: two bytes ahead. -/
import Derived.Test.YtpoifobhbmhelaaAM
set_option linter.unusedVariables false
set_option linter.unusedSimpArgs false
namespace Go.Proofs.Ytpoifobhbmhelaa
open Go.RowKit
set_option maxRecDepth 100000 in
set_option maxHeartbeats 4000000 in
theorem bodies_2 (x : Option Addr) (n cap : Nat) (l : List UInt8) (w : World) (hn : n = l.length) (hs : Go.Proofs.Ytpoifobhbmhelaa.Src w x l) (h128 : ¬ n < 128) (h300 : ¬ 300 < n) : Calls Try.prog 4 #[.slice x n cap] w fun e w' => e = .returned (.bool true) ∧ w.grownBy w' none := by
    have kc : (convert 23 23 (.slice (some ⟨w.heap.size, 0, none⟩) 7 7)).run Try.prog (w.alloc (mag7O 0 0)) = .ok (.slice (some ⟨w.heap.size, 0, none⟩) 7 7) (w.alloc (mag7O 7 8)) := conv_lit w #[.int .u8 80, .int .u8 77, .int .u8 68, .int .u8 82, .int .u8 2, .int .u8 1, .int .u8 4] 7 7
    have HA := Lib.hid ((World.grownBy_alloc w (mag7O 7 8) none).trans (World.grownBy_alloc _ (.cells #[.int .u8 ((n : Int) % 128 + 128), .int .u8 ((n : Int) / 128)] 5) none))
    have HWB := Lib.hid ((lit_mark w mag7 7 8).kept (World.grownBy_alloc (w.alloc (mag7O 7 8)) (.cells #[.int .u8 ((n : Int) % 128 + 128), .int .u8 ((n : Int) / 128)] 5) none))
    obtain ⟨b1, hb1⟩ : ∃ b1 : UInt8, (b1.toNat : Int) = (n : Int) % 128 + 128 := ⟨UInt8.ofNat (n % 128 + 128), by rw [UInt8.toNat_ofNat']; omega⟩
    obtain ⟨b2, hb2⟩ : ∃ b2 : UInt8, (b2.toNat : Int) = (n : Int) / 128 := ⟨UInt8.ofNat (n / 128), by rw [UInt8.toNat_ofNat']; omega⟩
    have hs2 := src_gon (n := 2) (c := 2) rfl (src_lit (w.alloc (mag7O 7 8)) [b1, b2] 0 0)
    rw [show (bsV [b1, b2]).toArray = #[.int .u8 ((n : Int) % 128 + 128), .int .u8 ((n : Int) / 128)] from by rw [← hb1, ← hb2]; rfl] at hs2
    have HS1 := Lib.hid hs2
    clear hs2 hb1 hb2
    have HS := Lib.hid hs
    have HN := Lib.hid hn
    clear hs hn
    go_enter Try.func4, Try.ntmps4
    go_wp2_with (at_builtin; refine wpList_wb rfl _ _ 23 rfl _ 7 7 _ mag7 [b1, b2] 2 rfl rfl rfl HWB.out rfl HA.out (by have := HS1.out; rw [World.size_alloc] at this; exact this) (by omega) (by omega) ?_)
    intro v1 w1 hM1 hG1 hx1 hx2 hx3
    clear hx1 hx2 hx3
    obtain ⟨P, hP⟩ : ∃ P : List UInt8, P = [80, 77, 68, 82, 2, 1, 4, b1, b2] := ⟨_, rfl⟩
    rw [← hP] at hM1
    obtain ⟨p, hp⟩ : ∃ p, p = P.length := ⟨_, rfl⟩
    have hp2 : p ≤ 9 := by rw [hp, hP]; simp
    obtain ⟨a1, c1, rfl, -⟩ := hM1.shape
    rw [← hp] at hM1 ⊢
    have HP := Lib.hid hp
    have HP2 := Lib.hid hp2
    have HM1 := Lib.hid hM1
    have HGA := Lib.hid hG1
    clear hP hp hp2 hM1 hG1 kc
    go_wp2_with (at_builtin; refine wpList_gs eB rfl _ _ 23 rfl _ p n (bsV P) (bsV l) rfl rfl (by have h := HM1.out.1; rw [← HP.out] at h; exact h) (src_gon (c := cap) HN.out (HS.out.keptNone HGA.out)) (bs_one _) (by have := HP2.out; omega) ?_)
    intro v2 w1' hq2 hg2 hr2
    obtain ⟨hM2, hG2⟩ := Mb.app (l := P) (m := l) HM1.out (World.grownBy.refl _ _) (by rw [← HP.out, ← HN.out]; exact hq2) hg2 hr2 HGA.out (Nat.le_refl _)
    obtain ⟨b, c', rfl, hbc⟩ := hM2.shape
    obtain ⟨B, hB⟩ : ∃ B, B = P ++ l := ⟨_, rfl⟩
    have hBl : B.length = p + n := by rw [hB, List.length_append, ← HP.out, ← HN.out]
    rw [← hB] at hM2 hbc ⊢
    have hs1 : Go.Proofs.Ytpoifobhbmhelaa.Src w1' b B := Gs.toSrc hM2.1
    obtain ⟨N, hN⟩ : ∃ N, N = B.length := ⟨_, rfl⟩
    have HNB := Lib.hid (show N ≤ 900000 from by have := HP2.out; omega)
    have h1 := decode_any b c' B w1' hs1 hbc (by have := HNB.out; omega)
    obtain ⟨D, hD⟩ : ∃ D, D = decL B := ⟨_, rfl⟩
    have HR2 := Lib.hid (fun w2 => rdecode_any b c' B w2)
    rw [← hN, ← hD] at h1
    simp only [← hN, ← hD] at HR2
    have HR2 := Lib.hid HR2.out
    rw [← hN] at hbc ⊢
    have HDF := Lib.hid (show D.1.rs.length ≤ 1000000 from by have := decL_few B; rw [← hD, ← hN] at this; have := HNB.out; omega)
    have H1 := Lib.hid h1
    have HS1 := Lib.hid hs1
    have HBC := Lib.hid hbc
    have HG1 := Lib.hid hG2
    clear hq2 hg2 hr2 hM2 hG2 hbc hB hBl hs1 hN h1 hD
    go_wp2_with fail
    obtain ⟨⟨F, S, M, rs, wh, E⟩, k, no⟩ := D
    refine H1.out.mono ?_; rintro e w2 ⟨a2, c2, ts2, rfl, hts2, hrl2, hg2⟩
    simp only at hts2
    have hn2 : ts2.length = rs.length := by rw [← hts2]; simp [rsOf]
    have HG2 := Lib.hid (HG1.out.trans hg2)
    have HS2 := Lib.hid (HS1.out.keptNone hg2)
    obtain ⟨q, hq⟩ : ∃ q, q = rs.length := ⟨_, rfl⟩
    simp only [hn2, ← hq]
    have HT2 := Lib.hid hts2
    have HN2 := Lib.hid (hn2.trans hq.symm)
    have HQ := Lib.hid hq
    have HB2 := Lib.hid (heap_alloc_new w2 (.cells #[.int .i64 F, .int .i64 S, .int .i64 M, .slice a2 q c2, .bool wh, .int .i64 E] 31))
    have HA2 := Lib.hid (World.grownBy_alloc w2 (.cells #[.int .i64 F, .int .i64 S, .int .i64 M, .slice a2 q c2, .bool wh, .int .i64 E] 31) none)
    have HR2' := Lib.hid (hrl2.kept HA2.out)
    clear hts2 hrl2 hg2 hn2 hq H1
    go_wp2_with fail
    refine (HR2.out _ (HS2.out.keptNone HA2.out) HBC.out HNB.out).mono ?_; rintro e w3 ⟨a3, c3, ts3, rfl, hts3, hrl3, hg3⟩
    simp only at hts3
    have hn3 : ts3.length = q := by rw [HQ.out, ← hts3]; simp [rsOf]
    simp only [hn3]
    have HG3 := Lib.hid (HG2.out.trans (HA2.out.trans hg3))
    have HA3 := Lib.hid (World.grownBy_alloc w3 (.cells #[.int .i64 F, .int .i64 S, .int .i64 M, .slice a3 q c3, .bool wh, .int .i64 E] 31) none)
    have hb3 := keep_blk (hg3.trans HA3.out) HB2.out
    have k0 := cells_all hb3 0
    have k1 := cells_all hb3 1
    have k2 := cells_all hb3 2
    have k3 := cells_all hb3 3
    have k4 := cells_all hb3 4
    have k5 := cells_all hb3 5
    simp only [List.getElem?_toArray, List.getElem?_cons_zero, List.getElem?_cons_succ] at k0 k1 k2 k3 k4 k5
    have hC := rsame_any F S M a2 c2 ts2 wh E F S M a3 c3 ts3 wh E (w3.alloc (.cells #[.int .i64 F, .int .i64 S, .int .i64 M, .slice a3 q c3, .bool wh, .int .i64 E] 31)) (HR2'.out.kept (hg3.trans HA3.out)) (hrl3.kept HA3.out) (by rw [HN2.out, HQ.out]; exact HDF.out)
    rw [decide_eq_true (show LgEq F S M ts2 wh E F S M ts3 wh E from by unfold LgEq; rw [HT2.out, hts3]), HN2.out, hn3] at hC
    have HC := Lib.hid hC
    clear hC hb3 hn3 hts3 hrl3 hg3
    go_wp2_with fail
    refine HC.out.mono ?_; rintro e w4 ⟨rfl, hg4⟩
    have HG4 := Lib.hid (HG3.out.trans (HA3.out.trans hg4))
    clear hg4
    go_wp2_with fail
    refine (num_any no _).mono ?_; rintro e w5 ⟨rfl, rfl⟩
    go_wp2_with fail
    refine (works_any _).mono ?_; rintro e w6 ⟨rfl, hg6⟩
    have HG6 := Lib.hid (HG4.out.trans hg6)
    clear hg6
    go_wp2
    go_ret
    exact ⟨rfl, HG6.out⟩
theorem logBodies_walk (x : Option Addr) (n cap : Nat) (l : List UInt8) (w : World) (hn : n = l.length) (hs : Go.Proofs.Ytpoifobhbmhelaa.Src w x l) : Calls Try.prog 4 #[.slice x n cap] w fun e w' => e = .returned (.bool true) ∧ w.grownBy w' none := by
  by_cases h300 : 300 < n
  · exact bodies_long x n cap w h300
  · by_cases h128 : n < 128
    · exact bodies_1 x n cap l w hn hs h128
    · exact bodies_2 x n cap l w hn hs h128 h300
end Go.Proofs.Ytpoifobhbmhelaa
