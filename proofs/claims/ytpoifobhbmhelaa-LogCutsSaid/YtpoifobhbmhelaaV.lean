/- A record's bytes: ref.record. -/
import Derived.Test.YtpoifobhbmhelaaU
set_option linter.unusedVariables false
set_option linter.unusedSimpArgs false
namespace Go.Proofs.Ytpoifobhbmhelaa
open Go.RowKit
theorem Gs.lit (w : World) (l : List UInt8) (h : l.length ≤ maxLen) : Gs eB (w.alloc (.cells (bsV l).toArray 5)) (.slice (some ⟨w.heap.size, 0, none⟩) l.length l.length) l.length (bsV l) := by
  refine ⟨by rw [bsV_length]; exact (Nat.mul_one _).symm, bs_one l, .inr ⟨w.heap.size, 0, l.length, bsV l, rfl, Nat.le_refl _, h, heap_alloc_new w _, ?_, ?_⟩⟩
  · rw [bsV_length, show l.length * eB.sz = l.length from Nat.mul_one _]; omega
  · rw [show l.length * eB.sz = l.length from Nat.mul_one _, List.drop_zero, List.take_of_length_le (by rw [bsV_length]; exact Nat.le_refl _)]
theorem Mb.one (w : World) (z : Int) (b : UInt8) (h : z = (b.toNat : Nat)) : Mb w (w.alloc (.cells #[.int .u8 z] 5)) (.slice (some ⟨w.heap.size, 0, none⟩) 1 1) [b] := by
  subst h
  exact ⟨Gs.lit w [b] (by simp [maxLen]), fun k hk => by cases hk; exact Nat.le_refl _⟩
theorem Mb.src {w0 W : World} {v : Value} {l : List UInt8} (h : Mb w0 W v l) : Go.Src Try.prog 1 23 v l.length (bsV l) W := Gs.src h.1
theorem Mb.later {w0 w1 W : World} {v : Value} {l : List UInt8} (h : Mb w1 W v l) (hg : w0.heap.size ≤ w1.heap.size) : Mb w0 W v l := ⟨h.1, fun k hk => Nat.le_trans hg (h.2 k hk)⟩
set_option maxHeartbeats 2000000 in
theorem rrecord_any (k N1 N : Nat) (k' last a n' : Int) (x : Option Addr) (cap : Nat) (l : List UInt8) (w : World) (hk : k' = (k : Nat)) (hn' : n' = (N : Nat)) (hk8 : k < 256) (h1 : a - last = (N1 : Nat)) (hb1 : N1 < 9223372036854775808) (hb2 : N < 9223372036854775808) (hs : Go.Proofs.Ytpoifobhbmhelaa.Src w x l) (hl : l.length ≤ 100000) :
    Calls Try.prog 30 #[.int .i64 k', .int .i64 last, .int .i64 a, .int .i64 n', .slice x l.length cap] w fun e w' => ∃ v', e = .returned v' ∧ Mb w w' v' (enc (UInt8.ofNat k :: (enc N1 ++ (enc N ++ l))).length ++ UInt8.ofNat k :: (enc N1 ++ (enc N ++ l))) ∧ w.grownBy w' none := by
  subst hk hn'
  obtain ⟨b, hb⟩ : ∃ b, b = UInt8.ofNat k := ⟨_, rfl⟩
  rw [← hb]
  obtain ⟨m, hm⟩ : ∃ m, m = l.length := ⟨_, rfl⟩
  obtain ⟨bd, hbd⟩ : ∃ bd, bd = b :: (enc N1 ++ (enc N ++ l)) := ⟨_, rfl⟩
  rw [← hbd, ← hm]
  have hwk : IntKind.u8.wrap (k : Int) = (k : Int) := by rw [IntKind.wrap_u8]; omega
  have hwd : IntKind.i64.wrap (a - last) = (N1 : Int) := by rw [IntKind.wrap_i64]; omega
  have HA := Lib.hid (World.grownBy_alloc w (.cells #[.int .u8 (k : Int)] 5) none)
  have HM0 := Lib.hid (Mb.one w (k : Int) b (by rw [hb]; simp [UInt8.toNat_ofNat']; omega))
  have HS := Lib.hid hs
  have HM := Lib.hid hm
  have HL := Lib.hid hl
  have HBD := Lib.hid hbd
  have HX1 := Lib.hid (enc_len hb1)
  have HX2 := Lib.hid (enc_len hb2)
  have HC1 := Lib.hid (rnumber_any N1 hb1)
  have HC2 := Lib.hid (rnumber_any N hb2)
  clear hb hs hm hl h1 hb1 hb2 hk8 hbd
  go_enter Try.func30, Try.ntmps30
  go_wp2_with fail
  refine (HC1.out _).mono ?_; rintro e u1 ⟨n1, rfl, hn1, hgn1⟩
  obtain ⟨b1, d1, rfl, -⟩ := hn1.shape
  have HN1 := Lib.hid hn1
  have HGN1 := Lib.hid hgn1
  obtain ⟨E1, hE1⟩ : ∃ E, E = (enc N1).length := ⟨_, rfl⟩
  have HE1 := Lib.hid hE1
  have HB1 := Lib.hid (show E1 ≤ 9 from by rw [hE1]; exact HX1.out)
  rw [← hE1]
  clear hE1 hn1 hgn1
  have HMK := Lib.hid (HM0.out.kept HGN1.out)
  go_wp2_with (at_builtin; refine wpList_gs eB rfl _ _ 23 rfl _ 1 E1 (bsV ([b])) (bsV (enc N1)) rfl rfl HMK.out.1 (by have h := HN1.out.src; rw [← HE1.out] at h; exact h) (bs_one _) (by have := HB1.out; omega) ?_)
  intro v1 w1 hQ hg hr
  obtain ⟨hM, hG⟩ := Mb.app (l := [b]) (m := enc N1) HMK.out (World.grownBy.refl _ _) (by rw [show [b].length = 1 from rfl, ← HE1.out]; exact hQ) hg hr (HA.out.trans HGN1.out) (Nat.le_refl _)
  obtain ⟨a1, c1, rfl, -⟩ := hM.shape
  obtain ⟨L1, hL1⟩ : ∃ L, L = ([b] ++ enc N1).length := ⟨_, rfl⟩
  rw [← hL1] at hM ⊢
  have HL1 := Lib.hid hL1
  have HLB1 := Lib.hid (show L1 ≤ 110000 from by rw [hL1, List.length_append]; have := HX1.out; simp; omega)
  have HM1 := Lib.hid hM
  have HG1 := Lib.hid hG
  clear hM hG hQ hg hr hL1
  go_wp2_with fail
  refine (HC2.out _).mono ?_; rintro e u2 ⟨n2, rfl, hn2, hgn2⟩
  obtain ⟨b2, d2, rfl, -⟩ := hn2.shape
  have HN2 := Lib.hid hn2
  have HGN2 := Lib.hid hgn2
  obtain ⟨E2, hE2⟩ : ∃ E, E = (enc N).length := ⟨_, rfl⟩
  have HE2 := Lib.hid hE2
  have HB2 := Lib.hid (show E2 ≤ 9 from by rw [hE2]; exact HX2.out)
  rw [← hE2]
  clear hE2 hn2 hgn2
  have HMK2 := Lib.hid (HM1.out.kept HGN2.out)
  go_wp2_with (at_builtin; refine wpList_gs eB rfl _ _ 23 rfl _ L1 E2 (bsV ([b] ++ enc N1)) (bsV (enc N)) rfl rfl (by have h := HMK2.out.1; rw [← HL1.out] at h; exact h) (by have h := HN2.out.src; rw [← HE2.out] at h; exact h) (bs_one _) (by have := HB2.out; have := HLB1.out; omega) ?_)
  intro v2 w2 hQ hg hr
  obtain ⟨hM, hG⟩ := Mb.app (l := [b] ++ enc N1) (m := enc N) HMK2.out (World.grownBy.refl _ _) (by rw [← HL1.out, ← HE2.out]; exact hQ) hg hr (HG1.out.trans HGN2.out) (Nat.le_refl _)
  obtain ⟨a2, c2, rfl, -⟩ := hM.shape
  obtain ⟨L2, hL2⟩ : ∃ L, L = ([b] ++ enc N1 ++ enc N).length := ⟨_, rfl⟩
  rw [← hL2] at hM ⊢
  have HL2 := Lib.hid hL2
  have HLB2 := Lib.hid (show L2 ≤ 110000 from by rw [hL2, List.length_append]; have := HX1.out; have := HX2.out; simp; omega)
  have HM2 := Lib.hid hM
  have HG2 := Lib.hid hG
  clear hM hG hQ hg hr hL2
  have HS3 := Lib.hid (HS.out.keptNone HG2.out)
  go_wp2_with (at_builtin; refine wpList_gs eB rfl _ _ 23 rfl _ L2 m (bsV ([b] ++ enc N1 ++ enc N)) (bsV (l)) rfl rfl (by have h := HM2.out.1; rw [← HL2.out] at h; exact h) (src_gon (c := cap) HM.out HS3.out) (bs_one _) (by have := HL.out; have := HM.out; have := HLB2.out; omega) ?_)
  intro v3 w3 hQ hg hr
  obtain ⟨hM, hG⟩ := Mb.app (l := [b] ++ enc N1 ++ enc N) (m := l) HM2.out (World.grownBy.refl _ _) (by rw [← HL2.out, ← HM.out]; exact hQ) hg hr HG2.out (Nat.le_refl _)
  obtain ⟨a3, c3, rfl, -⟩ := hM.shape
  obtain ⟨L3, hL3⟩ : ∃ L, L = ([b] ++ enc N1 ++ enc N ++ l).length := ⟨_, rfl⟩
  rw [← hL3] at hM ⊢
  have HL3 := Lib.hid hL3
  have HLB3 := Lib.hid (show L3 ≤ 110000 from by rw [hL3, List.length_append]; have := HX1.out; have := HX2.out; have := HL.out; simp; omega)
  have HM3 := Lib.hid hM
  have HG3 := Lib.hid hG
  clear hM hG hQ hg hr hL3
  have hbd : [b] ++ enc N1 ++ enc N ++ l = bd := by rw [HBD.out]; simp
  have hm3 := HM3.out
  rw [hbd] at hm3
  have HM3 := Lib.hid hm3
  have hl3 := HL3.out
  rw [hbd] at hl3
  have HL3 := Lib.hid hl3
  clear hbd hm3 hl3
  have HC3 := Lib.hid (rnumber_any L3 (by have := HLB3.out; omega))
  have HX3 := Lib.hid (enc_len (n := L3) (by have := HLB3.out; omega))
  go_wp2_with fail
  refine (HC3.out _).mono ?_; rintro e u3 ⟨n3, rfl, hn3, hgn3⟩
  obtain ⟨b3, d3, rfl, -⟩ := hn3.shape
  have HN3 := Lib.hid hn3
  have HGN3 := Lib.hid hgn3
  obtain ⟨E3, hE3⟩ : ∃ E, E = (enc L3).length := ⟨_, rfl⟩
  have HE3 := Lib.hid hE3
  have HB3 := Lib.hid (show E3 ≤ 9 from by rw [hE3]; exact HX3.out)
  rw [← hE3]
  clear hE3 hn3 hgn3
  have HMK3 := Lib.hid (HM3.out.kept HGN3.out)
  have HNK := Lib.hid (show Mb w u3 (.slice b3 E3 d3) (enc L3) from by have h := HN3.out.later (HG3.out.size); rw [← HE3.out] at h; exact h)
  go_wp2_with (at_builtin; refine wpList_gs eB rfl _ _ 23 rfl _ E3 L3 (bsV (enc L3)) (bsV (bd)) rfl rfl (by have h := HNK.out.1; rw [← HE3.out] at h; exact h) (by have h := HMK3.out.src; rw [← HL3.out] at h; exact h) (bs_one _) (by have := HB3.out; have := HLB3.out; omega) ?_)
  intro v4 w4 hQ hg hr
  obtain ⟨hM, hG⟩ := Mb.app (l := enc L3) (m := bd) HNK.out (World.grownBy.refl _ _) (by rw [← HE3.out, ← HL3.out]; exact hQ) hg hr (HG3.out.trans HGN3.out) (Nat.le_refl _)
  obtain ⟨a4, c4, rfl, -⟩ := hM.shape
  obtain ⟨L4, hL4⟩ : ∃ L, L = (enc L3 ++ bd).length := ⟨_, rfl⟩
  rw [← hL4] at hM ⊢
  have HL4 := Lib.hid hL4
  have HLB4 := Lib.hid (show L4 ≤ 120000 from by rw [hL4, List.length_append]; have := HX3.out; have := HLB3.out; have := HL3.out; omega)
  have HM4 := Lib.hid hM
  have HG4 := Lib.hid hG
  clear hM hG hQ hg hr hL4
  go_wp2
  go_ret
  refine ⟨_, rfl, ?_, HG4.out⟩
  have h := HM4.out
  rw [← HL3.out]
  exact h
end Go.Proofs.Ytpoifobhbmhelaa
