/- The writer's number. -/
import Derived.Test.YtpoifobhbmhelaaX
set_option linter.unusedVariables false
set_option linter.unusedSimpArgs false
namespace Go.Proofs.Ytpoifobhbmhelaa
open Go.RowKit
theorem or128 : ∀ a, a < 256 → a ||| 128 = a % 128 + 128 := by decide +kernel
theorem or_byte (m : Nat) : bits .or .u8 ((m : Int) % 256) 128 = ((m % 128 + 128 : Nat) : Int) := by
  have h := u8_or_nat (m % 256) 128 (by omega) (by decide)
  rw [or128 _ (by omega), show m % 256 % 128 = m % 128 from by omega] at h
  rw [show ((m % 256 : Nat) : Int) = (m : Int) % 256 from by omega] at h
  exact h
theorem shr7 (m : Nat) : (m : Int) / 2 ^ 7 = ((m / 128 : Nat) : Int) := by omega
set_option maxHeartbeats 2000000 in
theorem wnumber_any (n : Nat) (hn : n < 9223372036854775808) (T : Nat) (w0 W : World) (v : Value) (l : List UInt8) (hW : W.heap[T]? = some (.cells #[v] 56 (0, 0))) (hv : Wb w0 W v l) (hg : w0.grownBy W none) (hT : w0.heap.size ≤ T) (hl : l.length ≤ 900000) : Calls Try.prog 26 #[.pointer (some ⟨T, 0, none⟩), .int .i64 (n : Nat)] W fun e W' => ∃ x v', e = .returned x ∧ W'.heap[T]? = some (.cells #[v'] 56 (0, 0)) ∧ Mb w0 W' v' (l ++ enc n) ∧ w0.grownBy W' none ∧ Keeps (fun k => k = T ∨ rowOf v = some k) W W' ∧ (∀ k, rowOf v' = some k → rowOf v = some k ∨ W.heap.size ≤ k) := by
  have HN := Lib.hid hn
  have HV := Lib.hid hv
  have HG := Lib.hid hg
  have HW := Lib.hid hW
  have HT := Lib.hid hT
  have HLL := Lib.hid hl
  clear hn hv hg hW hT hl
  go_enter Try.func26, Try.ntmps26
  go_wp2
  go_loopw [1] (fun x wr => ∃ (m : Nat) (pre : List UInt8) (u : Value), x = .int .i64 m ∧ m ≤ n ∧ pre ++ enc m = enc n ∧ wr.heap[T]? = some (.cells #[u] 56 (0, 0)) ∧ Wb w0 wr u (l ++ pre) ∧ w0.grownBy wr none ∧ Keeps (fun k => k = T ∨ rowOf v = some k) W wr ∧ (∀ k, rowOf u = some k → rowOf v = some k ∨ W.heap.size ≤ k)) (fun x _ => (intOf x).toNat)
  case atStart => exact ⟨n, [], v, rfl, Nat.le_refl _, rfl, HW.out, by rw [List.append_nil]; exact HV.out, HG.out, Keeps.refl _ _, fun k h => .inl h⟩
  case round =>
    obtain ⟨m, pre, u, rfl, hm, hpre, hb, hu, hg, hk, hro⟩ := hrel
    obtain ⟨a, c, rfl, -⟩ := hu.shape
    have HPL := Lib.hid (pre_len HN.out hpre)
    obtain ⟨P, hP⟩ : ∃ P, P = l ++ pre := ⟨_, rfl⟩
    have HPP := Lib.hid hP
    rw [← hP] at hb hu hro
    obtain ⟨q, hq⟩ : ∃ q, q = P.length := ⟨_, rfl⟩
    rw [← hq] at hb hu hro
    have HQ := Lib.hid hq
    have HQL := Lib.hid (show q ≤ 900009 from by have h1 := HPL.out; have h2 := HLL.out; rw [hq, hP, List.length_append]; omega)
    have HB := Lib.hid hb
    have HU := Lib.hid hu
    have HGR := Lib.hid hg
    have HK := Lib.hid hk
    have HRO := Lib.hid hro
    have HP := Lib.hid hpre
    have i0 := cells_all hb 0
    have i1 := frozen_all hb 0
    clear hP hq hb hu hg hk hro hpre
    by_cases h128 : 128 ≤ m
    · have hge : (128 : Int) ≤ (m : Nat) := by omega
      have hor := or_byte m
      have hwm : IntKind.u8.wrap (m : Int) = ((m % 256 : Nat) : Int) := by rw [IntKind.wrap_u8]; omega
      have hsh := shr7 m
      obtain ⟨bt, hbt⟩ : ∃ bt, bt = UInt8.ofNat (m % 128 + 128) := ⟨_, rfl⟩
      obtain ⟨bv, hbv⟩ : ∃ bv : Nat, bv = m % 128 + 128 := ⟨_, rfl⟩
      rw [← hbv] at hor
      have HA := Lib.hid (World.grownBy_alloc wr (.cells #[.int .u8 (bv : Int)] 5) none)
      have HS := Lib.hid (src_one wr (bv : Int) bt (by rw [hbt, hbv]; simp [UInt8.toNat_ofNat']; omega))
      have HBT := Lib.hid hbt
      clear hbt hbv
      have HU2 := Lib.hid (HU.out.kept HA.out)
      have HB2 := Lib.hid (keep_blk HA.out HB.out)
      go_wp2_with (at_builtin; refine wpList_wb rfl _ _ 23 rfl a q c _ P [bt] 1 rfl rfl rfl HU2.out HQ.out (HGR.out.trans HA.out) HS.out (by omega) (by have := HQL.out; omega) ?_)
      intro v2 w2 hM hG hgr hr0 hr1
      obtain ⟨a2, c2, rfl, -⟩ := hM.shape
      obtain ⟨L2, hL2⟩ : ∃ L, L = (P ++ [bt]).length := ⟨_, rfl⟩
      rw [← hL2] at hM hr1 ⊢
      clear hL2
      obtain ⟨v2, hv2⟩ : ∃ v2, v2 = Value.slice a2 L2 c2 := ⟨_, rfl⟩
      have HV2 := Lib.hid hv2
      rw [← hv2] at hM hr1
      have hne := HU2.out.ne HB2.out (by decide)
      have hb2 := (hgr.block T (lt_of_block HB2.out) (fun e => hne e.symm)).trans HB2.out
      have hne2 := hM.1.ne hb2 (by decide)
      have j0 := cells_all hb2 0
      have j2 : w2.cell? ⟨T, 0, none⟩ = some (.slice a q c) := j0
      have j1 := frozen_all hb2 0
      have gs := grown_setCell w2 T 0 v2
      have HW2 := Lib.hid (heap_setCell_at (j := 0) v2 hb2)
      have HM2 := Lib.hid (show Wb w0 (w2.setCell ⟨T, 0, none⟩ v2) v2 (l ++ (pre ++ [bt])) from .inl ⟨by rw [← List.append_assoc, ← HPP.out]; exact hM.1.kept gs (fun g e1 e2 => hne2 (e1.trans e2)), hM.2⟩)
      have HG2 := Lib.hid (grown_new hG gs HT.out)
      have HK2 := Lib.hid (show Keeps (fun k => k = T ∨ rowOf v = some k) W (w2.setCell ⟨T, 0, none⟩ v2) from ((HK.out.trans (Keeps.keep HA.out)).then (Keeps.of (X := fun i => rowOf (.slice a q c) = some i) hgr (fun r e => e)) (fun i hi hlt => (HRO.out i hi).elim .inr (fun h => by omega))).trans (Keeps.row gs (.inl rfl)))
      have HRO2 := Lib.hid (show ∀ k, rowOf v2 = some k → rowOf v = some k ∨ W.heap.size ≤ k from fun k e => (hr1 k e).elim (HRO.out k) (fun h => .inr (by have := HK.out.size; omega)))
      rw [hv2] at HW2 HM2 HG2 HK2 HRO2
      clear hM hG hgr hr0 hr1 hne hb2 hne2 gs j0 hv2
      go_wp2
      go_roundw
      case rel => exact ⟨m / 128, pre ++ [bt], _, by first | rfl | (congr 1), by omega, by rw [HBT.out]; exact enc_step h128 HP.out, HW2.out, HM2.out, HG2.out, HK2.out, HRO2.out⟩
      case measure => simp [intOf]; omega
    · have hge : ¬ (128 : Int) ≤ (m : Nat) := by omega
      have hwm : IntKind.u8.wrap (m : Int) = (m : Int) := by rw [IntKind.wrap_u8]; omega
      have HA := Lib.hid (World.grownBy_alloc wr (.cells #[.int .u8 (m : Int)] 5) none)
      obtain ⟨bt, hbt⟩ : ∃ bt, bt = UInt8.ofNat m := ⟨_, rfl⟩
      have HS := Lib.hid (src_one wr (m : Int) bt (by rw [hbt]; simp [UInt8.toNat_ofNat']; omega))
      have HEL := Lib.hid (show P ++ [bt] = l ++ enc n from by rw [hbt, HPP.out, List.append_assoc, enc_last (by omega) HP.out])
      clear hbt
      have HU2 := Lib.hid (HU.out.kept HA.out)
      have HB2 := Lib.hid (keep_blk HA.out HB.out)
      go_wp2_with (at_builtin; refine wpList_wb rfl _ _ 23 rfl a q c _ P [bt] 1 rfl rfl rfl HU2.out HQ.out (HGR.out.trans HA.out) HS.out (by omega) (by have := HQL.out; omega) ?_)
      intro v2 w2 hM hG hgr hr0 hr1
      obtain ⟨a2, c2, rfl, -⟩ := hM.shape
      obtain ⟨L2, hL2⟩ : ∃ L, L = (P ++ [bt]).length := ⟨_, rfl⟩
      rw [← hL2] at hM hr1 ⊢
      clear hL2
      obtain ⟨v2, hv2⟩ : ∃ v2, v2 = Value.slice a2 L2 c2 := ⟨_, rfl⟩
      have HV2 := Lib.hid hv2
      rw [← hv2] at hM hr1
      have hne := HU2.out.ne HB2.out (by decide)
      have hb2 := (hgr.block T (lt_of_block HB2.out) (fun e => hne e.symm)).trans HB2.out
      have hne2 := hM.1.ne hb2 (by decide)
      have j0 := cells_all hb2 0
      have j2 : w2.cell? ⟨T, 0, none⟩ = some (.slice a q c) := j0
      have j1 := frozen_all hb2 0
      have gs := grown_setCell w2 T 0 v2
      have HW2 := Lib.hid (heap_setCell_at (j := 0) v2 hb2)
      have HM2 := Lib.hid (show Mb w0 (w2.setCell ⟨T, 0, none⟩ v2) v2 (l ++ enc n) from ⟨by rw [← HEL.out]; exact hM.1.kept gs (fun g e1 e2 => hne2 (e1.trans e2)), hM.2⟩)
      have HG2 := Lib.hid (grown_new hG gs HT.out)
      have HK2 := Lib.hid (show Keeps (fun k => k = T ∨ rowOf v = some k) W (w2.setCell ⟨T, 0, none⟩ v2) from ((HK.out.trans (Keeps.keep HA.out)).then (Keeps.of (X := fun i => rowOf (.slice a q c) = some i) hgr (fun r e => e)) (fun i hi hlt => (HRO.out i hi).elim .inr (fun h => by omega))).trans (Keeps.row gs (.inl rfl)))
      have HRO2 := Lib.hid (show ∀ k, rowOf v2 = some k → rowOf v = some k ∨ W.heap.size ≤ k from fun k e => (hr1 k e).elim (HRO.out k) (fun h => .inr (by have := HK.out.size; omega)))
      rw [hv2] at HW2 HM2 HG2 HK2 HRO2
      clear hM hG hgr hr0 hr1 hne hb2 hne2 gs j0 hv2
      go_wp2
      go_end0
      exact ⟨_, _, rfl, HW2.out, HM2.out, HG2.out, HK2.out, HRO2.out⟩
end Go.Proofs.Ytpoifobhbmhelaa
