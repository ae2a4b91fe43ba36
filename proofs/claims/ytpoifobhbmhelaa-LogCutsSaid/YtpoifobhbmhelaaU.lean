/- Numbers as bytes: ref.number, the writer's number. -/
import Derived.Test.YtpoifobhbmhelaaT
import Derived.Laws.Bits128
set_option linter.unusedVariables false
set_option linter.unusedSimpArgs false
namespace Go.Proofs.Ytpoifobhbmhelaa
open Go.RowKit
/-- A slice of bytes that was made behind w0. -/
def Mb (w0 W : World) (v : Value) (l : List UInt8) : Prop := Gs eB W v l.length (bsV l) ∧ (∀ k, rowOf v = some k → w0.heap.size ≤ k)
theorem Mb.nil (w0 W : World) : Mb w0 W (.slice none 0 0) [] := ⟨Gs.nil eB W, fun k h => by cases h⟩
theorem Mb.kept {w0 W W' : World} {v : Value} {l : List UInt8} (h : Mb w0 W v l) (hg : W.grownBy W' none) : Mb w0 W' v l := ⟨h.1.keptNone hg, h.2⟩
theorem Mb.shape {w0 W : World} {v : Value} {l : List UInt8} (h : Mb w0 W v l) : ∃ a c, v = .slice a l.length c ∧ l.length ≤ c := h.1.shape
theorem Gs.toSrc {W : World} {x : Option Addr} {n c : Nat} {l : List UInt8} (h : Gs eB W (.slice x n c) n (bsV l)) : Go.Proofs.Ytpoifobhbmhelaa.Src W x l := by
  by_cases hl : l = []
  · exact .inl hl
  · have hn : n = l.length := by have := h.1; rw [bsV_length] at this; have e : eB.sz = 1 := rfl; rw [e] at this; omega
    have hn0 : n ≠ 0 := by intro e; apply hl; exact List.length_eq_zero_iff.1 (by omega)
    obtain ⟨g, o, rfl⟩ := h.some_of hn0
    exact .inr ⟨g, o, rfl, fun j hj => h.cell j _ (bV_get l j hj)⟩
/-- What an append of fresh bytes leaves. -/
theorem Mb.app {w0 W W1 W2 : World} {v v2 : Value} {l m : List UInt8} (h : Mb w0 W v l) (h1 : W.grownBy W1 none) (hq : Gs eB W2 v2 (l.length + m.length) (bsV l ++ bsV m)) (hg : W1.grownBy W2 (rowOf v)) {Z : Nat} (hr : rowOf v2 = rowOf v ∨ rowOf v2 = some Z) (h0 : w0.grownBy W none) (hZ : W.heap.size ≤ Z) :
    Mb w0 W2 v2 (l ++ m) ∧ w0.grownBy W2 none := by
  refine ⟨⟨?_, fun k hk => ?_⟩, grown_new3 (h0.trans h1) hg h.2⟩
  · rw [List.length_append, show bsV (l ++ m) = bsV l ++ bsV m from by simp [bsV]]; exact hq
  · rcases hr with e | e
    · exact h.2 k (e ▸ hk)
    · rw [e] at hk; cases hk; exact Nat.le_trans h0.size hZ
theorem src_one (w : World) (z : Int) (b : UInt8) (h : z = (b.toNat : Nat)) : Go.Src Try.prog 1 23 (.slice (some ⟨w.heap.size, 0, none⟩) 1 1) 1 (bsV [b]) (w.alloc (.cells #[.int .u8 z] 5)) := by
  subst h
  exact src_gon (n := 1) (c := 1) rfl (src_lit w [b] 0 0)
theorem enc_step {m n : Nat} {pre : List UInt8} (h : 128 ≤ m) (hp : pre ++ enc m = enc n) : (pre ++ [UInt8.ofNat (m % 128 + 128)]) ++ enc (m / 128) = enc n := by
  rw [← hp, enc_ge (n := m) (by omega), List.append_assoc]
  rfl
theorem enc_last {m n : Nat} {pre : List UInt8} (h : m < 128) (hp : pre ++ enc m = enc n) : pre ++ [UInt8.ofNat m] = enc n := by rw [← hp, enc_lt h]
theorem enc_len {n : Nat} (hn : n < 9223372036854775808) : (enc n).length ≤ 9 := enc_len_le 8 n (by omega)
theorem pre_len {m n : Nat} {pre : List UInt8} (hn : n < 9223372036854775808) (hp : pre ++ enc m = enc n) : pre.length ≤ 9 := by
  have := congrArg List.length hp
  have := enc_len hn
  simp at *
  omega
set_option maxHeartbeats 1000000 in
theorem rnumber_any (n : Nat) (hn : n < 9223372036854775808) (w : World) : Calls Try.prog 29 #[.int .i64 (n : Nat)] w fun e w' => ∃ v', e = .returned v' ∧ Mb w w' v' (enc n) ∧ w.grownBy w' none := by
  have HN := Lib.hid hn
  go_enter Try.func29, Try.ntmps29
  go_wp2
  go_loopw [0, 3] (fun x v wr => ∃ (m : Nat) (pre : List UInt8), x = .int .i64 m ∧ m ≤ n ∧ pre ++ enc m = enc n ∧ Mb w wr v pre ∧ w.grownBy wr none) (fun x _ _ => (intOf x).toNat)
  case atStart => exact ⟨n, [], rfl, Nat.le_refl _, rfl, Mb.nil _ _, World.grownBy.refl _ _⟩
  case round =>
    obtain ⟨m, pre, rfl, hm, hpre, hv, hg⟩ := hrel
    obtain ⟨a, c, rfl, hac⟩ := hv.shape
    have HPL := Lib.hid (pre_len HN.out hpre)
    have HV := Lib.hid hv
    have HG := Lib.hid hg
    have HP := Lib.hid hpre
    obtain ⟨q, hq⟩ : ∃ q, q = pre.length := ⟨_, rfl⟩
    have HQ := Lib.hid hq
    rw [← hq]
    clear hv hg hpre hq
    by_cases h128 : 128 ≤ m
    · have hge : (128 : Int) ≤ (m : Nat) := by omega
      have HA := Lib.hid (World.grownBy_alloc wr (.cells #[.int .u8 ((m : Int) % 128 + 128)] 5) none)
      obtain ⟨bt, hbt⟩ : ∃ bt, bt = UInt8.ofNat (m % 128 + 128) := ⟨_, rfl⟩
      have HS := Lib.hid (src_one wr ((m : Int) % 128 + 128) bt (by rw [hbt]; simp [UInt8.toNat_ofNat']; omega))
      have HBT := Lib.hid hbt
      clear hbt
      have HX := Lib.hid (HV.out.1.keptNone HA.out)
      go_wp2_with (at_builtin; refine wpList_gs eB rfl _ _ 23 rfl _ q 1 (bsV pre) _ rfl rfl (HQ.out ▸ HX.out) HS.out (bs_one _) (by have := HPL.out; have := HQ.out; omega) ?_)
      intro v2 w2 hQ2 hg2 hr2
      obtain ⟨hM, hG⟩ := Mb.app (m := [bt]) HV.out HA.out (HQ.out ▸ hQ2) (HQ.out ▸ hg2) (HQ.out ▸ hr2) HG.out (by omega)
      have HM := Lib.hid hM
      have HG2 := Lib.hid hG
      clear hQ2 hg2 hr2 hM hG
      go_wp2
      go_roundw
      case rel => exact ⟨m / 128, _, by first | rfl | (congr 1), by omega, by rw [HBT.out]; exact enc_step h128 HP.out, HM.out, HG2.out⟩
      case measure => simp [intOf]; omega
    · have hge : ¬ (128 : Int) ≤ (m : Nat) := by omega
      have hw : IntKind.u8.wrap (m : Int) = (m : Int) := by rw [IntKind.wrap_u8]; omega
      have HA := Lib.hid (World.grownBy_alloc wr (.cells #[.int .u8 (m : Int)] 5) none)
      have HS := Lib.hid (src_one wr (m : Int) (UInt8.ofNat m) (by simp [UInt8.toNat_ofNat']; omega))
      have HX := Lib.hid (HV.out.1.keptNone HA.out)
      go_wp2_with (at_builtin; refine wpList_gs eB rfl _ _ 23 rfl _ q 1 (bsV pre) _ rfl rfl (HQ.out ▸ HX.out) HS.out (bs_one _) (by have := HPL.out; have := HQ.out; omega) ?_)
      intro v2 w2 hQ2 hg2 hr2
      obtain ⟨hM, hG⟩ := Mb.app (m := [UInt8.ofNat m]) HV.out HA.out (HQ.out ▸ hQ2) (HQ.out ▸ hg2) (HQ.out ▸ hr2) HG.out (by omega)
      rw [enc_last (by omega) HP.out] at hM
      have HM := Lib.hid hM
      have HG2 := Lib.hid hG
      clear hQ2 hg2 hr2 hM hG
      go_wp2
      go_ret
      exact ⟨v2, rfl, HM.out, HG2.out⟩
end Go.Proofs.Ytpoifobhbmhelaa
