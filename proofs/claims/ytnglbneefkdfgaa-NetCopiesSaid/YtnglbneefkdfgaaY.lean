import Derived.Test.YtnglbneefkdfgaaX
set_option linter.unusedVariables false
namespace Go.Proofs.Ytnglbneefkdfgaa
open Go.RowKit
theorem tot_rep (k : Nat) (bs : List UInt8) : tot (List.replicate k bs) = k * bs.length := by
  induction k with
  | zero => simp [tot]
  | succ k ih => rw [List.replicate_succ, show bs :: List.replicate k bs = [bs] ++ List.replicate k bs from rfl, tot_append, tot_one, ih, Nat.succ_mul]; omega
theorem nb_rep (k t : Nat) (bs : List UInt8) (hk : k ≤ 300) (hb : bs.length ≤ 64) : Nb ⟨List.replicate k bs, t, []⟩ := by
  refine ⟨by simp; omega, by simp, ?_, by simp [tot]⟩
  rw [tot_rep]
  have : k * bs.length ≤ 300 * 64 := Nat.mul_le_mul hk hb
  omega
theorem rep_full (k t : Nat) (bs : List UInt8) (hb : bs.length ≤ 64) (h : k - t < 256) : (⟨List.replicate k bs, t, []⟩ : Nh).full bs = false := by
  simp [Nh.full]; omega
theorem rep_at (t : Nat) (bs : List UInt8) (hb : bs.length ≤ 64) (ht : 1 ≤ t) : (⟨List.replicate 256 bs, t, []⟩ : Nh).pushAt bs = 256 * bs.length := by
  rw [Nh.pushAt, rep_full 256 t bs hb (by omega), tot_rep]; rfl
theorem rep_no (t : Nat) (bs : List UInt8) (hb : bs.length ≤ 64) (ht : 1 ≤ t) : (⟨List.replicate 256 bs, t, []⟩ : Nh).pushNo bs = 0 := by
  rw [Nh.pushNo, rep_full 256 t bs hb (by omega)]; rfl
theorem rep_snoc (k : Nat) (bs : List UInt8) : List.replicate k bs ++ [bs] = List.replicate (k + 1) bs := by
  rw [← List.replicate_succ']
theorem rep_push (t : Nat) (bs : List UInt8) (hb : bs.length ≤ 64) (ht : 1 ≤ t) : (⟨List.replicate 256 bs, t, []⟩ : Nh).push bs = ⟨List.replicate 257 bs, t, []⟩ := by
  rw [Nh.push, rep_full 256 t bs hb (by omega)]
  simp only [Bool.false_eq_true, if_false, rep_snoc]
theorem rep_full0 (t : Nat) (bs : List UInt8) (ht : t = 0) : (⟨List.replicate 256 bs, t, []⟩ : Nh).full bs = true := by
  subst ht
  have h : decide (256 ≤ (List.replicate 256 bs).length - 0) = true := by rw [List.length_replicate]; decide
  unfold Nh.full
  rw [h, Bool.or_true]
theorem rep_at_full (t : Nat) (bs : List UInt8) (ht : t = 0) : (⟨List.replicate 256 bs, t, []⟩ : Nh).pushAt bs = 0 := by
  rw [Nh.pushAt, rep_full0 t bs ht]; rfl
theorem rep_no_full (t : Nat) (bs : List UInt8) (ht : t = 0) : (⟨List.replicate 256 bs, t, []⟩ : Nh).pushNo bs = 3 := by
  rw [Nh.pushNo, rep_full0 t bs ht]; rfl
theorem rep_push_full (t : Nat) (bs : List UInt8) (ht : t = 0) : (⟨List.replicate 256 bs, t, []⟩ : Nh).push bs = ⟨List.replicate 256 bs, t, []⟩ := by
  rw [Nh.push, rep_full0 t bs ht]; rfl
theorem one_at (k : Nat) (bs : List UInt8) (hb : bs.length ≤ 64) (hk : k < 256) : (⟨List.replicate k bs, 0, []⟩ : Nh).pushAt bs = k * bs.length ∧ (⟨List.replicate k bs, 0, []⟩ : Nh).pushNo bs = 0 ∧ (⟨List.replicate k bs, 0, []⟩ : Nh).push bs = ⟨List.replicate (k + 1) bs, 0, []⟩ := by
  have h := rep_full k 0 bs hb (by omega)
  refine ⟨?_, ?_, ?_⟩
  · rw [Nh.pushAt, h, tot_rep]; rfl
  · rw [Nh.pushNo, h]; rfl
  · rw [Nh.push, h]; simp only [Bool.false_eq_true, if_false, rep_snoc]
theorem take_rep (j : Nat) (bs : List UInt8) (hj : j < 256) : (⟨List.replicate 256 bs, j, []⟩ : Nh).more = true ∧ (⟨List.replicate 256 bs, j, []⟩ : Nh).take = ⟨List.replicate 256 bs, j + 1, []⟩ := by
  have h : (⟨List.replicate 256 bs, j, []⟩ : Nh).more = true := by
    unfold Nh.more
    rw [List.length_replicate]
    exact decide_eq_true hj
  exact ⟨h, by rw [Nh.take, h]; rfl⟩
set_option maxHeartbeats 8000000 in
theorem netFull_walk (xa : Option Addr) (n xcap : Nat) (bs : List UInt8) (tk : Int) (w : World) (hn : n = bs.length) (hx : Go.Proofs.Ytnglbneefkdfgaa.Src w xa bs) (hm : n ≤ 9223372036854775807) :
    Calls Try.prog 3 #[.slice xa n xcap, .int .i64 tk] w fun e w' => e = .returned (.bool true) ∧ w.grownBy w' none := by
  by_cases h64 : 64 < n
  · have h64' : (64 : Int) < (n : Nat) := by omega
    clear hn hx
    go_enter Try.func3, Try.ntmps3
    go_wp2_with fail
    refine (works_any _).mono ?_; rintro e w1 ⟨rfl, hg1⟩
    go_wp2
    go_ret
    exact ⟨rfl, hg1⟩
  have h64' : ¬ (64 : Int) < (n : Nat) := by omega
  have hb64 : bs.length ≤ 64 := by omega
  obtain ⟨T, hT⟩ : ∃ T : Nat, max (0 : Int) (min 256 tk) = (T : Nat) := ⟨(max (0 : Int) (min 256 tk)).toNat, by omega⟩
  have hT256 : T ≤ 256 := by omega
  have HN := Lib.hid hn
  have HX := Lib.hid hx
  obtain ⟨m, hm256⟩ : ∃ m, 256 * bs.length = m := ⟨_, rfl⟩
  have HM := Lib.hid hm256
  have hmn : IntKind.i64.wrap ((256 : Int) * (n : Nat)) = (m : Nat) := by rw [IntKind.wrap_i64]; omega
  obtain ⟨wt, hwt⟩ : ∃ wt : Nat, wt = 257 - T := ⟨_, rfl⟩
  have hws : IntKind.i64.wrap ((257 : Int) - (T : Nat)) = (wt : Nat) := by rw [IntKind.wrap_i64]; omega
  clear hx h64 hm256 hn
  go_enter Try.func3, Try.ntmps3
  go_wp2_with fail
  refine (new_any _).mono ?_; rintro e w1 ⟨B, rfl, hB, hT1, hg1⟩
  have H1 := Lib.hid (Wk.start hB hT1 hg1)
  clear hT1 hg1
  go_wp2
  go_loopw [6] (fun i wr => ∃ k : Nat, k ≤ 256 ∧ i = .int .i64 k ∧ ∃ M c, Wk w wr B M c ⟨List.replicate k bs, 0, []⟩) (fun i _ => 256 - (intOf i).toNat)
  case atStart => exact ⟨0, Nat.zero_le _, rfl, _, _, H1.out⟩
  case round =>
    obtain ⟨k, hk, rfl, M, c, hW⟩ := hrel
    by_cases hlt : k < 256
    · have hlt' : (k : Int) < 256 := by omega
      obtain ⟨a1, a2, a3⟩ := one_at k bs hb64 hlt
      obtain ⟨mk, hmk⟩ : ∃ mk, k * bs.length = mk := ⟨_, rfl⟩
      have hwm : IntKind.i64.wrap ((k : Int) * (n : Nat)) = (mk : Nat) := by
        have h1 : k * bs.length ≤ 256 * 64 := Nat.mul_le_mul (by omega) hb64
        have h2 : ((k : Int) * (n : Nat)) = (mk : Nat) := by rw [HN.out, ← hmk]; simp
        rw [h2, IntKind.wrap_i64]; omega
      have hwk : IntKind.i64.wrap ((k : Int) + 1) = ((k + 1 : Nat) : Int) := by rw [IntKind.wrap_i64]; omega
      have C := push_any _ B c ⟨List.replicate k bs, 0, []⟩ wr hW.ns (nb_rep k 0 bs (by omega) hb64) (fun k hk => (hW.mw k hk).2) xa n xcap bs HN.out (HX.out.keptNone hW.g)
      rw [a1, a2, a3, hmk] at C
      have HW := Lib.hid hW
      clear hW a1 a2 a3 hmk H1
      go_wp2_with fail
      refine C.mono ?_; rintro e w2 ⟨c2, rfl, hL⟩
      have H2 := Lib.hid (HW.out.step hL)
      clear hL C HW
      go_wp2_with fail
      refine (num_any _ _).mono ?_; rintro e w' ⟨rfl, rfl⟩
      go_wp2
      go_roundw
      case rel => exact ⟨k + 1, by omega, rfl, _, _, H2.out⟩
      case measure => simp [intOf]; omega
    · obtain rfl : k = 256 := by omega
      have C := push_any _ B c ⟨List.replicate 256 bs, 0, []⟩ wr hW.ns (nb_rep 256 0 bs (by omega) hb64) (fun k hk => (hW.mw k hk).2) xa n xcap bs HN.out (HX.out.keptNone hW.g)
      rw [rep_at_full 0 bs rfl, rep_no_full 0 bs rfl, rep_push_full 0 bs rfl] at C
      have HW := Lib.hid hW
      clear hW H1
      go_wp2_with fail
      refine C.mono ?_; rintro e w2 ⟨c2, rfl, hL⟩
      have H2 := Lib.hid (HW.out.step hL)
      clear hL C HW
      go_wp2
      go_loopw [11] (fun i wr => ∃ j : Nat, j ≤ T ∧ i = .int .i64 j ∧ ∃ M c, Wk w wr B M c ⟨List.replicate 256 bs, j, []⟩) (fun i _ => T - (intOf i).toNat)
      case atStart => exact ⟨0, Nat.zero_le _, rfl, _, _, H2.out⟩
      case round =>
        obtain ⟨j, hj, rfl, M, c, hW⟩ := hrel
        by_cases hlt : j < T
        · have hlt' : (j : Int) < (T : Nat) := by omega
          obtain ⟨a1, a2⟩ := take_rep j bs (by omega)
          have hwk : IntKind.i64.wrap ((j : Int) + 1) = ((j + 1 : Nat) : Int) := by rw [IntKind.wrap_i64]; omega
          have C := take_any _ B c ⟨List.replicate 256 bs, j, []⟩ wr hW.ns
          rw [a1, a2] at C
          have HW := Lib.hid hW
          clear hW a1 a2 H2
          go_wp2_with fail
          refine C.mono ?_; rintro e w3 ⟨c3, rfl, hL⟩
          have H3 := Lib.hid (HW.out.step hL)
          clear hL C HW
          go_wp2
          go_roundw
          case rel => exact ⟨j + 1, by omega, rfl, _, _, H3.out⟩
          case measure => simp [intOf]; omega
        · have hjT : j = T := by omega
          have hlt' : ¬ (j : Int) < (T : Nat) := by omega
          rw [hjT] at hW
          clear H2 hlt hjT
          by_cases hT0 : T = 0
          · have hT0' : ((T : Int) == 0) = true := by simp; omega
            have C := push_any _ B c (⟨List.replicate 256 bs, T, []⟩ : Nh) wr hW.ns (nb_rep 256 T bs (by omega) (by omega)) (fun k hk => (hW.mw k hk).2) xa n xcap bs HN.out (HX.out.keptNone hW.g)
            rw [show (⟨List.replicate 256 bs, T, []⟩ : Nh).pushAt bs = 0 from rep_at_full T bs (by omega), show (⟨List.replicate 256 bs, T, []⟩ : Nh).pushNo bs = 3 from rep_no_full T bs (by omega), show (⟨List.replicate 256 bs, T, []⟩ : Nh).push bs = ⟨List.replicate 256 bs, T, []⟩ from rep_push_full T bs (by omega)] at C
            have HW := Lib.hid hW
            clear hW
            go_wp2_with fail
            refine C.mono ?_; rintro e w5 ⟨c5, rfl, hL⟩
            have H5 := Lib.hid (HW.out.step hL)
            clear hL C HW
            go_wp2_with fail
            refine (num_any _ _).mono ?_; rintro e w' ⟨rfl, rfl⟩
            go_wp2_with fail
            refine (num_any _ _).mono ?_; rintro e w' ⟨rfl, rfl⟩
            go_wp2_with fail
            refine (waits_ns _ B c5 ⟨List.replicate 256 bs, T, []⟩ 256 _ (by show _ = (List.drop T (List.replicate 256 bs)).length; rw [List.length_drop, List.length_replicate]; omega) H5.out.ns).mono ?_; rintro e w' ⟨rfl, rfl⟩
            go_wp2_with fail
            refine (works_any _).mono ?_; rintro e w6 ⟨rfl, hg6⟩
            have HG := Lib.hid (H5.out.g.trans hg6)
            clear hg6
            go_wp2
            go_ret
            exact ⟨rfl, HG.out⟩
          · have hT0' : ((T : Int) == 0) = false := by simp; omega
            have C := push_any _ B c (⟨List.replicate 256 bs, T, []⟩ : Nh) wr hW.ns (nb_rep 256 T bs (by omega) (by omega)) (fun k hk => (hW.mw k hk).2) xa n xcap bs HN.out (HX.out.keptNone hW.g)
            rw [show (⟨List.replicate 256 bs, T, []⟩ : Nh).pushAt bs = m from ((rep_at T bs (by omega) (by omega)).trans HM.out), show (⟨List.replicate 256 bs, T, []⟩ : Nh).pushNo bs = 0 from rep_no T bs (by omega) (by omega), show (⟨List.replicate 256 bs, T, []⟩ : Nh).push bs = ⟨List.replicate 257 bs, T, []⟩ from rep_push T bs (by omega) (by omega)] at C
            have HW := Lib.hid hW
            clear hW
            go_wp2_with fail
            refine C.mono ?_; rintro e w5 ⟨c5, rfl, hL⟩
            have H5 := Lib.hid (HW.out.step hL)
            clear hL C HW
            go_wp2_with fail
            refine (num_any _ _).mono ?_; rintro e w' ⟨rfl, rfl⟩
            go_wp2_with fail
            refine (num_any _ _).mono ?_; rintro e w' ⟨rfl, rfl⟩
            go_wp2_with fail
            refine (waits_ns _ B c5 ⟨List.replicate 257 bs, T, []⟩ wt _ (by show _ = (List.drop T (List.replicate 257 bs)).length; rw [List.length_drop, List.length_replicate]; omega) H5.out.ns).mono ?_; rintro e w' ⟨rfl, rfl⟩
            go_wp2_with fail
            refine (works_any _).mono ?_; rintro e w6 ⟨rfl, hg6⟩
            have HG := Lib.hid (H5.out.g.trans hg6)
            clear hg6
            go_wp2
            go_ret
            exact ⟨rfl, HG.out⟩
end Go.Proofs.Ytnglbneefkdfgaa
