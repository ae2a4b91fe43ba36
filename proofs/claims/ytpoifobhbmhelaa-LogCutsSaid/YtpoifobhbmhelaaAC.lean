/- ref.Decode. -/
import Derived.Test.YtpoifobhbmhelaaAB
set_option linter.unusedVariables false
set_option linter.unusedSimpArgs false
namespace Go.Proofs.Ytpoifobhbmhelaa
open Go.RowKit
theorem three31 (w : World) : (((w.alloc (.cells lz.toArray 31)).alloc (.cells lz.toArray 31)).alloc (.cells #[.int .i64 0, .int .i64 0, .int .i64 0] 75)).heap[w.heap.size]? = some (.cells lz.toArray 31 (0, 0)) ∧ (((w.alloc (.cells lz.toArray 31)).alloc (.cells lz.toArray 31)).alloc (.cells #[.int .i64 0, .int .i64 0, .int .i64 0] 75)).heap[w.heap.size + 1]? = some (.cells lz.toArray 31 (0, 0)) ∧ (((w.alloc (.cells lz.toArray 31)).alloc (.cells lz.toArray 31)).alloc (.cells #[.int .i64 0, .int .i64 0, .int .i64 0] 75)).heap[w.heap.size + 1 + 1]? = some (.cells #[.int .i64 0, .int .i64 0, .int .i64 0] 75 (0, 0)) ∧ w.grownBy (((w.alloc (.cells lz.toArray 31)).alloc (.cells lz.toArray 31)).alloc (.cells #[.int .i64 0, .int .i64 0, .int .i64 0] 75)) none := by
  obtain ⟨h1, h2, h3⟩ := two_new3 w (.cells lz.toArray 31) (.cells lz.toArray 31) (.cells #[.int .i64 0, .int .i64 0, .int .i64 0] 75)
  exact ⟨h1, h2, h3, ((World.grownBy_alloc w _ none).trans (World.grownBy_alloc _ _ none)).trans (World.grownBy_alloc _ _ none)⟩
theorem mag_no {b : List UInt8} (h : b ≠ magic) : (b == [80, 77, 68, 82]) = false := beq_eq_false_iff_ne.2 h
theorem mag_yes {b : List UInt8} (h : b = magic) : (b == [80, 77, 68, 82]) = true := beq_iff_eq.2 h
set_option maxRecDepth 100000 in
set_option maxHeartbeats 16000000 in
theorem rdec_short (x : Option Addr) (cap : Nat) (b : List UInt8) (w : World) (hs : Go.Proofs.Ytpoifobhbmhelaa.Src w x b) (hcap : b.length ≤ cap) (hl : b.length ≤ 900000) (h4 : b.length < 4) : Calls Try.prog 16 #[.slice x b.length cap] w fun e w' => DecDo w (decL b) e w' := by
  obtain ⟨H1, H2, H3, H4⟩ := three31 w
  have HB1 := Lib.hid H1
  have HB2 := Lib.hid H2
  have HB3 := Lib.hid H3
  have HG := Lib.hid H4
  have HS := Lib.hid hs
  have HCAP := Lib.hid hcap
  obtain ⟨n, hn⟩ : ∃ n, n = b.length := ⟨_, rfl⟩
  have HN := Lib.hid hn
  rw [← hn] at hl ⊢
  obtain ⟨D, hD⟩ : ∃ D, D = decL b := ⟨_, rfl⟩
  have HD := Lib.hid hD
  rw [← hD]
  clear H1 H2 H3 H4 hs hcap hD
  have HNO := Lib.hid (show D = (.zero, 0, 261) from HD.out.trans (decL_nm (fun h => by have h2 := congrArg List.length h; simp [magic] at h2; omega)))
  have h4' : (n : Int) < 4 := by omega
  clear h4 hn
  go_enter Try.func16, Try.ntmps16
  go_wp2_with (with_reducible refine hold_st 31 _ _ rfl ?_)
  apply Lib.hid
  with_reducible refine wpList_store_all rfl 31 _ _ rfl _ ?cs5001 ?hx5001 ?hy5001 _ _ HB1.out ?hf5001 _ ?hl5001 Try.size31 ?h15001 ?_
  case hy5001 => exact rfl
  case hx5001 => exact rfl
  case hf5001 => exact rfl
  case hl5001 => exact rfl
  case h15001 => simp [allOne, Value.oneCell']
  intro u9 hb9 hg9
  have HB9 := Lib.hid hb9
  have HG9 := Lib.hid (grown_new HG.out hg9 (Nat.le_refl _))
  clear hb9 hg9
  go_wp2
  refine bodyPost_ret (results_c31 rfl _ _ _ _ (by rfl) (by rfl) HB9.out) (by rfl) ?_
  exact DecDo.fail HNO.out HG9.out
set_option maxRecDepth 100000 in
set_option maxHeartbeats 16000000 in
theorem rdec_nomag (x : Option Addr) (cap : Nat) (b : List UInt8) (w : World) (hs : Go.Proofs.Ytpoifobhbmhelaa.Src w x b) (hcap : b.length ≤ cap) (hl : b.length ≤ 900000) (h4 : ¬ b.length < 4) (hm : b.take 4 ≠ magic) : Calls Try.prog 16 #[.slice x b.length cap] w fun e w' => DecDo w (decL b) e w' := by
  obtain ⟨H1, H2, H3, H4⟩ := three31 w
  have HB1 := Lib.hid H1
  have HB2 := Lib.hid H2
  have HB3 := Lib.hid H3
  have HG := Lib.hid H4
  have HS := Lib.hid hs
  have HCAP := Lib.hid hcap
  obtain ⟨n, hn⟩ : ∃ n, n = b.length := ⟨_, rfl⟩
  have HN := Lib.hid hn
  rw [← hn] at hl ⊢
  obtain ⟨D, hD⟩ : ∃ D, D = decL b := ⟨_, rfl⟩
  have HD := Lib.hid hD
  rw [← hD]
  clear H1 H2 H3 H4 hs hcap hD
  have HNO := Lib.hid (show D = (.zero, 0, 261) from HD.out.trans (decL_nm hm))
  have h4' : ¬ (n : Int) < 4 := by omega
  have hc4 : 4 ≤ cap := by have := HCAP.out; omega
  have q1 := conv_srcn (c := cap) (n := 4) (l := b.take 4) (by rw [List.length_take]; omega) (src_take (HS.out.keptNone HG.out) 4)
  have q2 := mag_no hm
  clear h4 hn hm
  go_enter Try.func16, Try.ntmps16
  go_wp2_with (with_reducible refine hold_st 31 _ _ rfl ?_)
  apply Lib.hid
  with_reducible refine wpList_store_all rfl 31 _ _ rfl _ ?cs5002 ?hx5002 ?hy5002 _ _ HB1.out ?hf5002 _ ?hl5002 Try.size31 ?h15002 ?_
  case hy5002 => exact rfl
  case hx5002 => exact rfl
  case hf5002 => exact rfl
  case hl5002 => exact rfl
  case h15002 => simp [allOne, Value.oneCell']
  intro u9 hb9 hg9
  have HB9 := Lib.hid hb9
  have HG9 := Lib.hid (grown_new HG.out hg9 (Nat.le_refl _))
  clear hb9 hg9
  go_wp2
  refine bodyPost_ret (results_c31 rfl _ _ _ _ (by rfl) (by rfl) HB9.out) (by rfl) ?_
  exact DecDo.fail HNO.out HG9.out
set_option maxRecDepth 100000 in
set_option maxHeartbeats 16000000 in
theorem rdec_mag (x : Option Addr) (cap : Nat) (b : List UInt8) (w : World) (hs : Go.Proofs.Ytpoifobhbmhelaa.Src w x b) (hcap : b.length ≤ cap) (hl : b.length ≤ 900000) (h4 : ¬ b.length < 4) (hm : b.take 4 = magic) : Calls Try.prog 16 #[.slice x b.length cap] w fun e w' => DecDo w (decL b) e w' := by
  obtain ⟨H1, H2, H3, H4⟩ := three31 w
  have HB1 := Lib.hid H1
  have HB2 := Lib.hid H2
  have HB3 := Lib.hid H3
  have HG := Lib.hid H4
  have HS := Lib.hid hs
  have HCAP := Lib.hid hcap
  obtain ⟨n, hn⟩ : ∃ n, n = b.length := ⟨_, rfl⟩
  have HN := Lib.hid hn
  rw [← hn] at hl ⊢
  obtain ⟨D, hD⟩ : ∃ D, D = decL b := ⟨_, rfl⟩
  have HD := Lib.hid hD
  rw [← hD]
  clear H1 H2 H3 H4 hs hcap hD
  have h4' : ¬ (n : Int) < 4 := by omega
  have hc4 : 4 ≤ cap := by have := HCAP.out; omega
  have q1 := conv_srcn (c := cap) (n := 4) (l := b.take 4) (by rw [List.length_take]; omega) (src_take (HS.out.keptNone HG.out) 4)
  have q2 := mag_yes hm
  have HM := Lib.hid hm
  have HN4 := Lib.hid (show 4 ≤ b.length from by omega)
  clear h4 hn hm
  go_enter Try.func16, Try.ntmps16
  go_wp2
  obtain ⟨W3, hW3⟩ : ∃ W3, W3 = (((w.alloc (.cells lz.toArray 31)).alloc (.cells lz.toArray 31)).alloc (.cells #[.int .i64 0, .int .i64 0, .int .i64 0] 75)) := ⟨_, rfl⟩
  rw [← hW3] at HB1 HB2 HB3 HG q1 ⊢
  clear hW3 q1 q2
  go_loopw [7, 8] (fun at_ i wr => ∃ (k p y0 y1 y2 : Nat), k ≤ 3 ∧ i = .int .i64 k ∧ at_ = .int .i64 p ∧ HdS b k p y0 y1 y2 ∧ wr.heap[w.heap.size]? = some (.cells lz.toArray 31 (0, 0)) ∧ wr.heap[w.heap.size + 1]? = some (.cells lz.toArray 31 (0, 0)) ∧ wr.heap[w.heap.size + 1 + 1]? = some (.cells #[.int .i64 y0, .int .i64 y1, .int .i64 y2] 75 (0, 0)) ∧ w.grownBy wr none) (fun _ i _ => 3 - (intOf i).toNat)
  case atStart => exact ⟨0, 4, 0, 0, 0, by omega, rfl, rfl, ⟨rfl, rfl, rfl, rfl, HN4.out⟩, HB1.out, HB2.out, HB3.out, HG.out⟩
  case round =>
    obtain ⟨k, p, y0, y1, y2, hk, rfl, rfl, hst, hb1, hb2, hb3, hgr⟩ := hrel
    have HST := Lib.hid hst
    have HR1 := Lib.hid hb1
    have HR2 := Lib.hid hb2
    have HR3 := Lib.hid hb3
    have HGR := Lib.hid hgr
    clear hst hb1 hb2 hb3 hgr
    by_cases hk3 : k < 3
    · have hk3' : (k : Int) < 3 := by omega
      have HSR := Lib.hid (HS.out.keptNone HGR.out)
      have C1 := rtake_any x cap b p wr HSR.out HST.out.le (by have := HN.out; omega)
      rw [← HN.out] at C1
      have l0 := cells_all HR2.out 0
      have l1 := cells_all HR2.out 1
      have l2 := cells_all HR2.out 2
      have l3 := cells_all HR2.out 3
      have l4 := cells_all HR2.out 4
      have l5 := cells_all HR2.out 5
      cases ht : take (b.drop p) with
      | no =>
        rw [ht] at C1
        unfold tkRes at C1
        simp only at C1
        have HNO := Lib.hid (show D = (.zero, 0, 261) from HD.out.trans (hd_fail HST.out hk3 (fun n r e => by rw [ht] at e; cases e)))
        clear ht hk3
        go_wp2_with fail
        refine C1.mono ?_; rintro e w2 ⟨rfl, rfl⟩
        clear C1
        go_wp2_with (with_reducible refine hold_st 31 _ _ rfl ?_)
        apply Lib.hid
        with_reducible refine wpList_store_all rfl 31 _ _ rfl _ ?cs5003 ?hx5003 ?hy5003 _ _ HR1.out ?hf5003 _ ?hl5003 Try.size31 ?h15003 ?_
        case hy5003 => exact rfl
        case hx5003 => exact rfl
        case hf5003 => exact rfl
        case hl5003 => exact rfl
        case h15003 => simp [allOne, Value.oneCell']
        intro u9 hb9 hg9
        have HB9 := Lib.hid hb9
        have HG9 := Lib.hid (grown_new HGR.out hg9 (Nat.le_refl _))
        clear hb9 hg9
        go_wp2
        refine bodyPost_ret (results_c31 rfl _ _ _ _ (by rfl) (by rfl) HB9.out) (by rfl) ?_
        exact DecDo.fail HNO.out HG9.out
      | soon =>
        rw [ht] at C1
        unfold tkRes at C1
        simp only at C1
        have HNO := Lib.hid (show D = (.zero, 0, 261) from HD.out.trans (hd_fail HST.out hk3 (fun n r e => by rw [ht] at e; cases e)))
        clear ht hk3
        go_wp2_with fail
        refine C1.mono ?_; rintro e w2 ⟨rfl, rfl⟩
        clear C1
        go_wp2_with (with_reducible refine hold_st 31 _ _ rfl ?_)
        apply Lib.hid
        with_reducible refine wpList_store_all rfl 31 _ _ rfl _ ?cs5004 ?hx5004 ?hy5004 _ _ HR1.out ?hf5004 _ ?hl5004 Try.size31 ?h15004 ?_
        case hy5004 => exact rfl
        case hx5004 => exact rfl
        case hf5004 => exact rfl
        case hl5004 => exact rfl
        case h15004 => simp [allOne, Value.oneCell']
        intro u9 hb9 hg9
        have HB9 := Lib.hid hb9
        have HG9 := Lib.hid (grown_new HGR.out hg9 (Nat.le_refl _))
        clear hb9 hg9
        go_wp2
        refine bodyPost_ret (results_c31 rfl _ _ _ _ (by rfl) (by rfl) HB9.out) (by rfl) ?_
        exact DecDo.fail HNO.out HG9.out
      | num y rs =>
        rw [ht] at C1
        unfold tkRes at C1
        simp only at C1
        have hrl : rs.length < n - p := by have h := take_lt ht; rw [List.length_drop, ← HN.out] at h; exact h
        obtain ⟨q, hq⟩ : ∃ q, q = n - rs.length := ⟨_, rfl⟩
        rw [← hq] at C1
        have hq0 : ¬ (q : Int) ≤ 0 := by omega
        by_cases hy : y ≤ 65536
        · have hy1 : ¬ (65536 : Int) < (y : Nat) := by omega
          have HQ := Lib.hid hq
          have HY := Lib.hid hy
          have HT := Lib.hid ht
          have hwk : IntKind.i64.wrap ((k : Int) + 1) = ((k + 1 : Nat) : Int) := by rw [IntKind.wrap_i64]; omega
          clear ht hrl hq hy hk
          have hc3 : k = 0 ∨ k = 1 ∨ k = 2 := by omega
          clear hk3
          rcases hc3 with rfl | rfl | rfl
          · have a0 := cells_all HR3.out 0
            have a1 := frozen_all HR3.out 0
            have gs := grown_setCell wr (w.heap.size + 1 + 1) 0 (.int .i64 (y : Nat))
            have HA := Lib.hid (heap_setCell_at (j := 0) (.int .i64 (y : Nat)) HR3.out)
            have HG2 := Lib.hid (grown_new HGR.out gs (by omega))
            have HQ1 := Lib.hid ((gs.block _ (lt_of_block HR1.out) (by simp <;> omega)).trans HR1.out)
            have HQ2 := Lib.hid ((gs.block _ (lt_of_block HR2.out) (by simp <;> omega)).trans HR2.out)
            have HST2 := Lib.hid (show HdS b 1 q y y1 y2 from by have h := hd_0 HST.out HT.out HY.out; rw [← HN.out, ← HQ.out] at h; exact h)
            clear gs hwk
            go_wp2_with fail
            refine C1.mono ?_; rintro e w2 ⟨rfl, rfl⟩
            clear C1
            go_wp2
            go_roundw
            case rel => exact ⟨1, q, y, y1, y2, by omega, rfl, rfl, HST2.out, HQ1.out, HQ2.out, HA.out, HG2.out⟩
            case measure => simp [intOf]
          · have a0 := cells_all HR3.out 1
            have a1 := frozen_all HR3.out 1
            have gs := grown_setCell wr (w.heap.size + 1 + 1) 1 (.int .i64 (y : Nat))
            have HA := Lib.hid (heap_setCell_at (j := 1) (.int .i64 (y : Nat)) HR3.out)
            have HG2 := Lib.hid (grown_new HGR.out gs (by omega))
            have HQ1 := Lib.hid ((gs.block _ (lt_of_block HR1.out) (by simp <;> omega)).trans HR1.out)
            have HQ2 := Lib.hid ((gs.block _ (lt_of_block HR2.out) (by simp <;> omega)).trans HR2.out)
            have HST2 := Lib.hid (show HdS b 2 q y0 y y2 from by have h := hd_1 HST.out HT.out HY.out; rw [← HN.out, ← HQ.out] at h; exact h)
            clear gs hwk
            go_wp2_with fail
            refine C1.mono ?_; rintro e w2 ⟨rfl, rfl⟩
            clear C1
            go_wp2
            go_roundw
            case rel => exact ⟨2, q, y0, y, y2, by omega, rfl, rfl, HST2.out, HQ1.out, HQ2.out, HA.out, HG2.out⟩
            case measure => simp [intOf]
          · have a0 := cells_all HR3.out 2
            have a1 := frozen_all HR3.out 2
            have gs := grown_setCell wr (w.heap.size + 1 + 1) 2 (.int .i64 (y : Nat))
            have HA := Lib.hid (heap_setCell_at (j := 2) (.int .i64 (y : Nat)) HR3.out)
            have HG2 := Lib.hid (grown_new HGR.out gs (by omega))
            have HQ1 := Lib.hid ((gs.block _ (lt_of_block HR1.out) (by simp <;> omega)).trans HR1.out)
            have HQ2 := Lib.hid ((gs.block _ (lt_of_block HR2.out) (by simp <;> omega)).trans HR2.out)
            have HST2 := Lib.hid (show HdS b 3 q y0 y1 y from by have h := hd_2 HST.out HT.out HY.out; rw [← HN.out, ← HQ.out] at h; exact h)
            clear gs hwk
            go_wp2_with fail
            refine C1.mono ?_; rintro e w2 ⟨rfl, rfl⟩
            clear C1
            go_wp2
            go_roundw
            case rel => exact ⟨3, q, y0, y1, y, by omega, rfl, rfl, HST2.out, HQ1.out, HQ2.out, HA.out, HG2.out⟩
            case measure => simp [intOf]
        · have hy1 : (65536 : Int) < (y : Nat) := by omega
          have HNO := Lib.hid (show D = (.zero, 0, 261) from HD.out.trans (hd_big HST.out hk3 ht hy))
          clear ht hk3 hrl hq hy
          go_wp2_with fail
          refine C1.mono ?_; rintro e w2 ⟨rfl, rfl⟩
          clear C1
          go_wp2_with (with_reducible refine hold_st 31 _ _ rfl ?_)
          apply Lib.hid
          with_reducible refine wpList_store_all rfl 31 _ _ rfl _ ?cs5005 ?hx5005 ?hy5005 _ _ HR1.out ?hf5005 _ ?hl5005 Try.size31 ?h15005 ?_
          case hy5005 => exact rfl
          case hx5005 => exact rfl
          case hf5005 => exact rfl
          case hl5005 => exact rfl
          case h15005 => simp [allOne, Value.oneCell']
          intro u9 hb9 hg9
          have HB9 := Lib.hid hb9
          have HG9 := Lib.hid (grown_new HGR.out hg9 (Nat.le_refl _))
          clear hb9 hg9
          go_wp2
          refine bodyPost_ret (results_c31 rfl _ _ _ _ (by rfl) (by rfl) HB9.out) (by rfl) ?_
          exact DecDo.fail HNO.out HG9.out
    · obtain rfl : k = 3 := by omega
      obtain ⟨u, v, x3, t1, t2, t3, hd3, hp3, hy0, hy1, hy2⟩ := HST.out
      have HT1 := Lib.hid t1
      have HT2 := Lib.hid t2
      have HT3 := Lib.hid t3
      have HD3 := Lib.hid hd3
      have HP3 := Lib.hid hp3
      obtain ⟨pp3, hpp3⟩ : ∃ pp3, pp3 = p := ⟨_, rfl⟩
      rw [← hpp3] at HD3 HP3 ⊢
      clear t1 t2 t3 hd3 HST hk3 hp3 hpp3
      go_wp2
      refine regx_open (fun k => k = w.heap.size + 1) (n := 11) rfl (by kernel_rfl) ?_
      refine regx_take 0 (some 47) (v := ?_) rfl rfl (by kernel_rfl) (by kernel_rfl) (by kernel_rfl) (fun _ _ _ h => h) (by rfl) ?_ ?_
      rotate_left
      · intro W hW; go_simp; first | done | with_reducible rfl
      try simp only [Act.put, List.setIfInBounds_toArray, List.set_cons_zero, List.set_cons_succ]
      refine regx_take 1 (some 48) (v := ?_) rfl rfl (by kernel_rfl) (by kernel_rfl) (by kernel_rfl) (fun _ _ _ h => h) (by rfl) ?_ ?_
      rotate_left
      · intro W hW; have k := keeps_cell hW (show wr.drew.cell? ⟨w.heap.size + 1 + 1, 0, none⟩ = some (.int .i64 (y0 : Nat)) from cells_all HR3.out 0) (by simp); go_simp; first | done | with_reducible rfl
      try simp only [Act.put, List.setIfInBounds_toArray, List.set_cons_zero, List.set_cons_succ]
      refine regx_take 2 (some 49) (v := ?_) rfl rfl (by kernel_rfl) (by kernel_rfl) (by kernel_rfl) (fun _ _ _ h => h) (by rfl) ?_ ?_
      rotate_left
      · intro W hW; go_simp; first | done | with_reducible rfl
      try simp only [Act.put, List.setIfInBounds_toArray, List.set_cons_zero, List.set_cons_succ]
      refine regx_take 3 (some 50) (v := ?_) rfl rfl (by kernel_rfl) (by kernel_rfl) (by kernel_rfl) (fun _ _ _ h => h) (by rfl) ?_ ?_
      rotate_left
      · intro W hW; have k := keeps_cell hW (show wr.drew.cell? ⟨w.heap.size + 1 + 1, 1, none⟩ = some (.int .i64 (y1 : Nat)) from cells_all HR3.out 1) (by simp); go_simp; first | done | with_reducible rfl
      try simp only [Act.put, List.setIfInBounds_toArray, List.set_cons_zero, List.set_cons_succ]
      refine regx_take 4 (some 51) (v := ?_) rfl rfl (by kernel_rfl) (by kernel_rfl) (by kernel_rfl) (fun _ _ _ h => h) (by rfl) ?_ ?_
      rotate_left
      · intro W hW; go_simp; first | done | with_reducible rfl
      try simp only [Act.put, List.setIfInBounds_toArray, List.set_cons_zero, List.set_cons_succ]
      refine regx_take 5 (some 52) (v := ?_) rfl rfl (by kernel_rfl) (by kernel_rfl) (by kernel_rfl) (fun _ _ _ h => h) (by rfl) ?_ ?_
      rotate_left
      · intro W hW; go_simp; first | done | with_reducible rfl
      try simp only [Act.put, List.setIfInBounds_toArray, List.set_cons_zero, List.set_cons_succ]
      refine regx_take 6 (some 53) (v := ?_) rfl rfl (by kernel_rfl) (by kernel_rfl) (by kernel_rfl) (fun _ _ _ h => h) (by rfl) ?_ ?_
      rotate_left
      · intro W hW; have k := keeps_cell hW (show wr.drew.cell? ⟨w.heap.size + 1 + 1, 2, none⟩ = some (.int .i64 (y2 : Nat)) from cells_all HR3.out 2) (by simp); go_simp; first | done | with_reducible rfl
      try simp only [Act.put, List.setIfInBounds_toArray, List.set_cons_zero, List.set_cons_succ]
      refine regx_take 7 (some 54) (v := ?_) rfl rfl (by kernel_rfl) (by kernel_rfl) (by kernel_rfl) (fun _ _ _ h => h) (by rfl) ?_ ?_
      rotate_left
      · intro W hW; go_simp; first | done | with_reducible rfl
      try simp only [Act.put, List.setIfInBounds_toArray, List.set_cons_zero, List.set_cons_succ]
      refine wpAnyH_ready (rs := [8]) (by kernel_rfl) (by simp) ?_
      refine (AllReadyH.cons (o := { dst := none, op := Op.store 28 (Operand.tmp 54) (Operand.tmp 51), type := 0, pos := "ref.go:146", after := #[{ on := 7, ground := Ground.data }, { on := 4, ground := Ground.data }, { on := 0, ground := Ground.phase }, { on := 1, ground := Ground.phase }, { on := 2, ground := Ground.phase }, { on := 3, ground := Ground.phase }, { on := 4, ground := Ground.phase }, { on := 5, ground := Ground.textOnly Departure.lateStores }, { on := 6, ground := Ground.textOnly Departure.lateStores }], guard := none }) rfl (fun K hK => ?_) AllReadyH.nil)
      refine wp_store_blk 28 _ _ rfl (w.heap.size + 1) 0 ?csu10 ?hxu10 ?hyu10 lz 31 ?hzu10 ?hfu10 2 ?hnu10 Try.size28 ?h1u10 ?_
      case hyu10 => exact rfl
      case hxu10 => exact rfl
      case hzu10 => exact HR2.out
      case hfu10 => exact rfl
      case hnu10 => exact rfl
      case h1u10 => simp [allOne, Value.oneCell']
      intro v1 hb1 h1
      have HV1 : v1.heap[w.heap.size + 1]? = some (.cells #[.int .i64 (y0 : Nat), .int .i64 (y1 : Nat), .int .i64 0, .slice none 0 0, .bool false, .int .i64 0] 31 (0, 0)) := hb1
      refine regx_next hK (Keeps.row h1 rfl) ?_
      clear hK K
      try simp only [Act.put]
      refine regx_take 9 (some 55) (v := ?_) rfl rfl (by kernel_rfl) (by kernel_rfl) (by kernel_rfl) (fun _ _ _ h => h) (by rfl) ?_ ?_
      rotate_left
      · intro W hW; go_simp; first | done | with_reducible rfl
      try simp only [Act.put, List.setIfInBounds_toArray, List.set_cons_zero, List.set_cons_succ]
      refine wpAnyH_ready (rs := [10]) (by kernel_rfl) (by simp) ?_
      refine (AllReadyH.cons (o := { dst := none, op := Op.store 3 (Operand.tmp 55) (Operand.tmp 53), type := 0, pos := "ref.go:146", after := #[{ on := 9, ground := Ground.data }, { on := 6, ground := Ground.data }, { on := 8, ground := Ground.chain }, { on := 0, ground := Ground.phase }, { on := 1, ground := Ground.phase }, { on := 2, ground := Ground.phase }, { on := 3, ground := Ground.phase }, { on := 4, ground := Ground.phase }, { on := 5, ground := Ground.phase }, { on := 6, ground := Ground.phase }, { on := 7, ground := Ground.phase }, { on := 8, ground := Ground.phase }], guard := none }) rfl (fun K hK => ?_) AllReadyH.nil)
      have j0 := cells_all HV1 2
      have j1 := frozen_all HV1 2
      have HV2 := Lib.hid (heap_setCell_at (j := 2) (.int .i64 (y2 : Nat)) HV1)
      have gs := grown_setCell v1 (w.heap.size + 1) 2 (.int .i64 (y2 : Nat))
      go_simp
      refine regx_next hK (Keeps.row gs rfl) ?_
      clear hK K
      try simp only [Act.put]
      refine wpAnyH_done (by kernel_rfl) ?_ _
      have gs2 := (drewl h1).trans gs
      have HL2 := Lib.hid HV2.out
      have HL1 := Lib.hid ((gs2.block _ (lt_of_block HR1.out) (by simp)).trans HR1.out)
      have HGL := Lib.hid (grown_new HGR.out gs2 (Nat.le_succ _))
      obtain ⟨V2, hV2⟩ : ∃ V2, V2 = (v1.setCell ⟨w.heap.size + 1, 2, none⟩ (.int .i64 (y2 : Nat))) := ⟨_, rfl⟩
      rw [← hV2] at HL1 HL2 HGL ⊢
      clear hV2 gs2 gs h1 hb1 HV1 HV2 j0 j1
      have l0 := cells_all HL2.out 0
      have l1 := cells_all HL2.out 1
      have l2 := cells_all HL2.out 2
      by_cases hHd : Hd (y0 : Nat) (y1 : Nat) (y2 : Nat)
      · have HDD := Lib.hid (HD.out.trans (decL_ok HM.out HT1.out HT2.out HT3.out hHd))
        obtain ⟨DR, hDR⟩ : ∃ DR, DR = decR 0 ⟨(y0 : Nat), (y1 : Nat), (y2 : Nat), [], false, 0⟩ x3 := ⟨_, rfl⟩
        rw [← hDR] at HDD
        have HDR := Lib.hid (show decR 0 ⟨(y0 : Nat), (y1 : Nat), (y2 : Nat), rsOf [], false, 0⟩ (b.drop pp3) = DR from by rw [HD3.out, hDR]; rfl)
        have C3 := Lib.hid (head_yes (y0 : Nat) (y1 : Nat) (y2 : Nat) hHd V2)
        clear hDR hHd
        go_wp2_with fail
        refine C3.out.mono ?_; rintro e w2 ⟨rfl, hw2⟩
        have HL1 := Lib.hid (keep_blk hw2 HL1.out)
        have HL2 := Lib.hid (keep_blk hw2 HL2.out)
        have HGL := Lib.hid (HGL.out.trans hw2)
        clear hw2 l0 l1 l2
        go_wp2
        go_loopw [7, 11] (fun at_ last wr => ∃ (p : Nat) (z : Int) (lf ls lm : Int) (lwh : Bool) (le : Int) (ra : Option Addr) (rc : Nat) (ts : List Rv), at_ = .int .i64 p ∧ last = .int .i64 z ∧ p ≤ n ∧ (0 ≤ z ∧ z ≤ 4611686018427387904) ∧ Made w wr (.slice ra ts.length rc) ts ∧ wr.heap[w.heap.size]? = some (.cells lz.toArray 31 (0, 0)) ∧ wr.heap[w.heap.size + 1]? = some (.cells #[.int .i64 lf, .int .i64 ls, .int .i64 lm, .slice ra ts.length rc, .bool lwh, .int .i64 le] 31 (0, 0)) ∧ decR z ⟨lf, ls, lm, rsOf ts, lwh, le⟩ (b.drop p) = DR ∧ w.grownBy wr none ∧ ts.length ≤ p) (fun at_ _ _ => n - (intOf at_).toNat)
        case atStart => exact ⟨pp3, 0, (y0 : Nat), (y1 : Nat), (y2 : Nat), false, 0, none, 0, [], rfl, rfl, by have h := HP3.out; have h2 := HN.out; omega, by omega, Made.nil _ _, HL1.out, HL2.out, HDR.out, HGL.out, Nat.zero_le _⟩
        case round =>
          obtain ⟨p, z, lf, ls, lm, lwh, le, ra, rc, ts, rfl, rfl, hp, hz, hmd, hb1, hb2, hdr, hgr, hts⟩ := hrel
          have HMD := Lib.hid hmd
          have HR1 := Lib.hid hb1
          have HDR2 := Lib.hid hdr
          have HGR := Lib.hid hgr
          have HZ := Lib.hid hz
          have HTS := Lib.hid hts
          obtain ⟨rn, hrn⟩ : ∃ rn, rn = ts.length := ⟨_, rfl⟩
          have HRN := Lib.hid hrn
          rw [← hrn] at hb2
          have HR2 := Lib.hid hb2
          have l0 := cells_all hb2 0
          have l1 := cells_all hb2 1
          have l2 := cells_all hb2 2
          have l3 := cells_all hb2 3
          have l4 := cells_all hb2 4
          have l5 := cells_all hb2 5
          clear hmd hb1 hb2 hdr hgr hz hts hrn
          by_cases hlt : p < n
          · have hlt' : (p : Int) < (n : Nat) := by omega
            have HSR := Lib.hid (HS.out.keptNone HGR.out)
            have C1 := rtake_any x cap b p wr HSR.out (by have := HN.out; omega) (by have := HN.out; omega)
            rw [← HN.out] at C1
            have hne : b.drop p ≠ [] := fun h => by have h2 := congrArg List.length h; rw [List.length_drop, ← HN.out] at h2; simp at h2; omega
            have HNE := Lib.hid hne
            clear hne
            cases lwh with
            | true =>
              obtain ⟨pv, qv, hres⟩ := tk_res n (take (b.drop p))
              rw [hres] at C1
              have HNO := Lib.hid (show D = (.zero, 0, 260) from by rw [HDD.out, ← HDR2.out, decR_wh HNE.out rfl]; rfl)
              clear hres
              go_wp2_with fail
              refine C1.mono ?_; rintro e w2 ⟨rfl, rfl⟩
              clear C1
              go_wp2_with (with_reducible refine hold_st 31 _ _ rfl ?_)
              apply Lib.hid
              with_reducible refine wpList_store_all rfl 31 _ _ rfl _ ?cs5006 ?hx5006 ?hy5006 _ _ HR1.out ?hf5006 _ ?hl5006 Try.size31 ?h15006 ?_
              case hy5006 => exact rfl
              case hx5006 => exact rfl
              case hf5006 => exact rfl
              case hl5006 => exact rfl
              case h15006 => simp [allOne, Value.oneCell']
              intro u9 hb9 hg9
              have HB9 := Lib.hid hb9
              have HG9 := Lib.hid (grown_new HGR.out hg9 (Nat.le_refl _))
              clear hb9 hg9
              go_wp2
              refine bodyPost_ret (results_c31 rfl _ _ _ _ (by rfl) (by rfl) HB9.out) (by rfl) ?_
              exact DecDo.fail HNO.out HG9.out
            | false =>
              cases ht : take (b.drop p) with
              | no =>
                rw [ht] at C1
                unfold tkRes at C1
                simp only at C1
                have HNO := Lib.hid (show D = (.zero, 0, 260) from by rw [HDD.out, ← HDR2.out, decR_no HNE.out ht]; rfl)
                clear ht
                go_wp2_with fail
                refine C1.mono ?_; rintro e w2 ⟨rfl, rfl⟩
                clear C1
                go_wp2_with (with_reducible refine hold_st 31 _ _ rfl ?_)
                apply Lib.hid
                with_reducible refine wpList_store_all rfl 31 _ _ rfl _ ?cs5007 ?hx5007 ?hy5007 _ _ HR1.out ?hf5007 _ ?hl5007 Try.size31 ?h15007 ?_
                case hy5007 => exact rfl
                case hx5007 => exact rfl
                case hf5007 => exact rfl
                case hl5007 => exact rfl
                case h15007 => simp [allOne, Value.oneCell']
                intro u9 hb9 hg9
                have HB9 := Lib.hid hb9
                have HG9 := Lib.hid (grown_new HGR.out hg9 (Nat.le_refl _))
                clear hb9 hg9
                go_wp2
                refine bodyPost_ret (results_c31 rfl _ _ _ _ (by rfl) (by rfl) HB9.out) (by rfl) ?_
                exact DecDo.fail HNO.out HG9.out
              | soon =>
                rw [ht] at C1
                unfold tkRes at C1
                simp only at C1
                have HDK := Lib.hid (show D = dec2 b (some (⟨lf, ls, lm, rsOf ts, false, le⟩, (b.drop p).length)) from by rw [HDD.out, ← HDR2.out, decR_soon HNE.out rfl ht])
                clear ht
                go_wp2_with fail
                refine C1.mono ?_; rintro e w2 ⟨rfl, rfl⟩
                clear C1
                go_wp2_with (with_reducible refine hold_st 31 _ _ rfl ?_)
                apply Lib.hid
                with_reducible refine wpList_store_all rfl 31 _ _ rfl _ ?cs5008 ?hx5008 ?hy5008 _ _ HR1.out ?hf5008 _ ?hl5008 Try.size31 ?h15008 ?_
                case hy5008 => exact rfl
                case hx5008 => exact rfl
                case hf5008 => exact rfl
                case hl5008 => exact rfl
                case h15008 => simp [allOne, Value.oneCell']
                intro u9 hb9 hg9
                have HB9 := Lib.hid hb9
                have HG9 := Lib.hid (grown_new HGR.out hg9 (Nat.le_refl _))
                have HRL9 := Lib.hid ((HMD.out.other HR1.out (by decide) (by decide) hg9).rl rfl)
                clear hb9 hg9
                go_wp2
                refine bodyPost_ret (results_c31 rfl _ _ _ _ (by rfl) (by rfl) HB9.out) (by rfl) ?_
                rw [HRN.out]
                exact DecDo.ok HDK.out (by rw [List.length_drop]; have h := HN.out; omega) rfl HRL9.out HG9.out
              | num y rs =>
                rw [ht] at C1
                unfold tkRes at C1
                simp only at C1
                have hrl : rs.length < n - p := by have h := take_lt ht; rw [List.length_drop, ← HN.out] at h; exact h
                have hdq := take_drop (l := b) (k := p) (by have := HN.out; omega) ht
                rw [← HN.out] at hdq
                obtain ⟨q, hq⟩ : ∃ q, q = n - rs.length := ⟨_, rfl⟩
                rw [← hq] at C1 hdq
                obtain ⟨rl, hrl2⟩ : ∃ rl, rl = rs.length := ⟨_, rfl⟩
                rw [← hrl2] at hrl hq
                have hq0 : ¬ (q : Int) < 0 := by omega
                have hq1 : ((q : Int) == 0) = false := by simp; omega
                have hwq : IntKind.i64.wrap ((n : Int) - (q : Int)) = (rl : Int) := by rw [IntKind.wrap_i64]; omega
                have hqn : q + rl = n := by omega
                have hpq : p < q := by omega
                have HRL0 := Lib.hid hrl2
                have HDQ := Lib.hid hdq
                have HT := Lib.hid ht
                clear hrl hq ht hrl2 hdq
                by_cases hy : y ≤ rl
                · have hyn : ¬ (rl : Int) < (y : Nat) := by omega
                  have hwy : IntKind.i64.wrap ((q : Int) + (y : Int)) = ((q + y : Nat) : Int) := by rw [IntKind.wrap_i64]; omega
                  obtain ⟨sx, sc, hsl, hsc, hsrc, hslen⟩ := sl_lh (HSR.out) HCAP.out q y (by have := HN.out; omega)
                  rw [HDQ.out] at hsrc hslen
                  have HSRC := Lib.hid hsrc
                  have HSL := Lib.hid hsl
                  have HYR := Lib.hid (show y ≤ rs.length from by rw [← HRL0.out]; exact hy)
                  have C2 := rbody_any sx sc (rs.take y) z wr hsrc (by rw [hslen]; exact hsc) (by rw [hslen]; have := HN.out; omega) HZ.out.1 HZ.out.2
                  rw [hslen] at C2
                  have C2 := Lib.hid C2
                  have HQC := Lib.hid (show q + y ≤ cap from by have h1 := HCAP.out; have h2 := HN.out; omega)
                  clear hsl hsc hsrc hslen
                  go_wp2_with fail
                  refine C1.mono ?_; rintro e w2 ⟨rfl, rfl⟩
                  clear C1
                  go_wp2_with (with_reducible refine hold_sl 23 _ _ _ _ rfl ?_)
                  apply Lib.hid
                  refine wpList_val (by rfl) (exec_sl_lh eB elemB (x := .tmp 93) (y := .tmp 94) (z := .tmp 97) rfl x n cap q (q + y) rfl rfl rfl (Nat.le_add_right _ _) HQC.out _ (.slice sx y sc) HSL.out) ?_
                  cases hbd : decB (rs.take y) z with
                  | none =>
                    have HNO := Lib.hid (show D = (.zero, 0, 260) from by rw [HDD.out, ← HDR2.out, decR_bad HNE.out rfl HT.out HYR.out hbd]; rfl)
                    have C2 := C2.out
                    rw [hbd] at C2
                    clear hbd
                    go_wp2_with fail
                    refine C2.mono ?_; rintro e w2 ⟨fa, fk, fn, fx, fm, fc, rfl, hg2⟩
                    have HG2 := Lib.hid hg2
                    have HX1 := Lib.hid (keep_blk hg2 HR1.out)
                    have HR1b := Lib.hid (keep_blk (World.grownBy_alloc w2 (.cells #[.int .i64 fa, .int .i64 fk, .int .i64 fn, .slice fx fm fc] 25) none) HX1.out)
                    have HGRb := Lib.hid ((HGR.out.trans hg2).trans (World.grownBy_alloc w2 (.cells #[.int .i64 fa, .int .i64 fk, .int .i64 fn, .slice fx fm fc] 25) none))
                    clear hg2 C2
                    go_wp2_with (with_reducible refine hold_st 31 _ _ rfl ?_)
                    apply Lib.hid
                    with_reducible refine wpList_store_all rfl 31 _ _ rfl _ ?cs5009 ?hx5009 ?hy5009 _ _ HR1b.out ?hf5009 _ ?hl5009 Try.size31 ?h15009 ?_
                    case hy5009 => exact rfl
                    case hx5009 => exact rfl
                    case hf5009 => exact rfl
                    case hl5009 => exact rfl
                    case h15009 => simp [allOne, Value.oneCell']
                    intro u9 hb9 hg9
                    have HB9 := Lib.hid hb9
                    have HG9 := Lib.hid (grown_new HGRb.out hg9 (Nat.le_refl _))
                    clear hb9 hg9
                    go_wp2
                    refine bodyPost_ret (results_c31 rfl _ _ _ _ (by rfl) (by rfl) HB9.out) (by rfl) ?_
                    exact DecDo.fail HNO.out HG9.out
                  | some r =>
                    obtain ⟨ga, gk, gn, gb⟩ := r
                    have hbb := decB_bd hbd HZ.out
                    have HBD := Lib.hid hbd
                    have HBB := Lib.hid hbb
                    have C2 := C2.out
                    rw [hbd] at C2
                    clear hbd hbb
                    go_wp2_with fail
                    refine C2.mono ?_; rintro e w2 ⟨gx, gc, rfl, hgs, hg2, hgr2⟩
                    simp only at hgs hgr2
                    have HGS0 := Lib.hid hgs
                    obtain ⟨gm, hgm⟩ : ∃ gm, gm = gb.length := ⟨_, rfl⟩
                    rw [← hgm] at hgs ⊢
                    have HGM := Lib.hid hgm
                    have HGA := Lib.hid (World.grownBy_alloc w2 (.cells #[.int .i64 ga, .int .i64 gk, .int .i64 gn, .slice gx gm gc] 25) none)
                    have HG2 := Lib.hid hg2
                    have HGB := Lib.hid (HGR.out.trans (hg2.trans HGA.out))
                    have HX1 := Lib.hid (keep_blk (hg2.trans HGA.out) HR1.out)
                    have HX2 := Lib.hid (keep_blk (hg2.trans HGA.out) HR2.out)
                    have HGS := Lib.hid (hgs.keptNone HGA.out)
                    have HMD2 := Lib.hid ((HMD.out.kept hg2).kept HGA.out)
                    have HT14 := Lib.hid (heap_alloc_new w2 (.cells #[.int .i64 ga, .int .i64 gk, .int .i64 gn, .slice gx gm gc] 25))
                    have hw2s : w.heap.size + 1 < w2.heap.size := lt_of_block (keep_blk hg2 HR2.out)
                    clear hgs hg2 hgr2 hgm C2
                    by_cases h8 : gk = 8
                    · have h8b : (gk == 8) = true := by simp [h8]
                      have HDR3 := Lib.hid (show decR ga ⟨lf, ls, lm, rsOf ts, true, ga⟩ (b.drop (q + y)) = DR from by rw [← HDR2.out, decR_8 HNE.out rfl HT.out HYR.out HBD.out h8, ← HDQ.out, List.drop_drop])
                      clear h8
                      go_wp2
                      obtain ⟨W4, hW4⟩ : ∃ W4, W4 = (w2.alloc (.cells #[.int .i64 ga, .int .i64 gk, .int .i64 gn, .slice gx gm gc] 25)) := ⟨_, rfl⟩
                      rw [← hW4] at HX1 HX2 HT14 HGB HMD2 ⊢
                      clear hW4 HGS HGA
                      refine regx_open (fun k => k = w.heap.size + 1) (n := 6) rfl (by kernel_rfl) ?_
                      refine regx_take 0 (some 109) (v := ?_) rfl rfl (by kernel_rfl) (by kernel_rfl) (by kernel_rfl) (fun _ _ _ h => h) (by rfl) ?_ ?_
                      rotate_left
                      · intro W hW; go_simp; first | done | with_reducible rfl
                      try simp only [Act.put, List.setIfInBounds_toArray, List.set_cons_zero, List.set_cons_succ]
                      refine regx_take 1 (some 110) (v := ?_) rfl rfl (by kernel_rfl) (by kernel_rfl) (by kernel_rfl) (fun _ _ _ h => h) (by rfl) ?_ ?_
                      rotate_left
                      · intro W hW; have k := keeps_cell hW (show W4.drew.cell? ⟨w2.heap.size, 0, none⟩ = some (.int .i64 ga) from cells_all HT14.out 0) (by omega); go_simp; first | done | with_reducible rfl
                      try simp only [Act.put, List.setIfInBounds_toArray, List.set_cons_zero, List.set_cons_succ]
                      refine regx_take 2 (some 111) (v := ?_) rfl rfl (by kernel_rfl) (by kernel_rfl) (by kernel_rfl) (fun _ _ _ h => h) (by rfl) ?_ ?_
                      rotate_left
                      · intro W hW; go_simp; first | done | with_reducible rfl
                      try simp only [Act.put, List.setIfInBounds_toArray, List.set_cons_zero, List.set_cons_succ]
                      refine wpAnyH_ready (rs := [3]) (by kernel_rfl) (by simp) ?_
                      refine (AllReadyH.cons (o := { dst := none, op := Op.store 4 (Operand.tmp 111) (Operand.const (Value.bool true)), type := 0, pos := "ref.go:164", after := #[{ on := 2, ground := Ground.data }, { on := 0, ground := Ground.textOnly Departure.lateStores }, { on := 1, ground := Ground.textOnly Departure.lateStores }], guard := none }) rfl (fun K hK => ?_) AllReadyH.nil)
                      have j0 : W4.drew.cell? ⟨w.heap.size + 1, 4, none⟩ = some (.bool false) := cells_all HX2.out 4
                      have j1 : W4.drew.frozen? ⟨w.heap.size + 1, 4, none⟩ = false := frozen_all HX2.out 4
                      have HY4 := Lib.hid (heap_setCell_at (w := W4.drew) (j := 4) (.bool true) HX2.out)
                      have gs4 := grown_setCell W4.drew (w.heap.size + 1) 4 (.bool true)
                      go_simp
                      refine regx_next hK (Keeps.row gs4 rfl) ?_
                      clear hK K
                      try simp only [Act.put]
                      refine regx_take 4 (some 112) (v := ?_) rfl rfl (by kernel_rfl) (by kernel_rfl) (by kernel_rfl) (fun _ _ _ h => h) (by rfl) ?_ ?_
                      rotate_left
                      · intro W hW; go_simp; first | done | with_reducible rfl
                      try simp only [Act.put, List.setIfInBounds_toArray, List.set_cons_zero, List.set_cons_succ]
                      refine wpAnyH_ready (rs := [5]) (by kernel_rfl) (by simp) ?_
                      refine (AllReadyH.cons (o := { dst := none, op := Op.store 2 (Operand.tmp 112) (Operand.tmp 110), type := 0, pos := "ref.go:164", after := #[{ on := 4, ground := Ground.data }, { on := 1, ground := Ground.data }, { on := 3, ground := Ground.chain }, { on := 0, ground := Ground.phase }, { on := 1, ground := Ground.phase }, { on := 2, ground := Ground.phase }, { on := 3, ground := Ground.phase }], guard := none }) rfl (fun K hK => ?_) AllReadyH.nil)
                      have j2 : (W4.drew.setCell ⟨w.heap.size + 1, 4, none⟩ (.bool true)).cell? ⟨w.heap.size + 1, 5, none⟩ = some (.int .i64 le) := cells_all HY4.out 5
                      have j3 : (W4.drew.setCell ⟨w.heap.size + 1, 4, none⟩ (.bool true)).frozen? ⟨w.heap.size + 1, 5, none⟩ = false := frozen_all HY4.out 5
                      have j4 : W4.drew.cell? ⟨w.heap.size + 1, 5, none⟩ = some (.int .i64 le) := cells_all HX2.out 5
                      have j5 : W4.drew.frozen? ⟨w.heap.size + 1, 5, none⟩ = false := frozen_all HX2.out 5
                      have j6 : W4.cell? ⟨w.heap.size + 1, 5, none⟩ = some (.int .i64 le) := cells_all HX2.out 5
                      have j7 : W4.frozen? ⟨w.heap.size + 1, 5, none⟩ = false := frozen_all HX2.out 5
                      have HY5 := Lib.hid (heap_setCell_at (j := 5) (.int .i64 ga) HY4.out)
                      have gs5 := grown_setCell (W4.drew.setCell ⟨w.heap.size + 1, 4, none⟩ (.bool true)) (w.heap.size + 1) 5 (.int .i64 ga)
                      go_simp
                      refine regx_next hK (Keeps.row gs5 rfl) ?_
                      clear hK K
                      try simp only [Act.put]
                      refine wpAnyH_done (by kernel_rfl) ?_ _
                      have gs45 := (drewl gs4).trans gs5
                      have HMD5 := Lib.hid (HMD2.out.other HX2.out (by decide) (by decide) gs45)
                      have HG5 := Lib.hid (grown_new HGB.out gs45 (Nat.le_succ _))
                      have HZ1 := Lib.hid ((gs45.block _ (lt_of_block HX1.out) (by simp)).trans HX1.out)
                      have HT15 := Lib.hid ((gs45.block _ (lt_of_block HT14.out) (by simp; omega)).trans HT14.out)
                      have x0 : ((W4.drew.setCell ⟨w.heap.size + 1, 4, none⟩ (.bool true)).setCell ⟨w.heap.size + 1, 5, none⟩ (.int .i64 ga)).cell? ⟨w2.heap.size, 0, none⟩ = some (.int .i64 ga) := cells_all HT15.out 0
                      have HZ2 := Lib.hid HY5.out
                      have e5 : ((W4.drew.setCell ⟨w.heap.size + 1, 4, none⟩ (.bool true)).setCell ⟨w.heap.size + 1, 5, none⟩ (.int .i64 ga)) = ((W4.setCell ⟨w.heap.size + 1, 4, none⟩ (.bool true)).setCell ⟨w.heap.size + 1, 5, none⟩ (.int .i64 ga)).drew := rfl
                      rw [e5] at HMD5 HG5 HZ1 HZ2 x0
                      obtain ⟨V5, hV5⟩ : ∃ V5, V5 = ((W4.setCell ⟨w.heap.size + 1, 4, none⟩ (.bool true)).setCell ⟨w.heap.size + 1, 5, none⟩ (.int .i64 ga)).drew := ⟨_, rfl⟩
                      rw [← hV5] at HMD5 HG5 HZ1 HZ2 x0 ⊢
                      clear hV5 e5 j0 j1 j2 j3 j4 j5 j6 j7 gs4 gs5 gs45
                      go_wp2
                      go_roundw
                      case rel => exact ⟨q + y, ga, lf, ls, lm, true, ga, ra, rc, ts, rfl, rfl, by omega, by have h1 : z ≤ ga := HBB.out.1; have h2 : ga ≤ 4611686018427387904 := HBB.out.2.1; have h3 := HZ.out; omega, HMD5.out, HZ1.out, by rw [← HRN.out]; exact HZ2.out, HDR3.out, HG5.out, by have h1 := HTS.out; omega⟩
                      case measure => simp [intOf]; omega
                    · have h8b : (gk == 8) = false := by simp [h8]
                      have HDR3 := Lib.hid (show decR ga ⟨lf, ls, lm, rsOf (ts ++ [⟨ga, gk, gn, gb, gx, gc⟩]), false, le⟩ (b.drop (q + y)) = DR from by rw [← HDR2.out, decR_ok HNE.out rfl HT.out HYR.out HBD.out h8, ← HDQ.out, List.drop_drop]; simp [rsOf])
                      have k3 := cells_all HX2.out 3
                      have HGA2 := Lib.hid (World.grownBy_alloc (w2.alloc (.cells #[.int .i64 ga, .int .i64 gk, .int .i64 gn, .slice gx gm gc] 25)) (.cells #[.int .i64 ga, .int .i64 gk, .int .i64 gn, .slice gx gm gc] 25) none)
                      have HSR4 := Lib.hid (show Go.Src Try.prog 4 29 (.slice (some ⟨w2.heap.size + 1, 0, none⟩) 1 1) 1 (Rv.cells ⟨ga, gk, gn, gb, gx, gc⟩) ((w2.alloc (.cells #[.int .i64 ga, .int .i64 gk, .int .i64 gn, .slice gx gm gc] 25)).alloc (.cells #[.int .i64 ga, .int .i64 gk, .int .i64 gn, .slice gx gm gc] 25)) from by have h := rec_src (w2.alloc (.cells #[.int .i64 ga, .int .i64 gk, .int .i64 gn, .slice gx gm gc] 25)) ⟨ga, gk, gn, gb, gx, gc⟩; rw [World.size_alloc] at h; have e : (.cells (Rv.cells ⟨ga, gk, gn, gb, gx, gc⟩).toArray 25 : Obj) = .cells #[.int .i64 ga, .int .i64 gk, .int .i64 gn, .slice gx gm gc] 25 := (by rw [HGM.out]); rw [e] at h; exact h)
                      have HMD3 := Lib.hid (HMD2.out.kept HGA2.out)
                      have HGB3 := Lib.hid (HGB.out.trans HGA2.out)
                      have HX23 := Lib.hid (keep_blk HGA2.out HX2.out)
                      have HX13 := Lib.hid (keep_blk HGA2.out HX1.out)
                      have HT143 := Lib.hid (keep_blk HGA2.out HT14.out)
                      clear h8
                      go_wp2_with (at_builtin; refine wpList_gs eR rfl _ _ 29 rfl _ rn 1 (ts.flatMap Rv.cells) (Rv.cells ⟨ga, gk, gn, gb, gx, gc⟩) rfl rfl (by rw [HRN.out]; exact HMD3.out.g) HSR4.out (flat_one _) (by have h1 := HTS.out; have h2 := HRN.out; omega) ?_)
                      intro v5 w5 hq5 hg5 hr5
                      obtain ⟨hM5, hG5⟩ := Made.app (t := ⟨ga, gk, gn, gb, gx, gc⟩) HMD3.out ((HGS0.out.keptNone HGA.out).keptNone HGA2.out) (by rw [← HRN.out]; exact hq5) (by rw [← HRN.out]; exact hg5) (by rw [← HRN.out]; exact hr5) HGB3.out (Nat.le_of_eq (by rw [World.size_alloc, World.size_alloc]))
                      obtain ⟨ra5, rc5, rfl, -⟩ := hM5.g.shape
                      obtain ⟨rn5, hrn5⟩ : ∃ r5, r5 = (ts ++ [(⟨ga, gk, gn, gb, gx, gc⟩ : Rv)]).length := ⟨_, rfl⟩
                      rw [← hrn5] at hM5 ⊢
                      have HRN5 := Lib.hid hrn5
                      have hnr : ∀ T : Nat, T < w2.heap.size → (∃ cs, (w2.alloc (.cells #[.int .i64 ga, .int .i64 gk, .int .i64 gn, .slice gx gm gc] 25)).heap[T]? = some (.cells cs 31 (0, 0))) → rowOf (.slice ra rn rc) ≠ some T := fun T _ ⟨cs, hc⟩ => by rw [HRN.out]; exact HMD2.out.g.ne hc (by decide)
                      have hz1 := (hg5.block _ (lt_of_block HX13.out) (fun e => hnr _ (by omega) ⟨_, HX1.out⟩ e.symm)).trans HX13.out
                      have hz2 := (hg5.block _ (lt_of_block HX23.out) (fun e => hnr _ (by omega) ⟨_, HX2.out⟩ e.symm)).trans HX23.out
                      have hnt : rowOf (.slice ra rn rc) ≠ some w2.heap.size := fun e => by have h1 := (HMD.out.kept HG2.out).g.lt w2.heap.size (by rw [← HRN.out]; exact e); omega
                      have ht5 := (hg5.block _ (lt_of_block HT143.out) (fun e => hnt e.symm)).trans HT143.out
                      have j0 := cells_all hz2 3
                      have j1 := frozen_all hz2 3
                      have gs := grown_setCell w5 (w.heap.size + 1) 3 (.slice ra5 rn5 rc5)
                      have HZ2 := Lib.hid (heap_setCell_at (j := 3) (.slice ra5 rn5 rc5) hz2)
                      have HZ1 := Lib.hid ((gs.block _ (lt_of_block hz1) (by simp)).trans hz1)
                      have HMD5 := Lib.hid (hM5.other hz2 (by decide) (by decide) gs)
                      have HG5 := Lib.hid (grown_new hG5 gs (Nat.le_succ _))
                      have x0 : (w5.setCell ⟨w.heap.size + 1, 3, none⟩ (.slice ra5 rn5 rc5)).cell? ⟨w2.heap.size, 0, none⟩ = some (.int .i64 ga) := cells_all ((gs.block _ (lt_of_block ht5) (by simp; omega)).trans ht5) 0
                      clear hq5 hg5 hr5 hM5 hG5 hrn5 hnr hz1 hz2 hnt ht5 gs k3
                      go_wp2
                      go_roundw
                      case rel => exact ⟨q + y, ga, lf, ls, lm, false, le, ra5, rc5, ts ++ [⟨ga, gk, gn, gb, gx, gc⟩], rfl, rfl, by omega, by have h1 : z ≤ ga := HBB.out.1; have h2 : ga ≤ 4611686018427387904 := HBB.out.2.1; have h3 := HZ.out; omega, by rw [← HRN5.out]; exact HMD5.out, HZ1.out, by rw [← HRN5.out]; exact HZ2.out, HDR3.out, HG5.out, by have h1 := HTS.out; rw [List.length_append]; simp; omega⟩
                      case measure => simp [intOf]; omega
                · have hyn : (rl : Int) < (y : Nat) := by omega
                  have HDK := Lib.hid (show D = dec2 b (some (⟨lf, ls, lm, rsOf ts, false, le⟩, (b.drop p).length)) from by rw [HDD.out, ← HDR2.out, decR_short HNE.out rfl HT.out (by rw [← HRL0.out]; exact hy)])
                  go_wp2_with fail
                  refine C1.mono ?_; rintro e w2 ⟨rfl, rfl⟩
                  clear C1
                  go_wp2_with (with_reducible refine hold_st 31 _ _ rfl ?_)
                  apply Lib.hid
                  with_reducible refine wpList_store_all rfl 31 _ _ rfl _ ?cs5010 ?hx5010 ?hy5010 _ _ HR1.out ?hf5010 _ ?hl5010 Try.size31 ?h15010 ?_
                  case hy5010 => exact rfl
                  case hx5010 => exact rfl
                  case hf5010 => exact rfl
                  case hl5010 => exact rfl
                  case h15010 => simp [allOne, Value.oneCell']
                  intro u9 hb9 hg9
                  have HB9 := Lib.hid hb9
                  have HG9 := Lib.hid (grown_new HGR.out hg9 (Nat.le_refl _))
                  have HRL9 := Lib.hid ((HMD.out.other HR1.out (by decide) (by decide) hg9).rl rfl)
                  clear hb9 hg9
                  go_wp2
                  refine bodyPost_ret (results_c31 rfl _ _ _ _ (by rfl) (by rfl) HB9.out) (by rfl) ?_
                  rw [HRN.out]
                  exact DecDo.ok HDK.out (by rw [List.length_drop]; have h := HN.out; omega) rfl HRL9.out HG9.out
          · have hlt' : ¬ (p : Int) < (n : Nat) := by omega
            have HDK := Lib.hid (show D = dec2 b (some (⟨lf, ls, lm, rsOf ts, lwh, le⟩, 0)) from by rw [HDD.out, ← HDR2.out, show b.drop p = [] from List.drop_of_length_le (by have := HN.out; omega), decR_nil])
            go_wp2_with (with_reducible refine hold_st 31 _ _ rfl ?_)
            apply Lib.hid
            with_reducible refine wpList_store_all rfl 31 _ _ rfl _ ?cs5011 ?hx5011 ?hy5011 _ _ HR1.out ?hf5011 _ ?hl5011 Try.size31 ?h15011 ?_
            case hy5011 => exact rfl
            case hx5011 => exact rfl
            case hf5011 => exact rfl
            case hl5011 => exact rfl
            case h15011 => simp [allOne, Value.oneCell']
            intro u9 hb9 hg9
            have HB9 := Lib.hid hb9
            have HG9 := Lib.hid (grown_new HGR.out hg9 (Nat.le_refl _))
            have HRL9 := Lib.hid ((HMD.out.other HR1.out (by decide) (by decide) hg9).rl rfl)
            clear hb9 hg9
            go_wp2
            refine bodyPost_ret (results_c31 rfl _ _ _ _ (by rfl) (by rfl) HB9.out) (by rfl) ?_
            rw [HRN.out]
            exact DecDo.ok HDK.out (by have h := HN.out; omega) rfl HRL9.out HG9.out
      · have HNO := Lib.hid (show D = (.zero, 0, 261) from HD.out.trans (decL_hd HT1.out HT2.out HT3.out hHd))
        have C3 := Lib.hid (head_no (y0 : Nat) (y1 : Nat) (y2 : Nat) hHd V2)
        clear hHd
        go_wp2_with fail
        refine C3.out.mono ?_; rintro e w2 ⟨rfl, hw2⟩
        have HL1 := Lib.hid (keep_blk hw2 HL1.out)
        have HGL := Lib.hid (HGL.out.trans hw2)
        clear hw2
        go_wp2_with (with_reducible refine hold_st 31 _ _ rfl ?_)
        apply Lib.hid
        with_reducible refine wpList_store_all rfl 31 _ _ rfl _ ?cs5012 ?hx5012 ?hy5012 _ _ HL1.out ?hf5012 _ ?hl5012 Try.size31 ?h15012 ?_
        case hy5012 => exact rfl
        case hx5012 => exact rfl
        case hf5012 => exact rfl
        case hl5012 => exact rfl
        case h15012 => simp [allOne, Value.oneCell']
        intro u9 hb9 hg9
        have HB9 := Lib.hid hb9
        have HG9 := Lib.hid (grown_new HGL.out hg9 (Nat.le_refl _))
        clear hb9 hg9
        go_wp2
        refine bodyPost_ret (results_c31 rfl _ _ _ _ (by rfl) (by rfl) HB9.out) (by rfl) ?_
        exact DecDo.fail HNO.out HG9.out
end Go.Proofs.Ytpoifobhbmhelaa
