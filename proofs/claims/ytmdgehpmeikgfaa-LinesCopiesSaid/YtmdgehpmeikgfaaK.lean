import Derived.Test.YtmdgehpmeikgfaaJ
namespace Go.Proofs.Ytmdgehpmeikgfaa
open Go.RowKit
def Rf.sum (r : Rf) (now : Int) (k : Nat) : Int := (if 0 < k ∧ r.wants 0 now = true then 1 else 0) + (if 1 < k ∧ r.wants 1 now = true then 2 else 0) + (if 2 < k ∧ r.wants 2 now = true then 4 else 0) + (if 3 < k ∧ r.wants 3 now = true then 8 else 0)
theorem Rf.sum_bound (r : Rf) (now : Int) (k : Nat) : 0 ≤ r.sum now k ∧ r.sum now k ≤ 15 := by
  unfold Rf.sum
  repeat' split
  all_goals omega
def bitv (k : Nat) : Int := if k = 0 then 1 else if k = 1 then 2 else if k = 2 then 4 else if k = 3 then 8 else 16
set_option maxHeartbeats 8000000 in
theorem rWants (r : Rf) (ha : 0 ≤ r.alarm) (ha2 : r.alarm < 4294967296) (now : Int) (w : World) : Calls Try.prog 21 #[r.val, .int .i64 now] w fun e w' => e = .returned (.int .u32 (r.sum now 4)) ∧ w.grownBy w' none := by
  have HG0 := Lib.hid (World.grownBy_alloc w (.cells r.cells 29) none)
  have HX0 := Lib.hid (heap_alloc_new w (.cells r.cells 29))
  go_enter Try.func21, Try.ntmps21
  go_wp2
  go_loopw [5, 6, 7] (fun o b i wr => ∃ k : Nat, k ≤ 4 ∧ i = .int .i64 k ∧ b = .int .u32 (bitv k) ∧ o = .int .u32 (r.sum now k) ∧ wr.heap[w.heap.size]? = some (.cells r.cells 29 (0, 0)) ∧ w.grownBy wr none) (fun _ _ i _ => 4 - (intOf i).toNat)
  case atStart => exact ⟨0, Nat.zero_le _, rfl, rfl, by simp [Rf.sum], HX0.out, HG0.out⟩
  case round =>
    clear HX0 HG0
    obtain ⟨k, hk, rfl, rfl, rfl, hX, hgr⟩ := hrel
    obtain rfl | rfl | rfl | rfl | rfl : k = 0 ∨ k = 1 ∨ k = 2 ∨ k = 3 ∨ k = 4 := by omega
    · have C := rwants r ha ha2 0 now (by simp)
      have HX := Lib.hid hX
      have HG := Lib.hid hgr
      clear hX hgr
      have hlo := r.sum_bound now 0
      by_cases hb : r.wants 0 now = true
      · have hs : IntKind.u32.wrap (r.sum now 0 + 1) = r.sum now 1 := by
          rw [IntKind.wrap_u32]
          simp only [Rf.sum, hb] at hlo ⊢
          simp at hlo ⊢
          try omega
        rw [hb] at C
        clear hb hlo
        go_wp2_with (with_reducible refine hold_ld 29 _ rfl ?_)
        apply Lib.hid
        with_reducible refine wpList_load_blk rfl 29 _ rfl _ ?o3101 ?hx3101 _ _ _ HX.out _ 9 ?hn3101 Try.underlying29 rfl Try.size29 ?_
        case hx3101 => exact rfl
        case hn3101 => exact rfl
        go_wp2_with fail
        refine (C _).mono ?_; rintro e w2 ⟨rfl, hg2⟩
        have HX2 := Lib.hid ((hg2.block _ (lt_of_block HX.out) (by simp)).trans HX.out)
        have HG2 := Lib.hid (HG.out.trans hg2)
        clear hg2 C
        go_wp2
        go_roundw
        case rel => exact ⟨1, by omega, rfl, rfl, congrArg (Value.int .u32) hs, HX2.out, HG2.out⟩
        case measure => simp [intOf]
      · rw [Bool.not_eq_true] at hb
        have hs : r.sum now 0 = r.sum now 1 := by simp [Rf.sum, hb]
        rw [hb] at C
        clear hb hlo
        go_wp2_with (with_reducible refine hold_ld 29 _ rfl ?_)
        apply Lib.hid
        with_reducible refine wpList_load_blk rfl 29 _ rfl _ ?o3102 ?hx3102 _ _ _ HX.out _ 9 ?hn3102 Try.underlying29 rfl Try.size29 ?_
        case hx3102 => exact rfl
        case hn3102 => exact rfl
        go_wp2_with fail
        refine (C _).mono ?_; rintro e w2 ⟨rfl, hg2⟩
        have HX2 := Lib.hid ((hg2.block _ (lt_of_block HX.out) (by simp)).trans HX.out)
        have HG2 := Lib.hid (HG.out.trans hg2)
        clear hg2 C
        go_wp2
        go_roundw
        case rel => exact ⟨1, by omega, rfl, rfl, by first | rfl | rw [hs], HX2.out, HG2.out⟩
        case measure => simp [intOf]
    · have C := rwants r ha ha2 1 now (by simp)
      have HX := Lib.hid hX
      have HG := Lib.hid hgr
      clear hX hgr
      have hlo := r.sum_bound now 1
      by_cases hb : r.wants 1 now = true
      · have hs : IntKind.u32.wrap (r.sum now 1 + 2) = r.sum now 2 := by
          rw [IntKind.wrap_u32]
          simp only [Rf.sum, hb] at hlo ⊢
          simp at hlo ⊢
          try omega
        rw [hb] at C
        clear hb hlo
        go_wp2_with (with_reducible refine hold_ld 29 _ rfl ?_)
        apply Lib.hid
        with_reducible refine wpList_load_blk rfl 29 _ rfl _ ?o3103 ?hx3103 _ _ _ HX.out _ 9 ?hn3103 Try.underlying29 rfl Try.size29 ?_
        case hx3103 => exact rfl
        case hn3103 => exact rfl
        go_wp2_with fail
        refine (C _).mono ?_; rintro e w2 ⟨rfl, hg2⟩
        have HX2 := Lib.hid ((hg2.block _ (lt_of_block HX.out) (by simp)).trans HX.out)
        have HG2 := Lib.hid (HG.out.trans hg2)
        clear hg2 C
        go_wp2
        go_roundw
        case rel => exact ⟨2, by omega, rfl, rfl, congrArg (Value.int .u32) hs, HX2.out, HG2.out⟩
        case measure => simp [intOf]
      · rw [Bool.not_eq_true] at hb
        have hs : r.sum now 1 = r.sum now 2 := by simp [Rf.sum, hb]
        rw [hb] at C
        clear hb hlo
        go_wp2_with (with_reducible refine hold_ld 29 _ rfl ?_)
        apply Lib.hid
        with_reducible refine wpList_load_blk rfl 29 _ rfl _ ?o3104 ?hx3104 _ _ _ HX.out _ 9 ?hn3104 Try.underlying29 rfl Try.size29 ?_
        case hx3104 => exact rfl
        case hn3104 => exact rfl
        go_wp2_with fail
        refine (C _).mono ?_; rintro e w2 ⟨rfl, hg2⟩
        have HX2 := Lib.hid ((hg2.block _ (lt_of_block HX.out) (by simp)).trans HX.out)
        have HG2 := Lib.hid (HG.out.trans hg2)
        clear hg2 C
        go_wp2
        go_roundw
        case rel => exact ⟨2, by omega, rfl, rfl, by first | rfl | rw [hs], HX2.out, HG2.out⟩
        case measure => simp [intOf]
    · have C := rwants r ha ha2 2 now (by simp)
      have HX := Lib.hid hX
      have HG := Lib.hid hgr
      clear hX hgr
      have hlo := r.sum_bound now 2
      by_cases hb : r.wants 2 now = true
      · have hs : IntKind.u32.wrap (r.sum now 2 + 4) = r.sum now 3 := by
          rw [IntKind.wrap_u32]
          simp only [Rf.sum, hb] at hlo ⊢
          simp at hlo ⊢
          try omega
        rw [hb] at C
        clear hb hlo
        go_wp2_with (with_reducible refine hold_ld 29 _ rfl ?_)
        apply Lib.hid
        with_reducible refine wpList_load_blk rfl 29 _ rfl _ ?o3105 ?hx3105 _ _ _ HX.out _ 9 ?hn3105 Try.underlying29 rfl Try.size29 ?_
        case hx3105 => exact rfl
        case hn3105 => exact rfl
        go_wp2_with fail
        refine (C _).mono ?_; rintro e w2 ⟨rfl, hg2⟩
        have HX2 := Lib.hid ((hg2.block _ (lt_of_block HX.out) (by simp)).trans HX.out)
        have HG2 := Lib.hid (HG.out.trans hg2)
        clear hg2 C
        go_wp2
        go_roundw
        case rel => exact ⟨3, by omega, rfl, rfl, congrArg (Value.int .u32) hs, HX2.out, HG2.out⟩
        case measure => simp [intOf]
      · rw [Bool.not_eq_true] at hb
        have hs : r.sum now 2 = r.sum now 3 := by simp [Rf.sum, hb]
        rw [hb] at C
        clear hb hlo
        go_wp2_with (with_reducible refine hold_ld 29 _ rfl ?_)
        apply Lib.hid
        with_reducible refine wpList_load_blk rfl 29 _ rfl _ ?o3106 ?hx3106 _ _ _ HX.out _ 9 ?hn3106 Try.underlying29 rfl Try.size29 ?_
        case hx3106 => exact rfl
        case hn3106 => exact rfl
        go_wp2_with fail
        refine (C _).mono ?_; rintro e w2 ⟨rfl, hg2⟩
        have HX2 := Lib.hid ((hg2.block _ (lt_of_block HX.out) (by simp)).trans HX.out)
        have HG2 := Lib.hid (HG.out.trans hg2)
        clear hg2 C
        go_wp2
        go_roundw
        case rel => exact ⟨3, by omega, rfl, rfl, by first | rfl | rw [hs], HX2.out, HG2.out⟩
        case measure => simp [intOf]
    · have C := rwants r ha ha2 3 now (by simp)
      have HX := Lib.hid hX
      have HG := Lib.hid hgr
      clear hX hgr
      have hlo := r.sum_bound now 3
      by_cases hb : r.wants 3 now = true
      · have hs : IntKind.u32.wrap (r.sum now 3 + 8) = r.sum now 4 := by
          rw [IntKind.wrap_u32]
          simp only [Rf.sum, hb] at hlo ⊢
          simp at hlo ⊢
          try omega
        rw [hb] at C
        clear hb hlo
        go_wp2_with (with_reducible refine hold_ld 29 _ rfl ?_)
        apply Lib.hid
        with_reducible refine wpList_load_blk rfl 29 _ rfl _ ?o3107 ?hx3107 _ _ _ HX.out _ 9 ?hn3107 Try.underlying29 rfl Try.size29 ?_
        case hx3107 => exact rfl
        case hn3107 => exact rfl
        go_wp2_with fail
        refine (C _).mono ?_; rintro e w2 ⟨rfl, hg2⟩
        have HX2 := Lib.hid ((hg2.block _ (lt_of_block HX.out) (by simp)).trans HX.out)
        have HG2 := Lib.hid (HG.out.trans hg2)
        clear hg2 C
        go_wp2
        go_roundw
        case rel => exact ⟨4, by omega, rfl, rfl, congrArg (Value.int .u32) hs, HX2.out, HG2.out⟩
        case measure => simp [intOf]
      · rw [Bool.not_eq_true] at hb
        have hs : r.sum now 3 = r.sum now 4 := by simp [Rf.sum, hb]
        rw [hb] at C
        clear hb hlo
        go_wp2_with (with_reducible refine hold_ld 29 _ rfl ?_)
        apply Lib.hid
        with_reducible refine wpList_load_blk rfl 29 _ rfl _ ?o3108 ?hx3108 _ _ _ HX.out _ 9 ?hn3108 Try.underlying29 rfl Try.size29 ?_
        case hx3108 => exact rfl
        case hn3108 => exact rfl
        go_wp2_with fail
        refine (C _).mono ?_; rintro e w2 ⟨rfl, hg2⟩
        have HX2 := Lib.hid ((hg2.block _ (lt_of_block HX.out) (by simp)).trans HX.out)
        have HG2 := Lib.hid (HG.out.trans hg2)
        clear hg2 C
        go_wp2
        go_roundw
        case rel => exact ⟨4, by omega, rfl, rfl, by first | rfl | rw [hs], HX2.out, HG2.out⟩
        case measure => simp [intOf]
    · have HG := Lib.hid hgr
      clear hX hgr
      go_wp2
      go_ret
      exact ⟨rfl, HG.out⟩
end Go.Proofs.Ytmdgehpmeikgfaa
