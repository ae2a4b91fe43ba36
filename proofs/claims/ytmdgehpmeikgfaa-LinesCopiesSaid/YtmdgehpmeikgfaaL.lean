import Derived.Test.YtmdgehpmeikgfaaK
set_option linter.unusedVariables false
namespace Go.Proofs.Ytmdgehpmeikgfaa
open Go.RowKit
def Rf.hit (r : Rf) (now : Int) (m : Nat) (k : Nat) : Bool := r.wants k now && bitOf m k
def Rf.pendI (r : Rf) (now : Int) (m : Nat) : Int := match r.hit now m 0, r.hit now m 1, r.hit now m 2, r.hit now m 3 with
  | true, _, _, _ => 0
  | false, true, _, _ => 1
  | false, false, true, _ => 2
  | false, false, false, true => 3
  | false, false, false, false => -1
theorem bitI_0 (m : Nat) : ((m : Int) % 2 == 1) = bitOf m 0 := by
  unfold bitOf
  rw [Bool.eq_iff_iff]
  simp only [beq_iff_eq, decide_eq_true_eq]
  omega
theorem bitI_1 (m : Nat) : (((m : Int) / 2) % 2 == 1) = bitOf m 1 := by
  unfold bitOf
  rw [Bool.eq_iff_iff]
  simp only [beq_iff_eq, decide_eq_true_eq]
  omega
theorem bitI_2 (m : Nat) : (((m : Int) / 4) % 2 == 1) = bitOf m 2 := by
  unfold bitOf
  rw [Bool.eq_iff_iff]
  simp only [beq_iff_eq, decide_eq_true_eq]
  omega
theorem bitI_3 (m : Nat) : (((m : Int) / 8) % 2 == 1) = bitOf m 3 := by
  unfold bitOf
  rw [Bool.eq_iff_iff]
  simp only [beq_iff_eq, decide_eq_true_eq]
  omega
set_option maxHeartbeats 8000000 in
theorem rPending (r : Rf) (ha : 0 ≤ r.alarm) (ha2 : r.alarm < 4294967296) (m : Nat) (hmk : r.mask = (m : Int)) (hm : m < 4294967296) (now : Int) (w : World) : Calls Try.prog 18 #[r.val, .int .i64 now] w fun e w' => e = .returned (.int .i64 (r.pendI now m)) ∧ w.grownBy w' none := by
  have HG0 := Lib.hid (World.grownBy_alloc w (.cells r.cells 29) none)
  have HX0 := Lib.hid (heap_alloc_new w (.cells r.cells 29))
  have HMK := Lib.hid hmk
  clear hmk
  go_enter Try.func18, Try.ntmps18
  go_wp2
  go_loopw [5, 6] (fun b i wr => ∃ k : Nat, k ≤ 4 ∧ i = .int .i64 k ∧ b = .int .u32 (bitv k) ∧ ((0 < k → r.hit now m 0 = false) ∧ (1 < k → r.hit now m 1 = false) ∧ (2 < k → r.hit now m 2 = false) ∧ (3 < k → r.hit now m 3 = false)) ∧ wr.heap[w.heap.size]? = some (.cells r.cells 29 (0, 0)) ∧ w.grownBy wr none) (fun _ i _ => 4 - (intOf i).toNat)
  case atStart => exact ⟨0, Nat.zero_le _, rfl, rfl, ⟨fun h => absurd h (by omega), fun h => absurd h (by omega), fun h => absurd h (by omega), fun h => absurd h (by omega)⟩, HX0.out, HG0.out⟩
  case round =>
    clear HX0 HG0
    obtain ⟨k, hk, rfl, rfl, ⟨h0, h1, h2, h3⟩, hX, hgr⟩ := hrel
    obtain rfl | rfl | rfl | rfl | rfl : k = 0 ∨ k = 1 ∨ k = 2 ∨ k = 3 ∨ k = 4 := by omega
    · have C := rwants r ha ha2 0 now (by simp)
      have HX := Lib.hid hX
      have HG := Lib.hid hgr
      have hbe := bitI_0 m
      have hbv : bitv 0 = 1 := rfl
      clear hX hgr
      by_cases hb : r.wants 0 now = true
      · by_cases ht : bitOf m 0 = true
        · have hh : r.hit now m 0 = true := by simp [Rf.hit, hb, ht]
          have hp : r.pendI now m = 0 := by unfold Rf.pendI; rw [hh] <;> rfl
          rw [hb] at C
          rw [ht] at hbe
          clear hb ht hh h0 h1 h2 h3
          go_wp2_with (with_reducible refine hold_ld 29 _ rfl ?_)
          apply Lib.hid
          with_reducible refine wpList_load_blk rfl 29 _ rfl _ ?o3201 ?hx3201 _ _ _ HX.out _ 9 ?hn3201 Try.underlying29 rfl Try.size29 ?_
          case hx3201 => exact rfl
          case hn3201 => exact rfl
          go_wp2_with fail
          refine (C _).mono ?_; rintro e w2 ⟨rfl, hg2⟩
          have hX2 := (hg2.block _ (lt_of_block HX.out) (by simp)).trans HX.out
          have c1 : w2.cell? ⟨w.heap.size, 1, none⟩ = some (.int .u32 r.mask) := cells_all hX2 1
          rw [HMK.out] at c1
          have HX2 := Lib.hid hX2
          have HG2 := Lib.hid (HG.out.trans hg2)
          clear hg2 C hX2
          go_wp2
          go_ret
          exact ⟨by rw [hp]; rfl, HG2.out⟩
        · rw [Bool.not_eq_true] at ht
          have hh : r.hit now m 0 = false := by simp [Rf.hit, ht]
          rw [hb] at C
          rw [ht] at hbe
          clear hb ht
          go_wp2_with (with_reducible refine hold_ld 29 _ rfl ?_)
          apply Lib.hid
          with_reducible refine wpList_load_blk rfl 29 _ rfl _ ?o3202 ?hx3202 _ _ _ HX.out _ 9 ?hn3202 Try.underlying29 rfl Try.size29 ?_
          case hx3202 => exact rfl
          case hn3202 => exact rfl
          go_wp2_with fail
          refine (C _).mono ?_; rintro e w2 ⟨rfl, hg2⟩
          have hX2 := (hg2.block _ (lt_of_block HX.out) (by simp)).trans HX.out
          have c1 : w2.cell? ⟨w.heap.size, 1, none⟩ = some (.int .u32 r.mask) := cells_all hX2 1
          rw [HMK.out] at c1
          have HX2 := Lib.hid hX2
          have HG2 := Lib.hid (HG.out.trans hg2)
          clear hg2 C hX2
          go_wp2
          go_roundw
          case rel => exact ⟨1, by omega, rfl, rfl, ⟨fun _ => hh, fun h => absurd h (by omega), fun h => absurd h (by omega), fun h => absurd h (by omega)⟩, HX2.out, HG2.out⟩
          case measure => decide
      · rw [Bool.not_eq_true] at hb
        have hh : r.hit now m 0 = false := by simp [Rf.hit, hb]
        rw [hb] at C
        clear hb hbe
        go_wp2_with (with_reducible refine hold_ld 29 _ rfl ?_)
        apply Lib.hid
        with_reducible refine wpList_load_blk rfl 29 _ rfl _ ?o3203 ?hx3203 _ _ _ HX.out _ 9 ?hn3203 Try.underlying29 rfl Try.size29 ?_
        case hx3203 => exact rfl
        case hn3203 => exact rfl
        go_wp2_with fail
        refine (C _).mono ?_; rintro e w2 ⟨rfl, hg2⟩
        have hX2 := (hg2.block _ (lt_of_block HX.out) (by simp)).trans HX.out
        have c1 : w2.cell? ⟨w.heap.size, 1, none⟩ = some (.int .u32 r.mask) := cells_all hX2 1
        rw [HMK.out] at c1
        have HX2 := Lib.hid hX2
        have HG2 := Lib.hid (HG.out.trans hg2)
        clear hg2 C hX2
        go_wp2
        go_roundw
        case rel => exact ⟨1, by omega, rfl, rfl, ⟨fun _ => hh, fun h => absurd h (by omega), fun h => absurd h (by omega), fun h => absurd h (by omega)⟩, HX2.out, HG2.out⟩
        case measure => decide
    · have C := rwants r ha ha2 1 now (by simp)
      have HX := Lib.hid hX
      have HG := Lib.hid hgr
      have hbe := bitI_1 m
      have hbv : bitv 1 = 2 := rfl
      clear hX hgr
      by_cases hb : r.wants 1 now = true
      · by_cases ht : bitOf m 1 = true
        · have hh : r.hit now m 1 = true := by simp [Rf.hit, hb, ht]
          have hp : r.pendI now m = 1 := by unfold Rf.pendI; rw [h0 (by omega), hh] <;> rfl
          rw [hb] at C
          rw [ht] at hbe
          clear hb ht hh h0 h1 h2 h3
          go_wp2_with (with_reducible refine hold_ld 29 _ rfl ?_)
          apply Lib.hid
          with_reducible refine wpList_load_blk rfl 29 _ rfl _ ?o3204 ?hx3204 _ _ _ HX.out _ 9 ?hn3204 Try.underlying29 rfl Try.size29 ?_
          case hx3204 => exact rfl
          case hn3204 => exact rfl
          go_wp2_with fail
          refine (C _).mono ?_; rintro e w2 ⟨rfl, hg2⟩
          have hX2 := (hg2.block _ (lt_of_block HX.out) (by simp)).trans HX.out
          have c1 : w2.cell? ⟨w.heap.size, 1, none⟩ = some (.int .u32 r.mask) := cells_all hX2 1
          rw [HMK.out] at c1
          have HX2 := Lib.hid hX2
          have HG2 := Lib.hid (HG.out.trans hg2)
          clear hg2 C hX2
          go_wp2
          go_ret
          exact ⟨by rw [hp]; rfl, HG2.out⟩
        · rw [Bool.not_eq_true] at ht
          have hh : r.hit now m 1 = false := by simp [Rf.hit, ht]
          rw [hb] at C
          rw [ht] at hbe
          clear hb ht
          go_wp2_with (with_reducible refine hold_ld 29 _ rfl ?_)
          apply Lib.hid
          with_reducible refine wpList_load_blk rfl 29 _ rfl _ ?o3205 ?hx3205 _ _ _ HX.out _ 9 ?hn3205 Try.underlying29 rfl Try.size29 ?_
          case hx3205 => exact rfl
          case hn3205 => exact rfl
          go_wp2_with fail
          refine (C _).mono ?_; rintro e w2 ⟨rfl, hg2⟩
          have hX2 := (hg2.block _ (lt_of_block HX.out) (by simp)).trans HX.out
          have c1 : w2.cell? ⟨w.heap.size, 1, none⟩ = some (.int .u32 r.mask) := cells_all hX2 1
          rw [HMK.out] at c1
          have HX2 := Lib.hid hX2
          have HG2 := Lib.hid (HG.out.trans hg2)
          clear hg2 C hX2
          go_wp2
          go_roundw
          case rel => exact ⟨2, by omega, rfl, rfl, ⟨fun _ => h0 (by omega), fun _ => hh, fun h => absurd h (by omega), fun h => absurd h (by omega)⟩, HX2.out, HG2.out⟩
          case measure => decide
      · rw [Bool.not_eq_true] at hb
        have hh : r.hit now m 1 = false := by simp [Rf.hit, hb]
        rw [hb] at C
        clear hb hbe
        go_wp2_with (with_reducible refine hold_ld 29 _ rfl ?_)
        apply Lib.hid
        with_reducible refine wpList_load_blk rfl 29 _ rfl _ ?o3206 ?hx3206 _ _ _ HX.out _ 9 ?hn3206 Try.underlying29 rfl Try.size29 ?_
        case hx3206 => exact rfl
        case hn3206 => exact rfl
        go_wp2_with fail
        refine (C _).mono ?_; rintro e w2 ⟨rfl, hg2⟩
        have hX2 := (hg2.block _ (lt_of_block HX.out) (by simp)).trans HX.out
        have c1 : w2.cell? ⟨w.heap.size, 1, none⟩ = some (.int .u32 r.mask) := cells_all hX2 1
        rw [HMK.out] at c1
        have HX2 := Lib.hid hX2
        have HG2 := Lib.hid (HG.out.trans hg2)
        clear hg2 C hX2
        go_wp2
        go_roundw
        case rel => exact ⟨2, by omega, rfl, rfl, ⟨fun _ => h0 (by omega), fun _ => hh, fun h => absurd h (by omega), fun h => absurd h (by omega)⟩, HX2.out, HG2.out⟩
        case measure => decide
    · have C := rwants r ha ha2 2 now (by simp)
      have HX := Lib.hid hX
      have HG := Lib.hid hgr
      have hbe := bitI_2 m
      have hbv : bitv 2 = 4 := rfl
      clear hX hgr
      by_cases hb : r.wants 2 now = true
      · by_cases ht : bitOf m 2 = true
        · have hh : r.hit now m 2 = true := by simp [Rf.hit, hb, ht]
          have hp : r.pendI now m = 2 := by unfold Rf.pendI; rw [h0 (by omega), h1 (by omega), hh] <;> rfl
          rw [hb] at C
          rw [ht] at hbe
          clear hb ht hh h0 h1 h2 h3
          go_wp2_with (with_reducible refine hold_ld 29 _ rfl ?_)
          apply Lib.hid
          with_reducible refine wpList_load_blk rfl 29 _ rfl _ ?o3207 ?hx3207 _ _ _ HX.out _ 9 ?hn3207 Try.underlying29 rfl Try.size29 ?_
          case hx3207 => exact rfl
          case hn3207 => exact rfl
          go_wp2_with fail
          refine (C _).mono ?_; rintro e w2 ⟨rfl, hg2⟩
          have hX2 := (hg2.block _ (lt_of_block HX.out) (by simp)).trans HX.out
          have c1 : w2.cell? ⟨w.heap.size, 1, none⟩ = some (.int .u32 r.mask) := cells_all hX2 1
          rw [HMK.out] at c1
          have HX2 := Lib.hid hX2
          have HG2 := Lib.hid (HG.out.trans hg2)
          clear hg2 C hX2
          go_wp2
          go_ret
          exact ⟨by rw [hp]; rfl, HG2.out⟩
        · rw [Bool.not_eq_true] at ht
          have hh : r.hit now m 2 = false := by simp [Rf.hit, ht]
          rw [hb] at C
          rw [ht] at hbe
          clear hb ht
          go_wp2_with (with_reducible refine hold_ld 29 _ rfl ?_)
          apply Lib.hid
          with_reducible refine wpList_load_blk rfl 29 _ rfl _ ?o3208 ?hx3208 _ _ _ HX.out _ 9 ?hn3208 Try.underlying29 rfl Try.size29 ?_
          case hx3208 => exact rfl
          case hn3208 => exact rfl
          go_wp2_with fail
          refine (C _).mono ?_; rintro e w2 ⟨rfl, hg2⟩
          have hX2 := (hg2.block _ (lt_of_block HX.out) (by simp)).trans HX.out
          have c1 : w2.cell? ⟨w.heap.size, 1, none⟩ = some (.int .u32 r.mask) := cells_all hX2 1
          rw [HMK.out] at c1
          have HX2 := Lib.hid hX2
          have HG2 := Lib.hid (HG.out.trans hg2)
          clear hg2 C hX2
          go_wp2
          go_roundw
          case rel => exact ⟨3, by omega, rfl, rfl, ⟨fun _ => h0 (by omega), fun _ => h1 (by omega), fun _ => hh, fun h => absurd h (by omega)⟩, HX2.out, HG2.out⟩
          case measure => decide
      · rw [Bool.not_eq_true] at hb
        have hh : r.hit now m 2 = false := by simp [Rf.hit, hb]
        rw [hb] at C
        clear hb hbe
        go_wp2_with (with_reducible refine hold_ld 29 _ rfl ?_)
        apply Lib.hid
        with_reducible refine wpList_load_blk rfl 29 _ rfl _ ?o3209 ?hx3209 _ _ _ HX.out _ 9 ?hn3209 Try.underlying29 rfl Try.size29 ?_
        case hx3209 => exact rfl
        case hn3209 => exact rfl
        go_wp2_with fail
        refine (C _).mono ?_; rintro e w2 ⟨rfl, hg2⟩
        have hX2 := (hg2.block _ (lt_of_block HX.out) (by simp)).trans HX.out
        have c1 : w2.cell? ⟨w.heap.size, 1, none⟩ = some (.int .u32 r.mask) := cells_all hX2 1
        rw [HMK.out] at c1
        have HX2 := Lib.hid hX2
        have HG2 := Lib.hid (HG.out.trans hg2)
        clear hg2 C hX2
        go_wp2
        go_roundw
        case rel => exact ⟨3, by omega, rfl, rfl, ⟨fun _ => h0 (by omega), fun _ => h1 (by omega), fun _ => hh, fun h => absurd h (by omega)⟩, HX2.out, HG2.out⟩
        case measure => decide
    · have C := rwants r ha ha2 3 now (by simp)
      have HX := Lib.hid hX
      have HG := Lib.hid hgr
      have hbe := bitI_3 m
      have hbv : bitv 3 = 8 := rfl
      clear hX hgr
      by_cases hb : r.wants 3 now = true
      · by_cases ht : bitOf m 3 = true
        · have hh : r.hit now m 3 = true := by simp [Rf.hit, hb, ht]
          have hp : r.pendI now m = 3 := by unfold Rf.pendI; rw [h0 (by omega), h1 (by omega), h2 (by omega), hh] <;> rfl
          rw [hb] at C
          rw [ht] at hbe
          clear hb ht hh h0 h1 h2 h3
          go_wp2_with (with_reducible refine hold_ld 29 _ rfl ?_)
          apply Lib.hid
          with_reducible refine wpList_load_blk rfl 29 _ rfl _ ?o3210 ?hx3210 _ _ _ HX.out _ 9 ?hn3210 Try.underlying29 rfl Try.size29 ?_
          case hx3210 => exact rfl
          case hn3210 => exact rfl
          go_wp2_with fail
          refine (C _).mono ?_; rintro e w2 ⟨rfl, hg2⟩
          have hX2 := (hg2.block _ (lt_of_block HX.out) (by simp)).trans HX.out
          have c1 : w2.cell? ⟨w.heap.size, 1, none⟩ = some (.int .u32 r.mask) := cells_all hX2 1
          rw [HMK.out] at c1
          have HX2 := Lib.hid hX2
          have HG2 := Lib.hid (HG.out.trans hg2)
          clear hg2 C hX2
          go_wp2
          go_ret
          exact ⟨by rw [hp]; rfl, HG2.out⟩
        · rw [Bool.not_eq_true] at ht
          have hh : r.hit now m 3 = false := by simp [Rf.hit, ht]
          rw [hb] at C
          rw [ht] at hbe
          clear hb ht
          go_wp2_with (with_reducible refine hold_ld 29 _ rfl ?_)
          apply Lib.hid
          with_reducible refine wpList_load_blk rfl 29 _ rfl _ ?o3211 ?hx3211 _ _ _ HX.out _ 9 ?hn3211 Try.underlying29 rfl Try.size29 ?_
          case hx3211 => exact rfl
          case hn3211 => exact rfl
          go_wp2_with fail
          refine (C _).mono ?_; rintro e w2 ⟨rfl, hg2⟩
          have hX2 := (hg2.block _ (lt_of_block HX.out) (by simp)).trans HX.out
          have c1 : w2.cell? ⟨w.heap.size, 1, none⟩ = some (.int .u32 r.mask) := cells_all hX2 1
          rw [HMK.out] at c1
          have HX2 := Lib.hid hX2
          have HG2 := Lib.hid (HG.out.trans hg2)
          clear hg2 C hX2
          go_wp2
          go_roundw
          case rel => exact ⟨4, by omega, rfl, rfl, ⟨fun _ => h0 (by omega), fun _ => h1 (by omega), fun _ => h2 (by omega), fun _ => hh⟩, HX2.out, HG2.out⟩
          case measure => decide
      · rw [Bool.not_eq_true] at hb
        have hh : r.hit now m 3 = false := by simp [Rf.hit, hb]
        rw [hb] at C
        clear hb hbe
        go_wp2_with (with_reducible refine hold_ld 29 _ rfl ?_)
        apply Lib.hid
        with_reducible refine wpList_load_blk rfl 29 _ rfl _ ?o3212 ?hx3212 _ _ _ HX.out _ 9 ?hn3212 Try.underlying29 rfl Try.size29 ?_
        case hx3212 => exact rfl
        case hn3212 => exact rfl
        go_wp2_with fail
        refine (C _).mono ?_; rintro e w2 ⟨rfl, hg2⟩
        have hX2 := (hg2.block _ (lt_of_block HX.out) (by simp)).trans HX.out
        have c1 : w2.cell? ⟨w.heap.size, 1, none⟩ = some (.int .u32 r.mask) := cells_all hX2 1
        rw [HMK.out] at c1
        have HX2 := Lib.hid hX2
        have HG2 := Lib.hid (HG.out.trans hg2)
        clear hg2 C hX2
        go_wp2
        go_roundw
        case rel => exact ⟨4, by omega, rfl, rfl, ⟨fun _ => h0 (by omega), fun _ => h1 (by omega), fun _ => h2 (by omega), fun _ => hh⟩, HX2.out, HG2.out⟩
        case measure => decide
    · have HG := Lib.hid hgr
      have hp : r.pendI now m = -1 := by unfold Rf.pendI; rw [h0 (by omega), h1 (by omega), h2 (by omega), h3 (by omega)]
      clear hX hgr h0 h1 h2 h3
      go_wp2
      go_ret
      exact ⟨by rw [hp]; rfl, HG.out⟩
end Go.Proofs.Ytmdgehpmeikgfaa
