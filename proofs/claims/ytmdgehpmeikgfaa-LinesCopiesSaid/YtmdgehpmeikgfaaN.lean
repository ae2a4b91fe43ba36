import Derived.Test.YtmdgehpmeikgfaaM
set_option linter.unusedVariables false
namespace Go.Proofs.Ytmdgehpmeikgfaa
open Go.RowKit
set_option maxHeartbeats 4000000 in
theorem rpush_long (r : Rf) (k : Nat) (hk : r.taken = (k : Nat)) (hkn : k ≤ r.pn) (m : Nat) (xa : Option Addr) (xcap : Nat) (w : World) (hpn : r.pn ≤ 1000000) (hm : m ≤ 1000000) (hfit : 256 < (r.pn - k) + m) :
    Calls Try.prog 14 #[r.val, .slice xa m xcap] w fun e w' => e = .returned (.tuple #[r.val, .int .i64 3]) ∧ w.grownBy w' none := by
  obtain ⟨hg, h1, h2⟩ := two_new w (.cells r.cells 29) (.cells Rf.zero.cells 29)
  obtain ⟨a2, c2, h2'⟩ : ∃ a2 c2, sliced r.pa k r.pn r.pc 1 = .slice a2 (r.pn - k) c2 := ⟨_, _, rfl⟩
  have C := rwaits r k hk hkn
  rw [h2'] at C
  have HX := Lib.hid (show _ from h1)
  have HR := Lib.hid h2
  have HG := Lib.hid hg
  have hw : IntKind.i64.wrap (((r.pn - k : Nat) : Int) + (m : Nat)) = ((r.pn - k : Nat) : Int) + (m : Nat) := by rw [IntKind.wrap_i64]; omega
  have hgt : ((256 : Int) < ((r.pn - k : Nat) : Int) + (m : Nat)) = True := eq_true (by omega)
  clear hk hg h1 h2
  go_enter Try.func14, Try.ntmps14
  go_wp2_with (with_reducible refine hold_ld 29 _ rfl ?_)
  apply Lib.hid
  with_reducible refine wpList_load_blk rfl 29 _ rfl _ ?o3301 ?hx3301 _ _ _ HX.out _ 9 ?hn3301 Try.underlying29 rfl Try.size29 ?_
  case hx3301 => exact rfl
  case hn3301 => exact rfl
  go_wp2_with fail
  refine (C _).mono ?_; rintro e w1 ⟨rfl, hg1⟩
  have HX1 := Lib.hid ((hg1.block _ (lt_of_block HX.out) (by simp)).trans HX.out)
  have HR1 := Lib.hid ((hg1.block _ (lt_of_block HR.out) (by simp)).trans HR.out)
  have HG1 := Lib.hid (HG.out.trans hg1)
  clear hg1 C
  go_wp2_with (with_reducible refine hold_ld 29 _ rfl ?_)
  apply Lib.hid
  with_reducible refine wpList_load_blk rfl 29 _ rfl _ ?o3302 ?hx3302 _ _ _ HX1.out _ 9 ?hn3302 Try.underlying29 rfl Try.size29 ?_
  case hx3302 => exact rfl
  case hn3302 => exact rfl
  go_wp2_with (with_reducible refine hold_st 29 _ _ rfl ?_)
  apply Lib.hid
  with_reducible refine wpList_store_all rfl 29 _ _ rfl _ ?cs3303 ?hx3303 ?hy3303 _ _ HR1.out ?hf3303 _ ?hl3303 Try.size29 ?h13303 ?_
  case hy3303 => exact rfl
  case hx3303 => exact rfl
  case hf3303 => exact rfl
  case hl3303 => exact rfl
  case h13303 => simp [allOne, Value.oneCell']
  intro w2 hb2 hg2
  have HR2 := Lib.hid hb2
  have HG2 := Lib.hid (grown_new HG1.out hg2 (by simp))
  clear hb2 hg2
  go_wp2
  refine bodyPost_ret (results_c29t rfl _ _ _ _ (by rfl) (by rfl) HR2.out) (by rfl) ?_
  exact ⟨rfl, HG2.out⟩
theorem grown_new3 {a b c : World} {row : Option Nat} (h : a.grownBy b none) (k : b.grownBy c row) (hg : ∀ g, row = some g → a.heap.size ≤ g) : a.grownBy c none := by
  cases row with
  | none => exact h.trans k
  | some g => exact grown_new h k (hg g rfl)
set_option maxHeartbeats 4000000 in
theorem rpush_ok (r : Rf) (k : Nat) (hk : r.taken = (k : Nat)) (hkn : k ≤ r.pn) (lp bs : List UInt8) (xa : Option Addr) (xcap : Nat) (w : World) (hS : Sl w (.slice r.pa r.pn r.pc) lp) (hx : Src w xa bs) (hpn : lp.length + bs.length ≤ 1000000) (hfit : (r.pn - k) + bs.length ≤ 256) :
    Calls Try.prog 14 #[r.val, .slice xa bs.length xcap] w fun e w' => ∃ pa pc, e = .returned (.tuple #[({ r with pa := pa, pn := (lp ++ bs).length, pc := pc } : Rf).val, .int .i64 0]) ∧ Sl w' (.slice pa (lp ++ bs).length pc) (lp ++ bs) ∧ w.grownBy w' none ∧ New w (.slice pa (lp ++ bs).length pc) := by
  have hpl : r.pn = lp.length := by
    obtain ⟨_, _, h, _⟩ := hS.shape
    injection h
  obtain ⟨hg, h1, h2⟩ := two_new w (.cells r.cells 29) (.cells Rf.zero.cells 29)
  have HS := Lib.hid hS
  have HY := Lib.hid hx
  obtain ⟨a2, c2, h2'⟩ : ∃ a2 c2, sliced r.pa k r.pn r.pc 1 = .slice a2 (r.pn - k) c2 := ⟨_, _, rfl⟩
  have C := rwaits r k hk hkn
  rw [h2'] at C
  have HX := Lib.hid (show _ from h1)
  have HR := Lib.hid h2
  have HG := Lib.hid hg
  have hw : IntKind.i64.wrap (((r.pn - k : Nat) : Int) + (bs.length : Nat)) = ((r.pn - k : Nat) : Int) + (bs.length : Nat) := by rw [IntKind.wrap_i64]; omega
  have hgt : ((256 : Int) < ((r.pn - k : Nat) : Int) + (bs.length : Nat)) = False := eq_false (by omega)
  have HPL := Lib.hid hpl
  clear hk hg h1 h2 hpl hS hx
  go_enter Try.func14, Try.ntmps14
  go_wp2_with (with_reducible refine hold_ld 29 _ rfl ?_)
  apply Lib.hid
  with_reducible refine wpList_load_blk rfl 29 _ rfl _ ?o3301 ?hx3301 _ _ _ HX.out _ 9 ?hn3301 Try.underlying29 rfl Try.size29 ?_
  case hx3301 => exact rfl
  case hn3301 => exact rfl
  go_wp2_with fail
  refine (C _).mono ?_; rintro e w1 ⟨rfl, hg1⟩
  have hX1 := (hg1.block _ (lt_of_block HX.out) (by simp)).trans HX.out
  have hga := World.grownBy_alloc w1 (.cells #[] 5) none
  have c6 : (w1.alloc (.cells #[] 5)).cell? ⟨w.heap.size, 6, none⟩ = some (.slice r.pa r.pn r.pc) := cells_all ((hga.block _ (lt_of_block hX1) (by simp)).trans hX1) 6
  have HXa := Lib.hid ((hga.block _ (lt_of_block hX1) (by simp)).trans hX1)
  have hR1 := (hg1.block _ (lt_of_block HR.out) (by simp)).trans HR.out
  have hsz1 : w.heap.size + 2 ≤ w1.heap.size := lt_of_block hR1
  have HRa := Lib.hid ((hga.block _ (lt_of_block hR1) (by simp)).trans hR1)
  have hv0 : Sl (w1.alloc (.cells #[] 5)) (.slice (some ⟨w1.heap.size, 0, none⟩) 0 0) [] := .inr ⟨w1.heap.size, 0, 0, [], rfl, Nat.le_refl _, by simp [maxLen], heap_alloc_new w1 _, by simp, by simp [bsV]⟩
  have HGa := Lib.hid ((HG.out.trans hg1).trans hga)
  have HSa := Lib.hid (HS.out.keptNone HGa.out)
  have hs := HSa.out.src
  rw [← HPL.out] at hs
  clear hX1 hga hg1 C hR1
  go_wp2_with (at_builtin; refine wpList_sl rfl _ _ rfl _ _ [] lp rfl rfl hv0 (HPL.out ▸ HSa.out.src) (by simp; omega) ?_)
  intro v2 w2 hQ2 hg2 hr2
  obtain ⟨va, vcap, hv2, _⟩ := hQ2.shape
  subst hv2
  have hro : ∀ g, rowOf (.slice va lp.length vcap) = some g → w1.heap.size ≤ g := by
    rcases hr2 with h | h
    · rw [h]; rintro g ⟨⟩; exact Nat.le_refl _
    · rw [h]; rintro g ⟨⟩; simp
  have HXb := Lib.hid ((hg2.block _ (lt_of_block HXa.out) (by simp [rowOf]; omega)).trans HXa.out)
  have HRb := Lib.hid ((hg2.block _ (lt_of_block HRa.out) (by simp [rowOf]; omega)).trans HRa.out)
  have HGb := Lib.hid (grown_new HGa.out hg2 (by show w.heap.size ≤ w1.heap.size; omega))
  have hvr : Go.Src Try.prog 1 27 (.slice xa bs.length xcap) bs.length (bsV bs) w2 := src_go (HY.out.keptNone HGb.out)
  go_wp2_with (at_builtin; refine wpList_sl rfl _ _ rfl _ _ lp bs rfl rfl hQ2 hvr hpn ?_)
  intro v3 w3 hQ3 hg3 hr3
  have hro3 : ∀ g, rowOf v3 = some g → w1.heap.size ≤ g := by
    rcases hr3 with h | h
    · rw [h]; exact hro
    · rw [h]; rintro g ⟨⟩; have := hg2.size; simp only [World.size_alloc] at this; omega
  have hX3 := (hg3.block _ (lt_of_block HXb.out) (fun e => by have := hro _ e.symm; omega)).trans HXb.out
  have hR3 := (hg3.block _ (lt_of_block HRb.out) (fun e => by have := hro _ e.symm; omega)).trans HRb.out
  have hG3 := grown_new3 HGb.out hg3 (fun g e => by have := hro _ e; omega)
  obtain ⟨pa, pc, hv3, _⟩ := hQ3.shape
  rw [List.length_append] at hv3
  subst hv3
  have c36 : w3.cell? ⟨w.heap.size, 6, none⟩ = some (.slice r.pa r.pn r.pc) := cells_all hX3 6
  have f36 := frozen_all hX3 6
  have hX4 := heap_setCell_at (j := 6) (.slice pa (lp.length + bs.length) pc) hX3
  have hR4 : (w3.setCell ⟨w.heap.size, 6, none⟩ (.slice pa (lp.length + bs.length) pc)).heap[w.heap.size + 1]? = _ := ((grown_setCell w3 w.heap.size 6 (.slice pa (lp.length + bs.length) pc)).block _ (lt_of_block hR3) (by simp)).trans hR3
  have hG4 := grown_new hG3 (grown_setCell w3 w.heap.size 6 (.slice pa (lp.length + bs.length) pc)) (Nat.le_refl _)
  have hQ4 := hQ3.kept (grown_setCell w3 w.heap.size 6 (.slice pa (lp.length + bs.length) pc)) (fun g e e2 => by cases e2; have := hro3 _ e; omega)
  simp only [List.setIfInBounds_toArray, List.set_cons_zero, List.set_cons_succ] at hX4
  have HX4 := Lib.hid hX4
  have HR4 := Lib.hid hR4
  have HG4 := Lib.hid hG4
  have HQ4 := Lib.hid hQ4
  have HN := Lib.hid hro3
  clear hX4 hR4 hG4 hQ4 hX3 hR3 hG3 hQ3 hg3 hr3 hro3 hQ2 hg2 hr2 hro hvr
  go_wp2_with (with_reducible refine hold_ld 29 _ rfl ?_)
  apply Lib.hid
  with_reducible refine wpList_load_blk rfl 29 _ rfl _ ?o3304 ?hx3304 _ _ _ HX4.out _ 9 ?hn3304 Try.underlying29 rfl Try.size29 ?_
  case hx3304 => exact rfl
  case hn3304 => exact rfl
  go_wp2_with (with_reducible refine hold_st 29 _ _ rfl ?_)
  apply Lib.hid
  with_reducible refine wpList_store_all rfl 29 _ _ rfl _ ?cs3305 ?hx3305 ?hy3305 _ _ HR4.out ?hf3305 _ ?hl3305 Try.size29 ?h13305 ?_
  case hy3305 => exact rfl
  case hx3305 => exact rfl
  case hf3305 => exact rfl
  case hl3305 => exact rfl
  case h13305 => simp [allOne, Value.oneCell']
  intro w5 hb5 hg5
  have HR5 := Lib.hid hb5
  have HQ5 := Lib.hid (HQ4.out.kept hg5 (fun g e e2 => by cases e2; have := HN.out _ e; omega))
  have HG5 := Lib.hid (grown_new HG4.out hg5 (by simp))
  clear hb5 hg5
  go_wp2
  refine bodyPost_ret (results_c29t rfl _ _ _ _ (by rfl) (by rfl) HR5.out) (by rfl) ?_
  refine ⟨pa, pc, by rw [List.length_append]; rfl, by rw [List.length_append]; exact HQ5.out, HG5.out, fun g e => ?_⟩
  rw [List.length_append] at e
  have := HN.out _ e
  omega
end Go.Proofs.Ytmdgehpmeikgfaa
