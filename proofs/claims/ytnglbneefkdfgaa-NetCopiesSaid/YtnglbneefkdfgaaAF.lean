import Derived.Test.YtnglbneefkdfgaaAE
set_option linter.unusedVariables false
namespace Go.Proofs.Ytnglbneefkdfgaa
open Go.RowKit
theorem same_q (Ma Mb : Nat → Prop) (A B : Nat) (ca cb : Nc) (ga gb : Nh) (s : Bool) (w : World) (hs : s = sameN ga gb) (hA : NS Ma w A ca ga) (hB : NS Mb w B cb gb) (hba : Nb ga) (hbb : Nb gb) (hla : Lb ga) (hlb : Lb gb) :
    Calls Try.prog 24 #[.pointer (some ⟨A, 0, none⟩), .pointer (some ⟨B, 0, none⟩)] w fun e w' => e = .returned (.bool s) ∧ w.grownBy w' none := by
  subst hs
  exact same_nk Ma Mb A B ca cb ga gb w hA hB hba hbb hla hlb
theorem ref_same_q (Ma Mb : Nat → Prop) (ra rb : Rf) (ga gb : Nh) (s : Bool) (w : World) (hs : s = sameN ga gb) (hA : RS Ma w ra ga) (hB : RS Mb w rb gb) (hba : Nb ga) (hbb : Nb gb) :
    Calls Try.prog 27 #[ra.val, rb.val] w fun e w' => e = .returned (.bool s) ∧ w.grownBy w' none := by
  subst hs
  exact ref_same Ma Mb ra rb ga gb w hA hB hba hbb
theorem few_one (x : Ac) (xb : List UInt8) (w : World) (b : Nat) (hb : w.heap[b]? = some (.cells x.cells 36 (0, 0))) (hxn : x.bn = xb.length) (hxs : Go.Proofs.Ytnglbneefkdfgaa.Src w x.ba xb) (hxl : xb.length ≤ 140737488355328) :
    Calls Try.prog 15 #[.slice (some ⟨b, 0, none⟩) 1 1] w fun e w' => e = .returned (.bool (decide (20 + x.bn ≤ 8000))) ∧ w = w' := by
  have := few_any (some ⟨b, 0, none⟩) 1 1 (fun _ => x) (fun _ => xb) w (.inr ⟨b, 0, rfl, fun j hj => by
    obtain rfl : j = 0 := by omega
    exact ⟨fun i v hi => by
      have h := cells_all hb (0 + 0 * 2 + i)
      rw [show 0 + 0 * 2 + i = i from by omega] at h ⊢
      rw [h]
      simpa using hi, hxn, hxs, hxl⟩⟩) (by omega)
  simpa [cost] using this
theorem l_start {wS w15 w16 w17 : World} {nq ns : Nat} {vsq vss : List Value} {lq ls : List (List UInt8)} {qa la : Option Addr} {qc lc : Nat} (h15 : wS.grownBy w15 none) (h16 : w15.grownBy w16 none) (h17 : w16.grownBy w17 (rowOf (.slice qa nq qc))) (hq : CV wS.heap.size w15 vsq lq) (hs : CV w15.heap.size w16 vss ls)
    (hvq : Gs eL w16 (.slice qa nq qc) nq vsq) (hrq : ∀ k, rowOf (.slice qa nq qc) = some k → wS.heap.size ≤ k) (hl : Gs eL w17 (.slice la (nq + ns) lc) (nq + ns) (vsq ++ vss)) : WI wS la (nq + ns) lc (vsq ++ vss) ((lq ++ ls).map List.length) w17 := by
  have hk : Keeps (fun k => rowOf (.slice qa nq qc) = some k) w16 w17 := Keeps.of h17 (fun r e => e)
  have hx5 : ∀ k cs, rowOf (.slice qa nq qc) = some k → w16.heap[k]? = some (.cells cs 5 (0, 0)) → False := fun k cs h hc => hvq.ne hc (by decide) h
  have h1 := ((hq.keeps (X := fun _ => False) (Keeps.keep h16) (fun _ _ h _ => h)).keeps hk hx5).append ((hs.less h15.size).keeps hk hx5)
  exact ⟨hl, h1.cb, (Keeps.keep (h15.trans h16)).trans (hk.mono (fun k _ h => hrq k h))⟩
theorem CL.rowlt {S : Nat} {w : World} {v : Value} {ls : List (List UInt8)} (h : CL S w v ls) : ∀ k, rowOf v = some k → k < w.heap.size := by
  obtain ⟨vs, h1, _⟩ := h
  exact h1.lt
theorem step_ok {g : Nh} (n : Nat) (hle : (∀ x ∈ g.came, x.length ≤ 64) ∧ ∀ x ∈ g.sent, x.length ≤ 64) (h1 : g.came.length ≤ n) (h2 : g.sent.length ≤ n) (hn : n ≤ 900) (what : Int) (bs : List UInt8) : Nb (g.step what bs) ∧ Lb (g.step what bs) := by
  have hb := g.step_bd what bs
  have hl := g.step_le what bs hle
  exact ⟨nb_of hl (by omega) (by omega), lb_of hl⟩
set_option maxRecDepth 100000 in
set_option maxHeartbeats 40000000 in
theorem netCopies_walk (a : Option Addr) (n cap : Nat) (l : Nat → Ac) (bs : Nat → List UInt8) (x : Ac) (xb : List UInt8) (w : World) (hs : SrcX w a n l bs) (hm : n ≤ 9223372036854775807) (hxn : x.bn = xb.length) (hxs : Go.Proofs.Ytnglbneefkdfgaa.Src w x.ba xb) (hxl : xb.length ≤ 140737488355328) :
    Calls Try.prog 8 #[.slice a n cap, x.val] w fun e w' => e = .returned (.bool true) ∧ w.grownBy w' none := by
  have hgx := World.grownBy_alloc w (.cells x.cells 36) none
  have HX0 := Lib.hid (heap_alloc_new w (.cells x.cells 36))
  have HGX := Lib.hid hgx
  have hs0 : SrcX (w.alloc (.cells x.cells 36)) a n l bs := by
    rcases hs with h | ⟨b, o, e, h⟩
    · exact .inl h
    · by_cases h0 : n = 0
      · exact .inl h0
      · have hb0 : b < w.heap.size := World.block_lt_of_cell? w _ ((h 0 (by omega)).1 0 _ rfl)
        exact .inr ⟨b, o, e, fun j hj => ⟨rangeAt_of (h j hj).1 (hgx.block b hb0 (by simp)), (h j hj).2.1, (h j hj).2.2.1.keptNone hgx, (h j hj).2.2.2⟩⟩
  have C := few_any a n cap l bs _ hs0 hm
  by_cases hc : cost l n ≤ 8000
  rotate_left
  · rw [show decide (cost l n ≤ 8000) = false from by simp [hc]] at C
    clear hs hs0 hc hgx hxn hxs
    go_enter Try.func8, Try.ntmps8
    go_wp2_with fail
    refine C.mono ?_; rintro e w' ⟨rfl, rfl⟩
    clear C
    go_wp2_with fail
    refine (works_any _).mono ?_; rintro e w1 ⟨rfl, hg1⟩
    have HG := Lib.hid (HGX.out.trans hg1)
    clear hg1
    go_wp2
    go_ret
    exact ⟨rfl, HG.out⟩
  rw [show decide (cost l n ≤ 8000) = true from by simp [hc]] at C
  have hn400 : n ≤ 400 := by have := cost_ge l n; omega
  obtain ⟨hgB, hx1, hx2⟩ := two_new w (.cells x.cells 36) (.cells x.cells 36)
  have C1 := few_one x xb _ (w.heap.size + 1) hx2 hxn (hxs.keptNone hgB) hxl
  by_cases hcx : 20 + x.bn ≤ 8000
  rotate_left
  · rw [show decide (20 + x.bn ≤ 8000) = false from by simp [hcx]] at C1
    have HGB := Lib.hid hgB
    clear hs hs0 hc hcx hgx hx1 hx2 hgB hxn hxs
    go_enter Try.func8, Try.ntmps8
    go_wp2_with fail
    refine C.mono ?_; rintro e w' ⟨rfl, rfl⟩
    clear C
    go_wp2_with (with_reducible refine hold_ld 36 _ rfl ?_)
    apply Lib.hid
    refine wpList_val (by rfl) (exec_ld36 (x := .tmp 3) rfl rfl HX0.out) ?_
    go_wp2_with fail
    refine C1.mono ?_; rintro e w' ⟨rfl, rfl⟩
    clear C1
    go_wp2_with fail
    refine (works_any _).mono ?_; rintro e w1 ⟨rfl, hg1⟩
    have HG := Lib.hid (HGB.out.trans hg1)
    clear hg1
    go_wp2
    go_ret
    exact ⟨rfl, HG.out⟩
  rw [show decide (20 + x.bn ≤ 8000) = true from by simp [hcx]] at C1
  have hs1 : SrcX ((w.alloc (.cells x.cells 36)).alloc (.cells x.cells 36)) a n l bs := by
    rcases hs with h | ⟨b, o, e, h⟩
    · exact .inl h
    · by_cases h0 : n = 0
      · exact .inl h0
      · have hb0 : b < w.heap.size := World.block_lt_of_cell? w _ ((h 0 (by omega)).1 0 _ rfl)
        exact .inr ⟨b, o, e, fun j hj => ⟨rangeAt_of (h j hj).1 (hgB.block b hb0 (by simp)), (h j hj).2.1, (h j hj).2.2.1.keptNone hgB, (h j hj).2.2.2⟩⟩
  have C2 := played_any a n cap l bs _ hs1 (by omega) (by omega)
  have hbn : ∀ j, j < n → (l j).bn = (bs j).length := fun j hj => by
    rcases id hs with h | ⟨b, o, _, h⟩
    · omega
    · exact (h j hj).2.1
  have hrb := run_bd l bs n hbn n (Nat.le_refl _)
  have hrl := run_le l bs n
  have hnb := run_nb l bs n hbn (by omega) (by omega) n (Nat.le_refl _)
  have hlb := run_lb l bs n
  have hk1 := step_ok n hrl hrb.1 hrb.2.1 (by omega) x.what xb
  have hk2 := step_ok n hrl hrb.1 hrb.2.1 (by omega) 0 [122]
  obtain ⟨g, hg⟩ : ∃ g, g = Nh.run l bs n := ⟨_, rfl⟩
  rw [← hg] at C2 hnb hlb hk1 hk2
  obtain ⟨g1, hg1e⟩ : ∃ g1, g1 = g.step x.what xb := ⟨_, rfl⟩
  obtain ⟨g2, hg2e⟩ : ∃ g2, g2 = g.step 0 [122] := ⟨_, rfl⟩
  rw [← hg1e] at hk1
  rw [← hg2e] at hk2
  obtain ⟨hnb1, hlb1⟩ := hk1
  obtain ⟨hnb2, hlb2⟩ := hk2
  obtain ⟨sm, hsm⟩ : ∃ sm, sm = sameN g g1 := ⟨_, rfl⟩
  have HSM := Lib.hid hsm
  have HSM1 := Lib.hid (show sm = sameN g1 g from by rw [hsm, sameN_comm])
  have HG1E := Lib.hid hg1e
  have HG2E := Lib.hid hg2e
  have HGB := Lib.hid hgB
  have HXB0 := Lib.hid (show _ from hx1)
  have HXS := Lib.hid hxs
  have HXN := Lib.hid hxn
  have HLT := Lib.hid (show xb ≠ [] → ∀ b o, x.ba = some ⟨b, o, none⟩ → b < w.heap.size from fun he b o e => Go.Proofs.Ytnglbneefkdfgaa.Src.lt (e ▸ hxs) he)
  have hszB := hgB.size
  have hszB2 : ((w.alloc (.cells x.cells 36)).alloc (.cells x.cells 36)).heap.size = w.heap.size + 1 + 1 := by simp
  obtain ⟨NB, hNB⟩ : ∃ NB, NB = ((w.alloc (.cells x.cells 36)).alloc (.cells x.cells 36)).heap.size := ⟨_, rfl⟩
  have HNBE := Lib.hid hNB
  clear hs hs0 hs1 hc hcx hgx hx1 hx2 hgB hg hg1e hg2e hsm hrb hrl hbn hxs hxn
  go_enter Try.func8, Try.ntmps8
  go_wp2_with fail
  refine C.mono ?_; rintro e w' ⟨rfl, rfl⟩
  clear C
  go_wp2_with (with_reducible refine hold_ld 36 _ rfl ?_)
  apply Lib.hid
  refine wpList_val (by rfl) (exec_ld36 (x := .tmp 3) rfl rfl HX0.out) ?_
  go_wp2_with fail
  refine C1.mono ?_; rintro e w' ⟨rfl, rfl⟩
  clear C1 HX0 HGX
  go_wp2_with fail
  refine C2.mono ?_; rintro e w1 ⟨Bn, cn, r, M, rfl, hN1, hR1, hM1, hg1⟩
  clear C2
  have hz1 := hg1.size
  have hga := World.grownBy_alloc w1 (.cells Rf.zero.cells 40) none
  have HN6 := Lib.hid (heap_alloc_new w1 (.cells Rf.zero.cells 40))
  have HN1 := Lib.hid hN1
  have HR1 := Lib.hid hR1
  have HM1 := Lib.hid hM1
  have HG1 := Lib.hid hg1
  clear hga hN1 hR1 hM1 hg1
  go_wp2_with (with_reducible refine hold_st 40 _ _ rfl ?_)
  apply Lib.hid
  with_reducible refine wpList_store_all rfl 40 _ _ rfl _ ?cs1801 ?hx1801 ?hy1801 _ _ HN6.out ?hf1801 _ ?hl1801 Try.size40 ?h11801 ?_
  case hy1801 => exact rfl
  case hx1801 => exact rfl
  case hf1801 => exact rfl
  case hl1801 => exact rfl
  case h11801 => simp [allOne, Value.oneCell']
  intro w2 hb6 hg6
  have hgz := grown_new (World.grownBy_alloc w1 (.cells Rf.zero.cells 40) none) hg6 (Nat.le_refl _)
  have HA6 := Lib.hid (show w2.heap[w1.heap.size]? = some (.cells r.cells 40 (0, 0)) from hb6)
  have HN2 := Lib.hid (HN1.out.keptNone hgz)
  have HR2 := Lib.hid (HR1.out.keptNone hgz)
  have HM2 := Lib.hid (show ∀ k, M k → ((w.alloc (.cells x.cells 36)).alloc (.cells x.cells 36)).heap.size ≤ k ∧ k < w2.heap.size from fun k hk => by have := HM1.out k hk; have := hgz.size; omega)
  have HG2 := Lib.hid (HG1.out.trans hgz)
  have HXB2 := Lib.hid ((HG2.out.block _ (lt_of_block HXB0.out) (by simp)).trans HXB0.out)
  clear hgz hg6 hb6 HN6 HN1 HR1 HM1 HG1
  go_wp2_with fail
  refine (copy_nk M Bn cn g _ HN2.out hnb).mono ?_; rintro e w3 ⟨Bc, cc, rfl, hNc, hOc, hg3⟩
  have HNc := Lib.hid hNc
  have HOc := Lib.hid hOc
  have HG3 := Lib.hid hg3
  have HN3 := Lib.hid ((HN2.out.more (M' := with_ M (own cc Bc)) (fun k hk => .inl hk) (fun k hk => hk.imp id (fun h => (hOc k h).1))).keptNone hg3)
  clear hNc hOc hg3
  go_wp2_with fail
  refine (copy_nk _ Bn cn g _ HN3.out hnb).mono ?_; rintro e w4 ⟨Bd, cd, rfl, hNd, hOd, hg4⟩
  have ht := T3.start HN2.out HR2.out HM2.out HG2.out HNc.out HOc.out HG3.out hNd hOd hg4
  have hg24 := HG3.out.trans hg4
  have HA6 := Lib.hid ((hg24.block _ (lt_of_block HA6.out) (by simp)).trans HA6.out)
  have HXB4 := Lib.hid ((hg24.block _ (lt_of_block HXB2.out) (by simp)).trans HXB2.out)
  obtain ⟨M4, hM4⟩ : ∃ M4, M4 = with_ (with_ M (own cc Bc)) (own cd Bd) := ⟨_, rfl⟩
  rw [← hM4] at ht
  have HT4 := Lib.hid ht
  clear hNd hOd hg4 ht hM4 hg24 HN2 HR2 HM2 HG2 HNc HOc HG3 HN3 HXB2
  go_wp2_with fail
  refine (same_q _ _ Bn Bc cn cc g g true _ (sameN_refl g).symm HT4.out.hn HT4.out.hc hnb hnb hlb hlb).mono ?_; rintro e w5 ⟨rfl, hg5⟩
  have HT5 := Lib.hid (HT4.out.keptNone hg5)
  have HA6 := Lib.hid ((hg5.block _ (lt_of_block HA6.out) (by simp)).trans HA6.out)
  have HXB := Lib.hid ((hg5.block _ (lt_of_block HXB4.out) (by simp)).trans HXB4.out)
  have HXS5 := Lib.hid (HXS.out.keptNone (HGB.out.trans HT5.out.g))
  clear hg5 HT4 HXB4
  go_wp2_with (with_reducible refine hold_ld 40 _ rfl ?_)
  apply Lib.hid
  with_reducible refine wpList_load_blk rfl 40 _ rfl _ ?o1804 ?hx1804 _ _ _ HA6.out _ 3 ?hn1804 Try.underlying40 rfl Try.size40 ?_
  case hx1804 => exact rfl
  case hn1804 => exact rfl
  go_wp2_with (with_reducible refine hold_ld 36 _ rfl ?_)
  apply Lib.hid
  with_reducible refine wpList_load_blk rfl 36 _ rfl _ ?o1805 ?hx1805 _ _ _ HXB.out _ 2 ?hn1805 Try.underlying36 rfl Try.size36 ?_
  case hx1805 => exact rfl
  case hn1805 => exact rfl
  go_wp2_with fail
  refine (act_any M4 Bn cn r g x xb _ HT5.out.hn (HT5.out.rs (r, g) (by simp)) hnb (fun k hk => (HT5.out.mw k hk).2) HXN.out ⟨x.ba, x.bc, by rw [HXN.out], HXS5.out, fun he b o e hmb => by have h1 := (HT5.out.mw b hmb).1; have h2 := HLT.out he b o e; omega⟩ hxl).mono ?_; rintro e w6 ⟨cn', r1, M6, rfl, hP⟩
  rw [← HG1E.out] at hP
  have HT6 := Lib.hid (HT5.out.actn hP)
  have HA6 := Lib.hid ((hP.keep.block _ (lt_of_block HA6.out) (HT5.out.hn.nown HA6.out)).trans HA6.out)
  have HN10 := Lib.hid (heap_alloc_new w6 (.cells Rf.zero.cells 40))
  clear hP
  go_wp2_with (with_reducible refine hold_st 40 _ _ rfl ?_)
  apply Lib.hid
  with_reducible refine wpList_store_all rfl 40 _ _ rfl _ ?cs1802 ?hx1802 ?hy1802 _ _ HN10.out ?hf1802 _ ?hl1802 Try.size40 ?h11802 ?_
  case hy1802 => exact rfl
  case hx1802 => exact rfl
  case hf1802 => exact rfl
  case hl1802 => exact rfl
  case h11802 => simp [allOne, Value.oneCell']
  intro w8 hb10 hg10
  have hgz := grown_new (World.grownBy_alloc w6 (.cells Rf.zero.cells 40) none) hg10 (Nat.le_refl _)
  have HA10 := Lib.hid (show w8.heap[w6.heap.size]? = some (.cells r1.cells 40 (0, 0)) from hb10)
  have HA6 := Lib.hid ((hgz.block _ (lt_of_block HA6.out) (by simp)).trans HA6.out)
  have HT8 := Lib.hid (HT6.out.keptNone hgz)
  clear hgz hg10 hb10 HN10 HT6 HT5
  go_wp2_with (with_reducible refine hold_ld 40 _ rfl ?_)
  apply Lib.hid
  with_reducible refine wpList_load_blk rfl 40 _ rfl _ ?o1806 ?hx1806 _ _ _ HA6.out _ 3 ?hn1806 Try.underlying40 rfl Try.size40 ?_
  case hx1806 => exact rfl
  case hn1806 => exact rfl
  have kc := Lib.run_convert_bytes_const (P := Try.prog) w8 22 5 #[.int .u8 122] 1 1 Try.underlying22 Try.underlying5
  have hgk := World.grownBy_alloc w8 (.cells #[.int .u8 122] 5 (1, 2)) none
  have HT9 := Lib.hid (HT8.out.keptNone hgk)
  have HZS := Lib.hid (show Inn M6 (w8.alloc (.cells #[.int .u8 122] 5 (1, 2))) (.slice (some ⟨w8.heap.size, 0, none⟩) 1 1) [122] from ⟨_, 1, rfl, src_lit w8 [122] 1 2, fun _ b o e hmb => by cases e; have := (HT8.out.mw _ hmb).2; omega⟩)
  have HA6' := Lib.hid ((hgk.block _ (lt_of_block HA6.out) (by simp)).trans HA6.out)
  have HA10' := Lib.hid ((hgk.block _ (lt_of_block HA10.out) (by simp)).trans HA10.out)
  clear hgk
  go_wp2_with fail
  refine (act_any M6 Bd cd r g ⟨0, some ⟨w8.heap.size, 0, none⟩, 1, 1⟩ [122] _ HT9.out.hd (HT9.out.rs (r, g) (by simp)) hnb (fun k hk => (HT9.out.mw k hk).2) rfl HZS.out (by decide)).mono ?_; rintro e w9 ⟨cd', r2, M9, rfl, hP⟩
  have HTd := Lib.hid (show T3 _ M9 (Bn, cn', g1) (Bc, cc, g) (Bd, cd', g2) [(r2, g2), (r1, g1), (r, g)] w9 from by rw [HG2E.out]; exact HT9.out.actd hP)
  have HA6 := Lib.hid ((hP.keep.block _ (lt_of_block HA6'.out) (HT9.out.hd.nown HA6'.out)).trans HA6'.out)
  have HA10 := Lib.hid ((hP.keep.block _ (lt_of_block HA10'.out) (HT9.out.hd.nown HA10'.out)).trans HA10'.out)
  have HN12 := Lib.hid (heap_alloc_new w9 (.cells Rf.zero.cells 40))
  clear hP kc HZS HA6' HA10' HT9 HT8
  go_wp2_with (with_reducible refine hold_st 40 _ _ rfl ?_)
  apply Lib.hid
  with_reducible refine wpList_store_all rfl 40 _ _ rfl _ ?cs1803 ?hx1803 ?hy1803 _ _ HN12.out ?hf1803 _ ?hl1803 Try.size40 ?h11803 ?_
  case hy1803 => exact rfl
  case hx1803 => exact rfl
  case hf1803 => exact rfl
  case hl1803 => exact rfl
  case h11803 => simp [allOne, Value.oneCell']
  intro w11 hb12 hg12
  have hgz := grown_new (World.grownBy_alloc w9 (.cells Rf.zero.cells 40) none) hg12 (Nat.le_refl _)
  have HA12 := Lib.hid (show w11.heap[w9.heap.size]? = some (.cells r2.cells 40 (0, 0)) from hb12)
  have HA6 := Lib.hid ((hgz.block _ (lt_of_block HA6.out) (by simp)).trans HA6.out)
  have HA10 := Lib.hid ((hgz.block _ (lt_of_block HA10.out) (by simp)).trans HA10.out)
  have HT11 := Lib.hid (HTd.out.keptNone hgz)
  obtain ⟨lb, hlbn⟩ : ∃ lb, lb = g.nextB.length := ⟨_, rfl⟩
  have HLBN := Lib.hid hlbn
  clear hgz hg12 hb12 HN12 HTd hlbn
  go_wp2_with fail
  refine (next_any _ Bc cc g lb _ HT11.out.hc hnb hlb.1 HLBN.out).mono ?_; rintro e w12 ⟨pa, pc, rfl, hps, hpr, hpv, hg⟩
  have HPR := Lib.hid hpr
  have HPV := Lib.hid hpv
  have HGP := Lib.hid hg
  clear hps hpr hpv hg
  go_wp2
  go_loopw [17] (fun i wr => ∃ j : Nat, j ≤ lb ∧ i = .int .i64 j ∧ (∃ l : List UInt8, l.length = lb ∧ Gs eB wr (.slice pa lb pc) lb (bsV l)) ∧ Keeps (fun k => rowOf (.slice pa lb pc) = some k) w12 wr) (fun i _ => lb - (intOf i).toNat)
  case atStart => exact ⟨0, Nat.zero_le _, rfl, ⟨g.nextB, HLBN.out.symm, HPV.out⟩, Keeps.refl _ _⟩
  case round =>
    obtain ⟨j, hj, rfl, ⟨l, hll, hSr⟩, hKr⟩ := hrel
    rcases Nat.lt_or_ge j lb with hlt | hge
    · obtain ⟨gb, o, he⟩ := hSr.some_of (by omega)
      subst he
      have hjl : j < l.length := by omega
      have hcr := hSr.cell j _ (bV_get l j hjl)
      have hfr : wr.frozen? ⟨gb, o + j, none⟩ = false := hSr.free (o + j)
      have hlt' : (j : Int) < (lb : Nat) := by omega
      have hw8 := u8_succ (l[j]'hjl)
      have hS' := Lib.hid (hSr.setAt hll j hjl ((l[j]'hjl) + 1))
      have hK' := Lib.hid (hKr.trans (Keeps.row (grown_setCell wr gb (o + j) (.int .u8 (((l[j]'hjl) + 1).toNat : Int))) rfl))
      have hlb2 : lb ≤ 1000000 := by
        rw [HLBN.out]
        rcases Nat.lt_or_ge g.taken g.came.length with h | h
        · rw [g.nextB_eq h]; exact hlb.1 _ (List.getElem_mem h)
        · rw [g.nextB_nil h]; simp
      have hwj : IntKind.i64.wrap ((j : Int) + 1) = ((j + 1 : Nat) : Int) := by rw [IntKind.wrap_i64]; omega
      have hll' := Lib.hid (show (l.set j ((l[j]'hjl) + 1)).length = lb by simpa using hll)
      generalize hcl : (l[j]'hjl) = cl at *
      simp only [bV] at hcr
      clear hSr hKr hll
      go_wp2
      go_roundw
      case rel => exact ⟨j + 1, by omega, rfl, ⟨_, hll'.out, hS'.out⟩, hK'.out⟩
      case measure => simp [intOf]; omega
    · obtain ⟨w14, rfl⟩ : ∃ w14 : World, w14 = wr := ⟨_, rfl⟩
      have hjn : j = lb := by omega
      have hgw : w11.grownBy w14 none := ((Keeps.keep (X := fun k => w11.heap.size ≤ k) HGP.out).trans (hKr.mono (fun i _ e => HPR.out i e))).toGrown (fun i hi hx => by omega)
      have HT14 := Lib.hid (HT11.out.keptNone hgw)
      have HA6 := Lib.hid ((hgw.block _ (lt_of_block HA6.out) (by simp)).trans HA6.out)
      have HA10 := Lib.hid ((hgw.block _ (lt_of_block HA10.out) (by simp)).trans HA10.out)
      have HA12 := Lib.hid ((hgw.block _ (lt_of_block HA12.out) (by simp)).trans HA12.out)
      have hlt' : ¬ (j : Int) < (lb : Nat) := by omega
      clear hjn hgw hKr hSr hll HT11 HGP HPR HPV hge
      go_wp2_with fail
      refine (queue_nk _ Bc cc g _ HT14.out.hc hlb.1 (by have := hnb.came; omega)).mono ?_; rintro e w15 ⟨vq, rfl, hCq, hg15⟩
      have HT15 := Lib.hid (HT14.out.keptNone hg15)
      have HG15 := Lib.hid hg15
      obtain ⟨vsq, hvq, hrq, hcq⟩ := hCq
      obtain ⟨nq, hnq⟩ : ∃ nq, nq = (g.came.drop g.taken).length := ⟨_, rfl⟩
      rw [← hnq] at hvq
      obtain ⟨qa, qc, hqe, _⟩ := hvq.shape
      subst hqe
      have HVQ := Lib.hid hvq
      have HRQ := Lib.hid hrq
      have HCQ := Lib.hid hcq
      have HNQ := Lib.hid hnq
      have hnq5 : nq < 100000 := by rw [hnq, List.length_drop]; have := hnb.came; omega
      clear hg15 hvq hrq hcq hnq
      go_wp2_with fail
      refine (sent_nk _ Bc cc g _ HT15.out.hc hlb.2 (by have := hnb.sent; omega)).mono ?_; rintro e w16 ⟨vs_, rfl, hCs, hg16⟩
      have HT16 := Lib.hid (HT15.out.keptNone hg16)
      have HG16 := Lib.hid hg16
      obtain ⟨vss, hvs, hrs, hcs⟩ := hCs
      obtain ⟨ns, hns⟩ : ∃ ns, ns = g.sent.length := ⟨_, rfl⟩
      rw [← hns] at hvs
      obtain ⟨sa, sc, hse, _⟩ := hvs.shape
      subst hse
      have HVS := Lib.hid hvs
      have HRS := Lib.hid hrs
      have HCS := Lib.hid hcs
      have hns5 : ns < 100000 := by rw [hns]; exact hnb.sent
      have HSS := Lib.hid (hvs.src)
      have HS1 := Lib.hid hvs.2.1
      have HVQ16 := Lib.hid (HVQ.out.keptNone hg16)
      clear hg16 hvs hrs hcs hns
      go_wp2_with (at_builtin; refine wpList_gs eL rfl _ _ 34 rfl (.slice sa ns sc) nq ns vsq vss rfl rfl HVQ16.out HSS.out HS1.out (by omega) ?_)
      intro vl w17 hQl hg17 hrl
      obtain ⟨la, lc, hle, _⟩ := hQl.shape
      subst hle
      have hWI := l_start HG15.out HG16.out hg17 HCQ.out HCS.out HVQ16.out HRQ.out hQl
      have HWI := Lib.hid hWI
      obtain ⟨m, hm17⟩ : ∃ m, m = nq + ns := ⟨_, rfl⟩
      rw [← hm17] at hWI
      rw [← hm17]
      have HWI := Lib.hid hWI
      have hm5 : m < 200000 := by omega
      obtain ⟨nl, hnl⟩ : ∃ nl, nl = (g.came.drop g.taken ++ g.sent).map List.length := ⟨_, rfl⟩
      rw [← hnl] at hWI
      have HWI := Lib.hid hWI
      have HNL := Lib.hid (show nl.length = m from by rw [hWI.cb.1.symm.trans (by have := hWI.gs.1; simpa [eL] using this)])
      have HNB := Lib.hid (show ∀ j (h : j < nl.length), nl[j]'h ≤ 1000000 from fun j h => by
        subst hnl
        simp only [List.getElem_map]
        have hmem := List.getElem_mem (l := g.came.drop g.taken ++ g.sent) (n := j) (by simpa using h)
        rcases List.mem_append.1 hmem with h2 | h2
        · exact hlb.1 _ (List.mem_of_mem_drop h2)
        · exact hlb.2 _ h2)
      clear hQl hg17 hrl hWI hm17 hnl HVQ HRQ HCQ HVS HRS HCS HSS HS1 HVQ16
      go_wp2
      go_loopw [19] (fun i wq => ∃ j : Nat, j ≤ m ∧ i = .int .i64 j ∧ WI w14 la m lc (vsq ++ vss) nl wq) (fun i _ => m - (intOf i).toNat)
      case atStart => exact ⟨0, Nat.zero_le _, rfl, HWI.out⟩
      case round =>
        obtain ⟨j, hj, rfl, hW⟩ := hrel
        obtain ⟨w18, rfl⟩ : ∃ w18 : World, w18 = wr := ⟨_, rfl⟩
        have HWJ := Lib.hid hW
        clear hW HWI
        by_cases hlt : j < m
        · obtain ⟨lg, lo, hla⟩ := HWJ.out.gs.some_of (by omega)
          subst hla
          have hjn : j < nl.length := by rw [HNL.out]; exact hlt
          obtain ⟨u, lu, e1, e2, e3, e4⟩ := HWJ.out.cb.2 j hjn
          obtain ⟨nj, hnj⟩ : ∃ nj, nj = nl[j]'hjn := ⟨_, rfl⟩
          rw [← hnj] at e2 e3
          have hnj5 : nj ≤ 1000000 := by rw [hnj]; exact HNB.out j hjn
          obtain ⟨ua, uc, hue, _⟩ := e3.shape
          subst hue
          have HE1 := Lib.hid e1
          have HNJ := Lib.hid hnj
          have hlt' : (j : Int) < (m : Nat) := by omega
          have hwj : IntKind.i64.wrap ((j : Int) + 1) = ((j + 1 : Nat) : Int) := by rw [IntKind.wrap_i64]; omega
          have HLT' := Lib.hid hlt'
          clear e1 e2 e3 e4 hnj
          go_wp2
          go_loopw [20] (fun i wq => ∃ k : Nat, k ≤ nj ∧ i = .int .i64 k ∧ WI w14 (some ⟨lg, lo, none⟩) m lc (vsq ++ vss) nl wq) (fun i _ => nj - (intOf i).toNat)
          case atStart => exact ⟨0, Nat.zero_le _, rfl, HWJ.out⟩
          case round =>
            obtain ⟨k, hk, rfl, hW⟩ := hrel
            obtain ⟨wr2, rfl⟩ : ∃ wr2 : World, wr2 = wr := ⟨_, rfl⟩
            have HWK := Lib.hid hW
            clear hW HWJ
            have c1 := HWK.out.gs.cell j _ HE1.out
            have HLC := Lib.hid (show wr2.drew.cell? ⟨lg, lo + j, none⟩ = _ from c1)
            rcases Nat.lt_or_ge k nj with hkt | hge
            · obtain ⟨u2, l2, f1, f2, f3, f4⟩ := HWK.out.cb.2 j hjn
              obtain rfl := Option.some.inj (HE1.out.symm.trans f1)
              rw [← HNJ.out] at f2 f3
              obtain ⟨gi, oi, hua⟩ := f3.some_of (by omega)
              subst hua
              have hkl : k < l2.length := by omega
              have HBC := Lib.hid (show wr2.drew.cell? ⟨gi, oi + k, none⟩ = some (.int .u8 ((l2[k]'hkl).toNat : Int)) from f3.cell k _ (bV_get l2 k hkl))
              have HBF := Lib.hid (show wr2.drew.frozen? ⟨gi, oi + k, none⟩ = false from f3.free (oi + k))
              obtain ⟨csi, hcsi⟩ := f3.block gi rfl
              have HLN := Lib.hid (show ¬ (lg = gi) from fun e => HWK.out.gs.ne hcsi (by decide) (e ▸ rfl))
              have HW8 := Lib.hid (u8_succ (l2[k]'hkl))
              generalize (l2[k]'hkl) = xl at *
              have HWF := Lib.hid ((HWK.out.drew).set (p := oi + k) (xl + 1) (show wr2.drew.heap[gi]? = some (.cells csi 5 (0, 0)) from hcsi) (f4 gi rfl))
              have hkt' : (k : Int) < (nj : Nat) := by omega
              have hwk : IntKind.i64.wrap ((k : Int) + 1) = ((k + 1 : Nat) : Int) := by rw [IntKind.wrap_i64]; omega
              clear f1 f2 f3 f4 hcsi
              go_wp2
              clear c1
              refine regx_open (fun k => k = gi) (n := 15) rfl (by kernel_rfl) ?_
              refine regx_take 0 (some 116) (v := ?_) rfl rfl (by kernel_rfl) (by kernel_rfl) (by kernel_rfl) (fun _ _ _ h => h) (by rfl) ?_ ?_
              rotate_left
              · intro W hW; go_simp; first | done | with_reducible rfl
              try simp only [Act.put, List.setIfInBounds_toArray, List.set_cons_zero, List.set_cons_succ]
              refine regx_take 1 (some 117) (v := ?_) rfl rfl (by kernel_rfl) (by kernel_rfl) (by kernel_rfl) (fun _ _ _ h => h) (by rfl) ?_ ?_
              rotate_left
              · intro W hW; go_simp; first | done | with_reducible rfl
              try simp only [Act.put, List.setIfInBounds_toArray, List.set_cons_zero, List.set_cons_succ]
              refine regx_take 2 (some 118) (v := ?_) rfl rfl (by kernel_rfl) (by kernel_rfl) (by kernel_rfl) (fun _ _ _ h => h) (by rfl) ?_ ?_
              rotate_left
              · intro W hW; go_simp; first | done | with_reducible rfl
              try simp only [Act.put, List.setIfInBounds_toArray, List.set_cons_zero, List.set_cons_succ]
              refine regx_take 3 (some 119) (v := ?_) rfl rfl (by kernel_rfl) (by kernel_rfl) (by kernel_rfl) (fun _ _ _ h => h) (by rfl) ?_ ?_
              rotate_left
              · intro W hW; have k1 := keeps_cell hW (show wr2.drew.cell? ⟨lg, lo + j, none⟩ = _ from HLC.out) HLN.out; go_simp; first | done | with_reducible rfl
              try simp only [Act.put, List.setIfInBounds_toArray, List.set_cons_zero, List.set_cons_succ]
              refine regx_take 4 (some 120) (v := ?_) rfl rfl (by kernel_rfl) (by kernel_rfl) (by kernel_rfl) (fun _ _ _ h => h) (by rfl) ?_ ?_
              rotate_left
              · intro W hW; go_simp; first | done | with_reducible rfl
              try simp only [Act.put, List.setIfInBounds_toArray, List.set_cons_zero, List.set_cons_succ]
              refine regx_take 5 (some 121) (v := ?_) rfl rfl (by kernel_rfl) (by kernel_rfl) (by kernel_rfl) (fun _ _ _ h => h) (by rfl) ?_ ?_
              rotate_left
              · intro W hW; go_simp; first | done | with_reducible rfl
              try simp only [Act.put, List.setIfInBounds_toArray, List.set_cons_zero, List.set_cons_succ]
              refine regx_take 6 (some 122) (v := ?_) rfl rfl (by kernel_rfl) (by kernel_rfl) (by kernel_rfl) (fun _ _ _ h => h) (by rfl) ?_ ?_
              rotate_left
              · intro W hW; go_simp; first | done | with_reducible rfl
              try simp only [Act.put, List.setIfInBounds_toArray, List.set_cons_zero, List.set_cons_succ]
              refine regx_take 7 (some 123) (v := ?_) rfl rfl (by kernel_rfl) (by kernel_rfl) (by kernel_rfl) (fun _ _ _ h => h) (by rfl) ?_ ?_
              rotate_left
              · intro W hW; go_simp; first | done | with_reducible rfl
              try simp only [Act.put, List.setIfInBounds_toArray, List.set_cons_zero, List.set_cons_succ]
              refine regx_take 8 (some 124) (v := ?_) rfl rfl (by kernel_rfl) (by kernel_rfl) (by kernel_rfl) (fun _ _ _ h => h) (by rfl) ?_ ?_
              rotate_left
              · intro W hW; have k1 := keeps_cell hW (show wr2.drew.cell? ⟨lg, lo + j, none⟩ = _ from HLC.out) HLN.out; go_simp; first | done | with_reducible rfl
              try simp only [Act.put, List.setIfInBounds_toArray, List.set_cons_zero, List.set_cons_succ]
              refine regx_take 9 (some 125) (v := ?_) rfl rfl (by kernel_rfl) (by kernel_rfl) (by kernel_rfl) (fun _ _ _ h => h) (by rfl) ?_ ?_
              rotate_left
              · intro W hW; go_simp; first | done | with_reducible rfl
              try simp only [Act.put, List.setIfInBounds_toArray, List.set_cons_zero, List.set_cons_succ]
              refine regx_take 10 (some 126) (v := ?_) rfl rfl (by kernel_rfl) (by kernel_rfl) (by kernel_rfl) (fun _ _ _ h => h) (by rfl) ?_ ?_
              rotate_left
              · intro W hW; go_simp; first | done | with_reducible rfl
              try simp only [Act.put, List.setIfInBounds_toArray, List.set_cons_zero, List.set_cons_succ]
              refine wpAnyH_ready (rs := [11]) (by kernel_rfl) (by simp) ?_
              refine (AllReadyH.cons (o := { dst := some 127, op := Op.load 5 (Operand.tmp 126), type := 5, pos := "law.go:156", after := #[{ on := 10, ground := Ground.data }], guard := none }) rfl (fun K hK => ?_) AllReadyH.nil)
              have k1 : (wr2.drew).cell? ⟨gi, oi + k, none⟩ = _ := HBC.out
              go_simp
              refine regx_same hK ?_
              clear hK K
              try simp only [Act.put, List.setIfInBounds_toArray, List.set_cons_zero, List.set_cons_succ]
              refine regx_take 12 (some 128) (v := ?_) rfl rfl (by kernel_rfl) (by kernel_rfl) (by kernel_rfl) (fun _ _ _ h => h) (by rfl) ?_ ?_
              rotate_left
              · intro W hW; have k2 := HW8.out; go_simp; first | done | with_reducible rfl
              try simp only [Act.put, List.setIfInBounds_toArray, List.set_cons_zero, List.set_cons_succ]
              refine regx_take 13 (some 129) (v := ?_) rfl rfl (by kernel_rfl) (by kernel_rfl) (by kernel_rfl) (fun _ _ _ h => h) (by rfl) ?_ ?_
              rotate_left
              · intro W hW; go_simp; first | done | with_reducible rfl
              try simp only [Act.put, List.setIfInBounds_toArray, List.set_cons_zero, List.set_cons_succ]
              refine wpAnyH_ready (rs := [14]) (by kernel_rfl) (by simp) ?_
              refine (AllReadyH.cons (o := { dst := none, op := Op.store 5 (Operand.tmp 129) (Operand.tmp 128), type := 0, pos := "law.go:156", after := #[{ on := 13, ground := Ground.data }, { on := 12, ground := Ground.data }, { on := 0, ground := Ground.phase }, { on := 1, ground := Ground.phase }, { on := 2, ground := Ground.phase }, { on := 3, ground := Ground.phase }, { on := 4, ground := Ground.phase }, { on := 5, ground := Ground.phase }, { on := 6, ground := Ground.phase }, { on := 7, ground := Ground.phase }, { on := 8, ground := Ground.phase }, { on := 9, ground := Ground.phase }, { on := 10, ground := Ground.phase }, { on := 11, ground := Ground.phase }, { on := 12, ground := Ground.phase }], guard := none }) rfl (fun K hK => ?_) AllReadyH.nil)
              have k3 : (wr2.drew).cell? ⟨gi, oi + k, none⟩ = _ := HBC.out
              have k4 : (wr2.drew).frozen? ⟨gi, oi + k, none⟩ = false := HBF.out
              go_simp
              refine regx_next hK (Keeps.row (grown_setCell _ gi _ _) rfl) ?_
              clear hK K
              try simp only [Act.put]
              refine wpAnyH_done (by kernel_rfl) ?_ _
              skip
              go_wp2
              go_roundw
              case rel => exact ⟨k + 1, by omega, rfl, HWF.out⟩
              case measure => simp [intOf]; omega
            · have hkt' : ¬ (k : Int) < (nj : Nat) := by omega
              go_wp2
              go_roundw
              case rel => exact ⟨j + 1, by omega, rfl, HWK.out⟩
              case measure => simp [intOf]; omega
        · have hlt' : ¬ (j : Int) < (m : Nat) := by omega
          have hgw : w14.grownBy w18 none := HWJ.out.k.toGrown (fun i hi hx => by omega)
          have HT17 := Lib.hid (HT14.out.keptNone hgw)
          have HA6 := Lib.hid ((hgw.block _ (lt_of_block HA6.out) (by simp)).trans HA6.out)
          have HA10 := Lib.hid ((hgw.block _ (lt_of_block HA10.out) (by simp)).trans HA10.out)
          have HA12 := Lib.hid ((hgw.block _ (lt_of_block HA12.out) (by simp)).trans HA12.out)
          clear hgw hlt HWJ HT14 HT15 HT16 HG15 HG16
          go_wp2_with (with_reducible refine hold_ld 40 _ rfl ?_)
          apply Lib.hid
          with_reducible refine wpList_load_blk rfl 40 _ rfl _ ?o1807 ?hx1807 _ _ _ HA6.out _ 3 ?hn1807 Try.underlying40 rfl Try.size40 ?_
          case hx1807 => exact rfl
          case hn1807 => exact rfl
          go_wp2_with (with_reducible refine hold_ld 40 _ rfl ?_)
          apply Lib.hid
          with_reducible refine wpList_load_blk rfl 40 _ rfl _ ?o1808 ?hx1808 _ _ _ HA10.out _ 3 ?hn1808 Try.underlying40 rfl Try.size40 ?_
          case hx1808 => exact rfl
          case hn1808 => exact rfl
          go_wp2_with fail
          refine (ref_same_q _ _ r r1 g g1 sm _ HSM.out (HT17.out.rs (r, g) (by simp)) (HT17.out.rs (r1, g1) (by simp)) hnb hnb1).mono ?_; rintro e w19 ⟨rfl, hg⟩
          have HT18 := Lib.hid (HT17.out.keptNone hg)
          have HA6 := Lib.hid ((hg.block _ (lt_of_block HA6.out) (by simp)).trans HA6.out)
          have HA10 := Lib.hid ((hg.block _ (lt_of_block HA10.out) (by simp)).trans HA10.out)
          have HA12 := Lib.hid ((hg.block _ (lt_of_block HA12.out) (by simp)).trans HA12.out)
          clear hg HT17
          go_wp2_with fail
          refine (push_nil none 0 0 _).mono ?_; rintro e w' ⟨rfl, rfl⟩
          go_wp2_with fail
          refine (send_nil none 0 0 _).mono ?_; rintro e w' ⟨rfl, rfl⟩
          go_wp2_with fail
          refine (next_nil _).mono ?_; rintro e w20 ⟨rfl, hg⟩
          have HT20 := Lib.hid (HT18.out.keptNone hg)
          have HA6 := Lib.hid ((hg.block _ (lt_of_block HA6.out) (by simp)).trans HA6.out)
          have HA10 := Lib.hid ((hg.block _ (lt_of_block HA10.out) (by simp)).trans HA10.out)
          have HA12 := Lib.hid ((hg.block _ (lt_of_block HA12.out) (by simp)).trans HA12.out)
          clear hg HT18
          go_wp2_with fail
          refine (count_nil _).mono ?_; rintro e w' ⟨rfl, rfl⟩
          have k0 := cells_all HA6.out 0
          have k1 := cells_all HA6.out 1
          have k2 := cells_all HA6.out 2
          go_wp2_with fail
          refine (is_ok _ Bc cc r g _ HT20.out.hc (HT20.out.rs (r, g) (by simp)) hnb hlb).mono ?_; rintro e w21 ⟨rfl, hg⟩
          have HT21 := Lib.hid (HT20.out.keptNone hg)
          have HA6 := Lib.hid ((hg.block _ (lt_of_block HA6.out) (by simp)).trans HA6.out)
          have HA10 := Lib.hid ((hg.block _ (lt_of_block HA10.out) (by simp)).trans HA10.out)
          have HA12 := Lib.hid ((hg.block _ (lt_of_block HA12.out) (by simp)).trans HA12.out)
          clear hg k0 k1 k2
          have k0 := cells_all HA10.out 0
          have k1 := cells_all HA10.out 1
          have k2 := cells_all HA10.out 2
          go_wp2_with fail
          refine (is_ok _ Bn cn' r1 g1 _ HT21.out.hn (HT21.out.rs (r1, g1) (by simp)) hnb1 hlb1).mono ?_; rintro e w22 ⟨rfl, hg⟩
          have HT22 := Lib.hid (HT21.out.keptNone hg)
          have HA6 := Lib.hid ((hg.block _ (lt_of_block HA6.out) (by simp)).trans HA6.out)
          have HA10 := Lib.hid ((hg.block _ (lt_of_block HA10.out) (by simp)).trans HA10.out)
          have HA12 := Lib.hid ((hg.block _ (lt_of_block HA12.out) (by simp)).trans HA12.out)
          clear hg k0 k1 k2
          have k0 := cells_all HA12.out 0
          have k1 := cells_all HA12.out 1
          have k2 := cells_all HA12.out 2
          go_wp2_with fail
          refine (is_ok _ Bd cd' r2 g2 _ HT22.out.hd (HT22.out.rs (r2, g2) (by simp)) hnb2 hlb2).mono ?_; rintro e w23 ⟨rfl, hg⟩
          have HT23 := Lib.hid (HT22.out.keptNone hg)
          have HA6 := Lib.hid ((hg.block _ (lt_of_block HA6.out) (by simp)).trans HA6.out)
          have HA10 := Lib.hid ((hg.block _ (lt_of_block HA10.out) (by simp)).trans HA10.out)
          have HA12 := Lib.hid ((hg.block _ (lt_of_block HA12.out) (by simp)).trans HA12.out)
          clear hg k0 k1 k2
          go_wp2_with fail
          refine (same_q _ _ Bn Bc cn' cc g1 g sm _ HSM1.out HT23.out.hn HT23.out.hc hnb1 hnb hlb1 hlb).mono ?_; rintro e w24 ⟨rfl, hg⟩
          have HT24 := Lib.hid (HT23.out.keptNone hg)
          have HA6 := Lib.hid ((hg.block _ (lt_of_block HA6.out) (by simp)).trans HA6.out)
          have HA10 := Lib.hid ((hg.block _ (lt_of_block HA10.out) (by simp)).trans HA10.out)
          have HA12 := Lib.hid ((hg.block _ (lt_of_block HA12.out) (by simp)).trans HA12.out)
          clear hg
          go_wp2_with fail
          refine (same_q _ _ Bc Bn cc cn' g g1 sm _ HSM.out HT24.out.hc HT24.out.hn hnb hnb1 hlb hlb1).mono ?_; rintro e w25 ⟨rfl, hg⟩
          have HT25 := Lib.hid (HT24.out.keptNone hg)
          have HA6 := Lib.hid ((hg.block _ (lt_of_block HA6.out) (by simp)).trans HA6.out)
          have HA10 := Lib.hid ((hg.block _ (lt_of_block HA10.out) (by simp)).trans HA10.out)
          have HA12 := Lib.hid ((hg.block _ (lt_of_block HA12.out) (by simp)).trans HA12.out)
          clear hg
          go_wp2_with fail
          refine (num_any _ _).mono ?_; rintro e w' ⟨rfl, rfl⟩
          go_wp2_with fail
          refine (num_any _ _).mono ?_; rintro e w' ⟨rfl, rfl⟩
          go_wp2_with fail
          refine (take_nil _).mono ?_; rintro e w' ⟨rfl, rfl⟩
          go_wp2_with fail
          refine (waits_nil _).mono ?_; rintro e w' ⟨rfl, rfl⟩
          go_wp2_with fail
          refine (queue_nil0 _).mono ?_; rintro e w26 ⟨aq, cq, rfl, hg⟩
          have HT26 := Lib.hid (HT25.out.keptNone hg)
          clear hg
          go_wp2_with fail
          refine (sent_nil _).mono ?_; rintro e w' ⟨rfl, rfl⟩
          go_wp2_with fail
          refine (copy_nil _).mono ?_; rintro e w' ⟨rfl, rfl⟩
          go_wp2_with fail
          refine (same_nils _).mono ?_; rintro e w' ⟨rfl, rfl⟩
          go_wp2_with fail
          refine (same_nil1 Bc cc _ HT26.out.hc.nk).mono ?_; rintro e w' ⟨rfl, rfl⟩
          go_wp2_with fail
          refine (same_nil2 Bc cc _ HT26.out.hc.nk).mono ?_; rintro e w' ⟨rfl, rfl⟩
          go_wp2_with fail
          refine (works_any _).mono ?_; rintro e wz ⟨rfl, hg⟩
          have HG := Lib.hid (HGB.out.trans (HT26.out.g.trans hg))
          clear hg
          go_wp2
          go_ret
          exact ⟨rfl, HG.out⟩

end Go.Proofs.Ytnglbneefkdfgaa
