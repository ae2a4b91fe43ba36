import Derived.Test.YtmdgehpmeikgfaaQ
set_option linter.unusedVariables false
namespace Go.Proofs.Ytmdgehpmeikgfaa
open Go.RowKit
theorem LS.own_zero {w : World} {B : Nat} {c : Lc} {g : Gh} (h : LS w B c g) : ¬ own c B w.heap.size := fun k => by have := h.lt _ k; omega
set_option maxRecDepth 100000 in
set_option maxHeartbeats 8000000 in
theorem act_take_none (B : Nat) (c : Lc) (r : Rf) (g : Gh) (x : Ac) (bs : List UInt8) (w : World) (hL : LS w B c g) (hR : RS w r g) (hS : ∀ k, own c B k → ¬ rrow r k) (hw : x.what = 2) (hk : g.taken = g.pushed.length) : Calls Try.prog 30 #[.pointer (some ⟨B, 0, none⟩), r.val, x.val] w fun e w' => ∃ c' r', e = .returned (.tuple #[r'.val, .bool true]) ∧ Post w w' B c c' r r' (g.step x bs) := by
  obtain ⟨hg0, b1, b2, b3⟩ := three_new w (.cells r.cells 29) (.cells x.cells 49) (.cells Rf.zero.cells 29)
  have HB1 := Lib.hid (show _ from b1)
  have HB2 := Lib.hid b2
  have HB3 := Lib.hid b3
  have HG0 := Lib.hid hg0
  have HL := Lib.hid hL
  have HR := Lib.hid hR
  have HS := Lib.hid hS
  have HLK0 := Lib.hid (hL.lk.keptNone hg0)
  have HST := Lib.hid (show g = g.step x bs by simp [Gh.step, hw, hk])
  have HQ0 := Lib.hid (show Sl _ c.qv [] from (by have := hL.q; rw [hk, List.drop_length] at this; exact this.keptNone hg0))
  have HTK := Lib.hid (show r.taken = (r.pn : Nat) by rw [hR.tk, hR.pn, hk])
  clear hg0 b1 b2 b3 hL hR hS
  obtain ⟨what, line, ba, bn, bc, byte, word, up⟩ := x
  simp only at hw
  subst hw
  go_enter Try.func30, Try.ntmps30
  go_wp2_with (with_reducible refine hold_ld 29 _ rfl ?_)
  apply Lib.hid
  with_reducible refine wpList_load_blk rfl 29 _ rfl _ ?o3601 ?hx3601 _ _ _ HB1.out _ 9 ?hn3601 Try.underlying29 rfl Try.size29 ?_
  case hx3601 => exact rfl
  case hn3601 => exact rfl
  go_wp2_with fail
  refine (rtake_none r HTK.out _).mono ?_; rintro e u1 ⟨rfl, h1⟩
  have HB1u := Lib.hid ((h1.block _ (lt_of_block HB1.out) (by simp)).trans HB1.out)
  have HB2u := Lib.hid ((h1.block _ (lt_of_block HB2.out) (by simp)).trans HB2.out)
  have HB3u := Lib.hid ((h1.block _ (lt_of_block HB3.out) (by simp)).trans HB3.out)
  have HG1 := Lib.hid (HG0.out.trans h1)
  clear h1
  have hga := World.grownBy_alloc u1 (.cells Rf.zero.cells 29) none
  have hna := heap_alloc_new u1 (.cells Rf.zero.cells 29)
  have HB1m := Lib.hid ((hga.block _ (lt_of_block HB1u.out) (by simp)).trans HB1u.out)
  have HB2m := Lib.hid ((hga.block _ (lt_of_block HB2u.out) (by simp)).trans HB2u.out)
  have HB3m := Lib.hid ((hga.block _ (lt_of_block HB3u.out) (by simp)).trans HB3u.out)
  have HNA := Lib.hid hna
  have HGA := Lib.hid hga
  clear hga hna
  go_wp2_with (with_reducible refine hold_st 29 _ _ rfl ?_)
  apply Lib.hid
  with_reducible refine wpList_store_all rfl 29 _ _ rfl _ ?cs3602 ?hx3602 ?hy3602 _ _ HNA.out ?hf3602 _ ?hl3602 Try.size29 ?h13602 ?_
  case hy3602 => exact rfl
  case hx3602 => exact rfl
  case hf3602 => exact rfl
  case hl3602 => exact rfl
  case h13602 => simp [allOne, Value.oneCell']
  intro u2 hb2 hg2
  have HB1v := Lib.hid ((hg2.block _ (lt_of_block HB1m.out) (by have := lt_of_block HB3u.out; simp; omega)).trans HB1m.out)
  have HB2v := Lib.hid ((hg2.block _ (lt_of_block HB2m.out) (by have := lt_of_block HB3u.out; simp; omega)).trans HB2m.out)
  have HB3v := Lib.hid ((hg2.block _ (lt_of_block HB3m.out) (by have := lt_of_block HB3u.out; simp; omega)).trans HB3m.out)
  have HA := Lib.hid hb2
  have HG2 := Lib.hid (grown_new HGA.out hg2 (Nat.le_refl _))
  have hsz2 := lt_of_block HB3u.out
  clear hb2 hg2
  have HK2 := Lib.hid (Keeps.keep (X := own c B) (HG1.out.trans HG2.out))
  have HLK2 := Lib.hid ((HL.out.keptNone (HG1.out.trans HG2.out)).lk)
  go_wp2_with fail
  refine (take_none B c _ HLK2.out ((HL.out.q).keptNone (HG1.out.trans HG2.out) |> fun h => by have e := HQ0.out; rw [hk, List.drop_length] at h; exact h)).mono ?_; rintro e u3 ⟨rfl, rfl⟩
  go_wp2_with (with_reducible refine hold_ld 29 _ rfl ?_)
  apply Lib.hid
  with_reducible refine wpList_load_blk rfl 29 _ rfl _ ?o3603 ?hx3603 _ _ _ HA.out _ 9 ?hn3603 Try.underlying29 rfl Try.size29 ?_
  case hx3603 => exact rfl
  case hn3603 => exact rfl
  go_wp2_with (with_reducible refine hold_st 29 _ _ rfl ?_)
  apply Lib.hid
  with_reducible refine wpList_store_all rfl 29 _ _ rfl _ ?cs3604 ?hx3604 ?hy3604 _ _ HB3v.out ?hf3604 _ ?hl3604 Try.size29 ?h13604 ?_
  case hy3604 => exact rfl
  case hx3604 => exact rfl
  case hf3604 => exact rfl
  case hl3604 => exact rfl
  case h13604 => simp [allOne, Value.oneCell']
  intro w5 hb5 hg5
  have HZ5 := Lib.hid hb5
  have HT5 := Lib.hid ((Keeps.row (X := fun k => w.heap.size ≤ k ∧ k < w.heap.size + 3) hg5 (mid 2 rfl (by omega))))
  clear hb5 hg5
  go_wp2
  refine bodyPost_ret (results_c29t rfl _ _ _ _ (by rfl) (by rfl) HZ5.out) (by rfl) ?_
  refine ⟨c, r, rfl, ?_⟩
  rw [← HST.out]
  exact Post.fin HL.out HR.out (HL.out.keptNone (HG1.out.trans HG2.out)) (HR.out.keptNone (HG1.out.trans HG2.out)) HK2.out (fun k hk => .inl hk) (fun k hk => .inl hk) HS.out HT5.out
set_option maxRecDepth 100000 in
set_option maxHeartbeats 8000000 in
theorem act_take_one (B : Nat) (c : Lc) (r : Rf) (g : Gh) (x : Ac) (bs : List UInt8) (w : World) (hL : LS w B c g) (hR : RS w r g) (hS : ∀ k, own c B k → ¬ rrow r k) (hw : x.what = 2) (hk : g.taken < g.pushed.length) (hb : g.pushed.length ≤ 1000000) : Calls Try.prog 30 #[.pointer (some ⟨B, 0, none⟩), r.val, x.val] w fun e w' => ∃ c' r', e = .returned (.tuple #[r'.val, .bool true]) ∧ Post w w' B c c' r r' (g.step x bs) := by
  obtain ⟨hg0, b1, b2, b3⟩ := three_new w (.cells r.cells 29) (.cells x.cells 49) (.cells Rf.zero.cells 29)
  have HB1 := Lib.hid (show _ from b1)
  have HB2 := Lib.hid b2
  have HB3 := Lib.hid b3
  have HG0 := Lib.hid hg0
  have HL := Lib.hid hL
  have HR := Lib.hid hR
  have HS := Lib.hid hS
  have HLK0 := Lib.hid (hL.lk.keptNone hg0)
  have HST := Lib.hid (show ({ g with taken := g.taken + 1 } : Gh) = g.step x bs by simp [Gh.step, hw, hk])
  clear hg0 b1 b2 b3 hL hR hS
  obtain ⟨what, line, ba, bn, bc, byte, word, up⟩ := x
  simp only at hw
  subst hw
  go_enter Try.func30, Try.ntmps30
  go_wp2_with (with_reducible refine hold_ld 29 _ rfl ?_)
  apply Lib.hid
  with_reducible refine wpList_load_blk rfl 29 _ rfl _ ?o3605 ?hx3605 _ _ _ HB1.out _ 9 ?hn3605 Try.underlying29 rfl Try.size29 ?_
  case hx3605 => exact rfl
  case hn3605 => exact rfl
  go_wp2_with fail
  refine (rtake_one r g.taken HR.out.tk g.pushed hk _ (HR.out.p.keptNone HG0.out) hb).mono ?_; rintro e u1 ⟨rfl, h1⟩
  have HB1u := Lib.hid ((h1.block _ (lt_of_block HB1.out) (by simp)).trans HB1.out)
  have HB2u := Lib.hid ((h1.block _ (lt_of_block HB2.out) (by simp)).trans HB2.out)
  have HB3u := Lib.hid ((h1.block _ (lt_of_block HB3.out) (by simp)).trans HB3.out)
  have HG1 := Lib.hid (HG0.out.trans h1)
  clear h1
  have hga := World.grownBy_alloc u1 (.cells Rf.zero.cells 29) none
  have hna := heap_alloc_new u1 (.cells Rf.zero.cells 29)
  have HB1m := Lib.hid ((hga.block _ (lt_of_block HB1u.out) (by simp)).trans HB1u.out)
  have HB2m := Lib.hid ((hga.block _ (lt_of_block HB2u.out) (by simp)).trans HB2u.out)
  have HB3m := Lib.hid ((hga.block _ (lt_of_block HB3u.out) (by simp)).trans HB3u.out)
  have HNA := Lib.hid hna
  have HGA := Lib.hid hga
  clear hga hna
  go_wp2_with (with_reducible refine hold_st 29 _ _ rfl ?_)
  apply Lib.hid
  with_reducible refine wpList_store_all rfl 29 _ _ rfl _ ?cs3606 ?hx3606 ?hy3606 _ _ HNA.out ?hf3606 _ ?hl3606 Try.size29 ?h13606 ?_
  case hy3606 => exact rfl
  case hx3606 => exact rfl
  case hf3606 => exact rfl
  case hl3606 => exact rfl
  case h13606 => simp [allOne, Value.oneCell']
  intro u2 hb2 hg2
  have HB1v := Lib.hid ((hg2.block _ (lt_of_block HB1m.out) (by have := lt_of_block HB3u.out; simp; omega)).trans HB1m.out)
  have HB2v := Lib.hid ((hg2.block _ (lt_of_block HB2m.out) (by have := lt_of_block HB3u.out; simp; omega)).trans HB2m.out)
  have HB3v := Lib.hid ((hg2.block _ (lt_of_block HB3m.out) (by have := lt_of_block HB3u.out; simp; omega)).trans HB3m.out)
  have HA := Lib.hid hb2
  have HG2 := Lib.hid (grown_new HGA.out hg2 (Nat.le_refl _))
  have hsz2 := lt_of_block HB3u.out
  clear hb2 hg2
  have HLS2 := Lib.hid (HL.out.keptNone (HG1.out.trans HG2.out))
  have hq2 := HLS2.out.q
  rw [List.drop_eq_getElem_cons hk] at hq2
  have hfi := HL.out.fi
  go_wp2_with fail
  refine (take_one B c (g.pushed[g.taken]'hk) (g.pushed.drop (g.taken + 1)) _ HLS2.out.lk hq2 (by rw [hfi]; omega) (by rw [hfi]; omega)).mono ?_; rintro e u3 ⟨qv', rfl, hL3, hQ3, h3, hrow⟩
  have hlt := HL.out.lk.lt
  have HB1t := Lib.hid ((h3.block _ (lt_of_block HB1v.out) (by simp; omega)).trans HB1v.out)
  have HB2t := Lib.hid ((h3.block _ (lt_of_block HB2v.out) (by simp; omega)).trans HB2v.out)
  have HB3t := Lib.hid ((h3.block _ (lt_of_block HB3v.out) (by simp; omega)).trans HB3v.out)
  have HAt := Lib.hid ((h3.block _ (lt_of_block HA.out) (by have := (HG1.out).size; simp; omega)).trans HA.out)
  have HK3 := Lib.hid ((Keeps.keep (X := own c B) (HG1.out.trans HG2.out)).trans (Keeps.row h3 (.inl rfl)))
  have HL3 := Lib.hid (show LS u3 B { c with qv := qv', first := c.first + 1 } { g with taken := g.taken + 1 } from ⟨hL3, HL.out.al, HL.out.ms, HL.out.u2, HL.out.u3, HL.out.u0, HL.out.u1, hQ3, by show c.first + 1 = _; rw [hfi]; simp, HLS2.out.o.kept h3 (HLS2.out.o.ne HLS2.out.lk.blk (by decide)), fun k hk => HL.out.ne k (hrow ▸ hk)⟩)
  have hr1 := (HR.out.keptNone (HG1.out.trans HG2.out)).keeps (Keeps.row (X := own c B) h3 (.inl rfl)) (fun k hk hk2 => HS.out k hk2 hk)
  have HR3 := Lib.hid (show RS u3 { r with taken := (g.taken + 1 : Nat) } { g with taken := g.taken + 1 } from ⟨hr1.al, hr1.ms, hr1.f0, hr1.f1, hr1.f2, hr1.f3, hr1.p, rfl, hr1.t⟩)
  have HOW := Lib.hid (show ∀ k, own { c with qv := qv', first := c.first + 1 } B k → own c B k from fun k hk => by
    rcases hk with h | h | h
    · exact .inl h
    · exact .inr (.inl (hrow ▸ h))
    · exact .inr (.inr h))
  rw [hfi]
  clear h3 hr1 hL3 hQ3 hrow hq2 hfi
  go_wp2_with (with_reducible refine hold_ld 29 _ rfl ?_)
  apply Lib.hid
  with_reducible refine wpList_load_blk rfl 29 _ rfl _ ?o3607 ?hx3607 _ _ _ HAt.out _ 9 ?hn3607 Try.underlying29 rfl Try.size29 ?_
  case hx3607 => exact rfl
  case hn3607 => exact rfl
  go_wp2_with (with_reducible refine hold_st 29 _ _ rfl ?_)
  apply Lib.hid
  with_reducible refine wpList_store_all rfl 29 _ _ rfl _ ?cs3608 ?hx3608 ?hy3608 _ _ HB3t.out ?hf3608 _ ?hl3608 Try.size29 ?h13608 ?_
  case hy3608 => exact rfl
  case hx3608 => exact rfl
  case hf3608 => exact rfl
  case hl3608 => exact rfl
  case h13608 => simp [allOne, Value.oneCell']
  intro w5 hb5 hg5
  have HZ5 := Lib.hid hb5
  have HT5 := Lib.hid ((Keeps.row (X := fun k => w.heap.size ≤ k ∧ k < w.heap.size + 3) hg5 (mid 2 rfl (by omega))))
  clear hb5 hg5
  go_wp2
  refine bodyPost_ret (results_c29t rfl _ _ _ _ (by rfl) (by rfl) HZ5.out) (by rfl) ?_
  refine ⟨{ c with qv := qv', first := c.first + 1 }, { r with taken := (g.taken + 1 : Nat) }, by simp, ?_⟩
  rw [← HST.out]
  exact Post.fin HL.out HR.out HL3.out HR3.out HK3.out (fun k hk => .inl (HOW.out k hk)) (fun k hk => .inl hk) (fun k hk => HS.out k (HOW.out k hk)) HT5.out
end Go.Proofs.Ytmdgehpmeikgfaa
