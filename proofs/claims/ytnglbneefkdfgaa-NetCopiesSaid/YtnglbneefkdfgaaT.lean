import Derived.Test.YtnglbneefkdfgaaS
set_option linter.unusedVariables false
namespace Go.Proofs.Ytnglbneefkdfgaa
open Go.RowKit
set_option maxRecDepth 100000 in
set_option maxHeartbeats 16000000 in
theorem act_take (M : Nat → Prop) (B : Nat) (c : Nc) (r : Rf) (g : Nh) (x : Ac) (bs : List UInt8) (w : World) (hNS : NS M w B c g) (hRS : RS M w r g) (hb : Nb g) (hMB : ∀ k, M k → k < w.heap.size) (hn : x.bn = bs.length) (hx : Inn M w (.slice x.ba x.bn x.bc) bs) (hbl : bs.length ≤ 140737488355328) (hw : x.what = 1) : Calls Try.prog 19 #[.pointer (some ⟨B, 0, none⟩), r.val, x.val] w fun e w' => ∃ c' r' M', e = .returned (.tuple #[r'.val, .bool true]) ∧ APost M M' w w' B c c' r' g.take := by
  obtain ⟨what, ba, bn, bc⟩ := x
  simp only at hw hn hx
  subst hw
  obtain ⟨hg0, b1, b2, b3⟩ := three_new w (.cells r.cells 40) (.cells (⟨1, ba, bn, bc⟩ : Ac).cells 36) (.cells Rf.zero.cells 40)
  have HB1 := Lib.hid (show _ from b1)
  have HB2 := Lib.hid b2
  have HB3 := Lib.hid b3
  have HG0 := Lib.hid hg0
  have hga := World.grownBy_alloc (((w.alloc (.cells r.cells 40)).alloc (.cells (⟨1, ba, bn, bc⟩ : Ac).cells 36)).alloc (.cells Rf.zero.cells 40)) (.cells #[] 5) none
  have hv0 : Gs eB ((((w.alloc (.cells r.cells 40)).alloc (.cells (⟨1, ba, bn, bc⟩ : Ac).cells 36)).alloc (.cells Rf.zero.cells 40)).alloc (.cells #[] 5)) (.slice (some ⟨w.heap.size + 1 + 1 + 1, 0, none⟩) 0 0) 0 [] :=
    Gs.empty eB (show _ = some (Obj.cells #[] 5 (0, 0)) from by have := heap_alloc_new (((w.alloc (.cells r.cells 40)).alloc (.cells (⟨1, ba, bn, bc⟩ : Ac).cells 36)).alloc (.cells Rf.zero.cells 40)) (.cells #[] 5); simpa using this)
  have hsx : Go.Proofs.Ytnglbneefkdfgaa.Src w ba bs := hx.src
  have hvs : Go.Src Try.prog 1 22 (.slice ba bn bc) bn (bsV bs) ((((w.alloc (.cells r.cells 40)).alloc (.cells (⟨1, ba, bn, bc⟩ : Ac).cells 36)).alloc (.cells Rf.zero.cells 40)).alloc (.cells #[] 5)) := src_gon hn (hsx.keptNone (hg0.trans hga))
  have HN := Lib.hid hn
  have HNS := Lib.hid hNS
  have HRS := Lib.hid hRS
  have HMB := Lib.hid hMB
  have HXI := Lib.hid hx
  have HXS := Lib.hid hsx
  have HB1z := Lib.hid ((hga.block _ (lt_of_block HB1.out) (by simp)).trans HB1.out)
  have HB2z := Lib.hid ((hga.block _ (lt_of_block HB2.out) (by simp)).trans HB2.out)
  have HB3z := Lib.hid ((hga.block _ (lt_of_block HB3.out) (by simp)).trans HB3.out)
  have HGz := Lib.hid (hg0.trans hga)
  have hbn : bn ≤ 140737488355328 := by omega
  have HPS := Lib.hid (bs_one bs)
  have hMB' := hMB
  clear hga hg0 b1 b2 b3 hNS hRS hMB hx hsx hn
  clear hMB'
  go_enter Try.func19, Try.ntmps19
  go_wp2_with (at_builtin; refine wpList_gs_big eB rfl _ _ 22 rfl (.slice ba bn bc) 0 bn [] (bsV bs) rfl rfl hv0 hvs HPS.out (by omega) (by simp only [eB]; omega) ?_)
  intro v1 w1 hQ1 hg1 hr1
  replace hQ1 : Gs eB w1 v1 bn (bsV bs) := by simpa using hQ1
  obtain ⟨va, vcap, hv1, hvc⟩ := hQ1.shape
  subst hv1
  have hrb : ∀ k, rowOf (.slice va bn vcap) = some k → w.heap.size + 3 ≤ k := by
    rcases hr1 with h | h
    · rw [h]; rintro k ⟨⟩; exact Nat.le_refl _
    · rw [h]; rintro k ⟨⟩; omega
  have HB1a := Lib.hid ((hg1.block _ (lt_of_block HB1z.out) (by simp [rowOf]; try omega)).trans HB1z.out)
  have HB2a := Lib.hid ((hg1.block _ (lt_of_block HB2z.out) (by simp [rowOf]; try omega)).trans HB2z.out)
  have HB3a := Lib.hid ((hg1.block _ (lt_of_block HB3z.out) (by simp [rowOf]; try omega)).trans HB3z.out)
  have HGa := Lib.hid (grown_new HGz.out hg1 (by show w.heap.size ≤ w.heap.size + 1 + 1 + 1; omega))
  have HQa := Lib.hid hQ1
  have HRB := Lib.hid (show ∀ k, rowOf (.slice va bn vcap) = some k → w.heap.size + 3 ≤ k ∧ k < w1.heap.size from fun k hk => ⟨hrb k hk, hQ1.lt k hk⟩)
  have hsza := lt_of_block HB3a.out
  have hnA := heap_alloc_new w1 (.cells Rf.zero.cells 40)
  have hgA := World.grownBy_alloc w1 (.cells Rf.zero.cells 40) none
  have HB1b := Lib.hid ((hgA.block _ (lt_of_block HB1a.out) (by simp)).trans HB1a.out)
  have HB2b := Lib.hid ((hgA.block _ (lt_of_block HB2a.out) (by simp)).trans HB2a.out)
  have HB3b := Lib.hid ((hgA.block _ (lt_of_block HB3a.out) (by simp)).trans HB3a.out)
  have HNA0 := Lib.hid hnA
  have HGb := Lib.hid (HGa.out.trans hgA)
  have HQb := Lib.hid (HQa.out.keptNone hgA)
  clear hQ1 hg1 hr1 hv0 hvs hnA hgA hrb HB1z HB2z HB3z HGz
  go_wp2_with (with_reducible refine hold_ld 40 _ rfl ?_)
  apply Lib.hid
  with_reducible refine wpList_load_blk rfl 40 _ rfl _ ?o961 ?hx961 _ _ _ HB1a.out _ 3 ?hn961 Try.underlying40 rfl Try.size40 ?_
  case hx961 => exact rfl
  case hn961 => exact rfl
  go_wp2_with (with_reducible refine hold_st 40 _ _ rfl ?_)
  apply Lib.hid
  with_reducible refine wpList_store_all rfl 40 _ _ rfl _ ?cs962 ?hx962 ?hy962 _ _ HNA0.out ?hf962 _ ?hl962 Try.size40 ?h1962 ?_
  case hy962 => exact rfl
  case hx962 => exact rfl
  case hf962 => exact rfl
  case hl962 => exact rfl
  case h1962 => simp [allOne, Value.oneCell']
  intro w3 hb3 hg3
  have HB1c := Lib.hid ((hg3.block _ (lt_of_block HB1b.out) (by simp; omega)).trans HB1b.out)
  have HB2c := Lib.hid ((hg3.block _ (lt_of_block HB2b.out) (by simp; omega)).trans HB2b.out)
  have HB3c := Lib.hid ((hg3.block _ (lt_of_block HB3b.out) (by simp; omega)).trans HB3b.out)
  have HA := Lib.hid (show w3.heap[w1.heap.size]? = some (.cells r.cells 40 (0, 0)) from hb3)
  have hg3' := grown_new HGb.out hg3 (by omega)
  have HG3 := Lib.hid hg3'
  have HQ3 := Lib.hid (HQb.out.kept hg3 (fun k hk e => by cases e; have := HRB.out _ hk; omega))
  have hz3 := lt_of_block HA.out
  have HM1 := Lib.hid (show ∀ k, with_ M (fun k => w.heap.size ≤ k ∧ k < w3.heap.size) k → M k ∨ w.heap.size ≤ k from fun k hk => hk.imp id (fun h => h.1))
  have HMB1 := Lib.hid (show ∀ k, with_ M (fun k => w.heap.size ≤ k ∧ k < w3.heap.size) k → k < w3.heap.size from fun k hk => hk.elim (fun h => by have := HMB.out k h; omega) (fun h => h.2))
  have hg3'' := HG3.out
  have HR3 := Lib.hid ((HRS.out.more HM1.out).keptNone hg3'')
  have HN3 := Lib.hid ((HNS.out.more (fun k hk => .inl hk) HM1.out).keptNone hg3'')
  have hc0 : w3.cell? ⟨w.heap.size + 1, 0, none⟩ = some (.int .i64 1) := cells_all HB2c.out 0
  clear hb3 hg3 hg3' hg3'' HNA0 HGb HQb HB1a HB2a HB3a HB1b HB2b HB3b
  go_wp2_with (with_reducible refine hold_ld 40 _ rfl ?_)
  apply Lib.hid
  with_reducible refine wpList_load_blk rfl 40 _ rfl _ ?o965 ?hx965 _ _ _ HB1c.out _ 3 ?hn965 Try.underlying40 rfl Try.size40 ?_
  case hx965 => exact rfl
  case hn965 => exact rfl
  go_wp2_with fail
  refine (ref_take_any _ r g w3 HR3.out hb).mono ?_; rintro e u1 ⟨r', rfl, h1, hR1⟩
  have HB2u := Lib.hid ((h1.block _ (lt_of_block HB2c.out) (by simp)).trans HB2c.out)
  have HB3u := Lib.hid ((h1.block _ (lt_of_block HB3c.out) (by simp)).trans HB3c.out)
  have HG1 := Lib.hid h1
  have HR1 := Lib.hid hR1
  have hnY := heap_alloc_new u1 (.cells Rf.zero.cells 40)
  have hgY := World.grownBy_alloc u1 (.cells Rf.zero.cells 40) none
  have HB2y := Lib.hid ((hgY.block _ (lt_of_block HB2u.out) (by simp)).trans HB2u.out)
  have HB3y := Lib.hid ((hgY.block _ (lt_of_block HB3u.out) (by simp)).trans HB3u.out)
  have HNY := Lib.hid hnY
  have HGY := Lib.hid hgY
  have hz1 := h1.size
  clear h1 hR1 hc0 hnY hgY
  go_wp2_with (with_reducible refine hold_st 40 _ _ rfl ?_)
  apply Lib.hid
  with_reducible refine wpList_store_all rfl 40 _ _ rfl _ ?cs966 ?hx966 ?hy966 _ _ HNY.out ?hf966 _ ?hl966 Try.size40 ?h1966 ?_
  case hy966 => exact rfl
  case hx966 => exact rfl
  case hf966 => exact rfl
  case hl966 => exact rfl
  case h1966 => simp [allOne, Value.oneCell']
  intro u2 hb2 hg2
  have HB2v := Lib.hid ((hg2.block _ (lt_of_block HB2y.out) (by simp; omega)).trans HB2y.out)
  have HB3v := Lib.hid ((hg2.block _ (lt_of_block HB3y.out) (by simp; omega)).trans HB3y.out)
  have HYv := Lib.hid (show u2.heap[u1.heap.size]? = some (.cells r'.cells 40 (0, 0)) from hb2)
  have hg12 := grown_new HGY.out hg2 (Nat.le_refl _)
  have HG12 := Lib.hid (show u1.grownBy u2.drew none from ⟨hg12.os, hg12.tape, hg12.output, hg12.size, hg12.block⟩)
  have HN2 := Lib.hid (((HN3.out.keptNone HG1.out).keptNone hg12).drew)
  have HNX := Lib.hid (show ¬ (own c B u1.heap.size ∨ u1.heap.size = w.heap.size + 1 + 1) from fun h => h.elim (fun h => by have := HNS.out.lt _ h; omega) (fun h => by omega))
  clear hb2 hg2 hg12
  go_wp2
  refine regx_open (fun k => own c B k ∨ k = w.heap.size + 1 + 1) (n := 7) rfl (by kernel_rfl) ?_
  refine regx_take 0 (some 62) (v := ?_) rfl rfl (by kernel_rfl) (by kernel_rfl) (by kernel_rfl) (fun _ _ _ h => h) (by rfl) ?_ ?_
  rotate_left
  · intro W hW; refine exec_ld40 (x := Operand.tmp 14) ?_ ?_ (((hW).block u1.heap.size (lt_of_block HYv.out) HNX.out).trans HYv.out) <;> rfl
  try simp only [Act.put, List.setIfInBounds_toArray, List.set_cons_zero, List.set_cons_succ]
  refine regx_take 1 (some 63) (v := ?_) rfl rfl (by kernel_rfl) (by kernel_rfl) (by kernel_rfl) (fun _ _ _ h => h) (by rfl) ?_ ?_
  rotate_left
  · intro W hW; go_simp; first | done | with_reducible rfl
  try simp only [Act.put, List.setIfInBounds_toArray, List.set_cons_zero, List.set_cons_succ]
  refine regx_take 3 (some 65) (v := ?_) rfl rfl (by kernel_rfl) (by kernel_rfl) (by kernel_rfl) (fun _ _ _ h => h) (by rfl) ?_ ?_
  rotate_left
  · intro W hW; go_simp; first | done | with_reducible rfl
  try simp only [Act.put, List.setIfInBounds_toArray, List.set_cons_zero, List.set_cons_succ]
  refine wpAnyH_ready (rs := [2]) (by kernel_rfl) (by simp) ?_
  refine (AllReadyH.cons (o := { dst := some 64, op := Op.call { callee := Callee.value (Operand.func 13), args := #[Operand.tmp 63], argTypes := #[24] }, type := 4, pos := "law.go:58", after := #[{ on := 1, ground := Ground.data }], guard := none }) rfl (fun K hK => ?_) AllReadyH.nil)
  go_simp
  refine (take_any _ B c g _ HN2.out).mono ?_; rintro e u3 ⟨c', rfl, hL⟩
  refine regx_next hK (hL.keep.mono (fun i _ h => .inl h)) ?_
  clear hK K
  try simp only [Act.put, List.setIfInBounds_toArray, List.set_cons_zero, List.set_cons_succ]
  refine regx_take 4 (some 66) (v := ?_) rfl rfl (by kernel_rfl) (by kernel_rfl) (by kernel_rfl) (fun _ _ _ h => h) (by rfl) ?_ ?_
  rotate_left
  · intro W hW; go_simp; first | done | with_reducible rfl
  try simp only [Act.put, List.setIfInBounds_toArray, List.set_cons_zero, List.set_cons_succ]
  refine wpAnyH_ready (rs := [5]) (by kernel_rfl) (by simp) ?_
  refine (AllReadyH.cons (o := { dst := none, op := Op.store 40 (Operand.tmp 6) (Operand.tmp 62), type := 0, pos := "law.go:58", after := #[{ on := 0, ground := Ground.data }, { on := 2, ground := Ground.chain }, { on := 0, ground := Ground.phase }, { on := 1, ground := Ground.textOnly Departure.lateStores }, { on := 2, ground := Ground.textOnly Departure.lateStoresUnsure }, { on := 3, ground := Ground.textOnly Departure.lateStores }, { on := 4, ground := Ground.textOnly Departure.lateStores }], guard := none }) rfl (fun K hK => ?_) AllReadyH.nil)
  have hz := (hL.keep.block _ (lt_of_block (show u2.drew.heap[w.heap.size + 1 + 1]? = _ from HB3v.out)) (fun e => by have := HNS.out.lt _ e; omega)).trans HB3v.out
  refine wp_store_all 40 _ _ rfl (w.heap.size + 1 + 1) ?csu9 ?hxu9 ?hyu9 _ _ hz ?hfu9 3 ?hnu9 Try.size40 ?h1u9 ?_
  case hyu9 => exact rfl
  case hxu9 => exact rfl
  case hfu9 => exact rfl
  case hnu9 => exact rfl
  case h1u9 => simp [allOne, Value.oneCell']
  intro u9 hb9 h9
  refine regx_next hK (Keeps.row h9 (.inr rfl)) ?_
  clear hK K
  try simp only [Act.put]
  refine regx_take 6 (some 7) (v := ?_) rfl rfl (by kernel_rfl) (by kernel_rfl) (by kernel_rfl) (fun _ _ _ h => h) (by rfl) ?_ ?_
  rotate_left
  · intro W hW; go_simp; first | done | with_reducible rfl
  try simp only [Act.put, List.setIfInBounds_toArray, List.set_cons_zero, List.set_cons_succ]
  refine wpAnyH_done (by kernel_rfl) ?_ _
  have HZ9 := Lib.hid hb9
  have HT9 := Lib.hid h9
  have HL3 := Lib.hid hL
  clear h9 hb9 hL hz
  go_wp2
  refine bodyPost_ret (results_c40t rfl _ _ _ _ (by rfl) (by rfl) HZ9.out) (by rfl) ?_
  refine ⟨c', r', with_ (with_ M (fun k => w.heap.size ≤ k ∧ k < w3.heap.size)) (own c' B), rfl, ?_⟩
  exact APost.make (Z := fun k => k = w.heap.size + 1 + 1) HMB.out HNS.out HG3.out HG1.out (fun k e => by subst e; omega) HR1.out (Keeps.keep HG12.out) HL3.out (Keeps.row HT9.out rfl)
/-- What a call does by the document. -/
def Nh.step (g : Nh) (what : Int) (bs : List UInt8) : Nh := if what = 0 then g.push bs else if what = 1 then g.take else g.send bs
theorem act_any (M : Nat → Prop) (B : Nat) (c : Nc) (r : Rf) (g : Nh) (x : Ac) (bs : List UInt8) (w : World) (hNS : NS M w B c g) (hRS : RS M w r g) (hb : Nb g) (hMB : ∀ k, M k → k < w.heap.size) (hn : x.bn = bs.length) (hx : Inn M w (.slice x.ba x.bn x.bc) bs) (hbl : bs.length ≤ 140737488355328) : Calls Try.prog 19 #[.pointer (some ⟨B, 0, none⟩), r.val, x.val] w fun e w' => ∃ c' r' M', e = .returned (.tuple #[r'.val, .bool true]) ∧ APost M M' w w' B c c' r' (g.step x.what bs) := by
  by_cases h0 : x.what = 0
  · rw [show g.step x.what bs = g.push bs from by simp [Nh.step, h0]]
    exact act_push M B c r g x bs w hNS hRS hb hMB hn hx hbl h0
  by_cases h1 : x.what = 1
  · rw [show g.step x.what bs = g.take from by simp [Nh.step, h1]]
    exact act_take M B c r g x bs w hNS hRS hb hMB hn hx hbl h1
  · rw [show g.step x.what bs = g.send bs from by simp [Nh.step, h0, h1]]
    exact act_send M B c r g x bs w hNS hRS hb hMB hn hx hbl (by simp [h0, h1])
end Go.Proofs.Ytnglbneefkdfgaa
