import Derived.Test.YtnglbneefkdfgaaR
set_option linter.unusedVariables false
namespace Go.Proofs.Ytnglbneefkdfgaa
open Go.RowKit
/-- A call, as a value. -/
structure Ac where
  what : Int
  ba : Option Addr
  bn : Nat
  bc : Nat
abbrev Ac.cells (x : Ac) : Array Value := #[.int .i64 x.what, .slice x.ba x.bn x.bc]
abbrev Ac.val (x : Ac) : Value := .agg x.cells
theorem three_new (w : World) (a b c : Obj) : w.grownBy (((w.alloc a).alloc b).alloc c) none ∧ (((w.alloc a).alloc b).alloc c).heap[w.heap.size]? = some a ∧ (((w.alloc a).alloc b).alloc c).heap[w.heap.size + 1]? = some b ∧ (((w.alloc a).alloc b).alloc c).heap[w.heap.size + 1 + 1]? = some c := by
  obtain ⟨h1, h2, h3⟩ := two_new w a b
  have hg := World.grownBy_alloc ((w.alloc a).alloc b) c none
  refine ⟨h1.trans hg, (hg.block _ (lt_of_block h2) (by simp)).trans h2, (hg.block _ (lt_of_block h3) (by simp)).trans h3, ?_⟩
  have := heap_alloc_new ((w.alloc a).alloc b) c
  simpa using this
theorem Inn.src {M : Nat → Prop} {w : World} {a : Option Addr} {n c : Nat} {l : List UInt8} (h : Inn M w (.slice a n c) l) : Go.Proofs.Ytnglbneefkdfgaa.Src w a l := by
  obtain ⟨a', c', e, h, _⟩ := h
  cases e
  exact h
theorem Inn.nm {M : Nat → Prop} {w : World} {a : Option Addr} {n c : Nat} {l : List UInt8} (h : Inn M w (.slice a n c) l) {b o : Nat} (e : a = some ⟨b, o, none⟩) (he : l ≠ []) : ¬ M b := by
  obtain ⟨a', c', e', _, h⟩ := h
  cases e'
  exact h he b o e
theorem conv_srcn {w : World} {a : Option Addr} {n c : Nat} {l : List UInt8} (hn : n = l.length) (h : Go.Proofs.Ytnglbneefkdfgaa.Src w a l) : (convert 22 9 (.slice a n c)).run Try.prog w = .ok (.string ⟨l.toArray⟩) w := by
  subst hn
  exact conv_src h
theorem src_gon {w : World} {a : Option Addr} {n c : Nat} {bs : List UInt8} (hn : n = bs.length) (h : Go.Proofs.Ytnglbneefkdfgaa.Src w a bs) : Go.Src Try.prog 1 22 (.slice a n c) n (bsV bs) w := by
  subst hn
  exact src_go h
theorem u8_succ (c : UInt8) : IntKind.u8.wrap ((c.toNat : Int) + 1) = ((c + 1).toNat : Int) := by
  rw [IntKind.wrap_u8, UInt8.toNat_add]
  simp
theorem Gs.setAt {w : World} {g o n cap : Nat} {l : List UInt8} (h : Gs eB w (.slice (some ⟨g, o, none⟩) n cap) n (bsV l)) (hl : l.length = n) (j : Nat) (hj : j < l.length) (c : UInt8) : Gs eB (w.setCell ⟨g, o + j, none⟩ (.int .u8 (c.toNat : Int))) (.slice (some ⟨g, o, none⟩) n cap) n (bsV (l.set j c)) := by
  obtain ⟨h0, h1, ⟨h, _⟩ | ⟨g', o', cap', cur, hv, h2, h3, h4, h5, h6⟩⟩ := h
  · cases h
  · cases hv
    have := heap_setCell_at (j := o + j) (.int .u8 (c.toNat : Int)) h4
    rw [List.setIfInBounds_toArray] at this
    refine ⟨by simpa [bsV] using h0, bs_one _, .inr ⟨g, o, cap, _, rfl, h2, h3, this, by rw [List.length_set]; exact h5, ?_⟩⟩
    rw [List.drop_set, if_neg (by omega), show o + j - o = j from by omega, List.take_set, h6]
    simp [bsV, List.map_set, bV]
theorem exec_ld40 {op : Oper} {ρ : Operand → Value} {W : World} {x : Operand} {b : Nat} {r : Rf} (ho : op.op = .load 40 x) (hx : ρ x = .pointer (some ⟨b, 0, none⟩)) (hb : W.heap[b]? = some (.cells r.cells 40 (0, 0))) :
    (execOp ρ op).run Try.prog W = .ok (.value r.val) W := by
  have hrun := load_blk (P := Try.prog) 0 40 3 (cur := r.cells.toList) hb (by rfl) Try.underlying40 rfl Try.size40
  simp only [execOp, ho, hx, Sem.run_bind, hrun, Result.andThen_ok, Sem.run_pure]
  rfl
theorem wp_store_all {P : Program} {op : Oper} {a : Act} {w : World} {K : Act → World → Prop} {Q : Exit → Act → World → Prop} (ty : TypeId) (x y : Operand) (ho : op.op = .store ty x y)
    (b : Nat) (cs : List Value) (hx : a.eval x = .pointer (some ⟨b, 0, none⟩)) (hy : a.eval y = .agg cs.toArray) (cur : List Value) (t : TypeId) (hb : w.heap[b]? = some (.cells cur.toArray t (0, 0))) (hfit : cs.length = cur.length)
    (n : Nat) (hn : cs.length = n) (hi : (P.info? ty).map (·.size) = some n) (h1 : allOne cs = true)
    (h : ∀ w', w'.heap[b]? = some (.cells cs.toArray t (0, 0)) → w.grownBy w' (some b) → K (a.put op.dst undef) w') : op.wp P a w K Q := by
  obtain ⟨w', hrun, h2, h3⟩ := store_all (P := P) ty cs hb hfit (by subst hn; exact hi) h1
  unfold Oper.wp
  simp only [execOp, ho, hx, hy, Sem.run_bind, hrun, Result.andThen_ok, Sem.run_pure]
  exact h w' h2 h3
set_option maxRecDepth 100000 in
set_option maxHeartbeats 16000000 in
theorem act_push (M : Nat → Prop) (B : Nat) (c : Nc) (r : Rf) (g : Nh) (x : Ac) (bs : List UInt8) (w : World) (hNS : NS M w B c g) (hRS : RS M w r g) (hb : Nb g) (hMB : ∀ k, M k → k < w.heap.size) (hn : x.bn = bs.length) (hx : Inn M w (.slice x.ba x.bn x.bc) bs) (hbl : bs.length ≤ 140737488355328) (hw : x.what = 0) : Calls Try.prog 19 #[.pointer (some ⟨B, 0, none⟩), r.val, x.val] w fun e w' => ∃ c' r' M', e = .returned (.tuple #[r'.val, .bool true]) ∧ APost M M' w w' B c c' r' (g.push bs) := by
  obtain ⟨what, ba, bn, bc⟩ := x
  simp only at hw hn hx
  subst hw
  obtain ⟨hg0, b1, b2, b3⟩ := three_new w (.cells r.cells 40) (.cells (⟨0, ba, bn, bc⟩ : Ac).cells 36) (.cells Rf.zero.cells 40)
  have HB1 := Lib.hid (show _ from b1)
  have HB2 := Lib.hid b2
  have HB3 := Lib.hid b3
  have HG0 := Lib.hid hg0
  have hga := World.grownBy_alloc (((w.alloc (.cells r.cells 40)).alloc (.cells (⟨0, ba, bn, bc⟩ : Ac).cells 36)).alloc (.cells Rf.zero.cells 40)) (.cells #[] 5) none
  have hv0 : Gs eB ((((w.alloc (.cells r.cells 40)).alloc (.cells (⟨0, ba, bn, bc⟩ : Ac).cells 36)).alloc (.cells Rf.zero.cells 40)).alloc (.cells #[] 5)) (.slice (some ⟨w.heap.size + 1 + 1 + 1, 0, none⟩) 0 0) 0 [] :=
    Gs.empty eB (show _ = some (Obj.cells #[] 5 (0, 0)) from by have := heap_alloc_new (((w.alloc (.cells r.cells 40)).alloc (.cells (⟨0, ba, bn, bc⟩ : Ac).cells 36)).alloc (.cells Rf.zero.cells 40)) (.cells #[] 5); simpa using this)
  have hsx : Go.Proofs.Ytnglbneefkdfgaa.Src w ba bs := hx.src
  have hvs : Go.Src Try.prog 1 22 (.slice ba bn bc) bn (bsV bs) ((((w.alloc (.cells r.cells 40)).alloc (.cells (⟨0, ba, bn, bc⟩ : Ac).cells 36)).alloc (.cells Rf.zero.cells 40)).alloc (.cells #[] 5)) := src_gon hn (hsx.keptNone (hg0.trans hga))
  have HN := Lib.hid hn
  have HNS := Lib.hid hNS
  have HRS := Lib.hid hRS
  have HMB := Lib.hid hMB
  have HXI := Lib.hid hx
  have HXS := Lib.hid hsx
  have HB1z := Lib.hid ((hga.block _ (lt_of_block HB1.out) (by simp)).trans HB1.out)
  have HB2z := Lib.hid ((hga.block _ (lt_of_block HB2.out) (by simp)).trans HB2.out)
  have HB3z := Lib.hid ((hga.block _ (lt_of_block HB3.out) (by simp)).trans HB3.out)
  have HGz := Lib.hid (hg0.trans hga)
  have hbn : bn ≤ 140737488355328 := by omega
  have HPS := Lib.hid (bs_one bs)
  have hMB' := hMB
  clear hga hg0 b1 b2 b3 hNS hRS hMB hx hsx hn
  clear hMB'
  go_enter Try.func19, Try.ntmps19
  go_wp2_with (at_builtin; refine wpList_gs_big eB rfl _ _ 22 rfl (.slice ba bn bc) 0 bn [] (bsV bs) rfl rfl hv0 hvs HPS.out (by omega) (by simp only [eB]; omega) ?_)
  intro v1 w1 hQ1 hg1 hr1
  replace hQ1 : Gs eB w1 v1 bn (bsV bs) := by simpa using hQ1
  obtain ⟨va, vcap, hv1, hvc⟩ := hQ1.shape
  subst hv1
  have hrb : ∀ k, rowOf (.slice va bn vcap) = some k → w.heap.size + 3 ≤ k := by
    rcases hr1 with h | h
    · rw [h]; rintro k ⟨⟩; exact Nat.le_refl _
    · rw [h]; rintro k ⟨⟩; omega
  have HB1a := Lib.hid ((hg1.block _ (lt_of_block HB1z.out) (by simp [rowOf]; try omega)).trans HB1z.out)
  have HB2a := Lib.hid ((hg1.block _ (lt_of_block HB2z.out) (by simp [rowOf]; try omega)).trans HB2z.out)
  have HB3a := Lib.hid ((hg1.block _ (lt_of_block HB3z.out) (by simp [rowOf]; try omega)).trans HB3z.out)
  have HGa := Lib.hid (grown_new HGz.out hg1 (by show w.heap.size ≤ w.heap.size + 1 + 1 + 1; omega))
  have HQa := Lib.hid hQ1
  have HRB := Lib.hid (show ∀ k, rowOf (.slice va bn vcap) = some k → w.heap.size + 3 ≤ k ∧ k < w1.heap.size from fun k hk => ⟨hrb k hk, hQ1.lt k hk⟩)
  have hsza := lt_of_block HB3a.out
  have hnA := heap_alloc_new w1 (.cells Rf.zero.cells 40)
  have hgA := World.grownBy_alloc w1 (.cells Rf.zero.cells 40) none
  have HB1b := Lib.hid ((hgA.block _ (lt_of_block HB1a.out) (by simp)).trans HB1a.out)
  have HB2b := Lib.hid ((hgA.block _ (lt_of_block HB2a.out) (by simp)).trans HB2a.out)
  have HB3b := Lib.hid ((hgA.block _ (lt_of_block HB3a.out) (by simp)).trans HB3a.out)
  have HNA0 := Lib.hid hnA
  have HGb := Lib.hid (HGa.out.trans hgA)
  have HQb := Lib.hid (HQa.out.keptNone hgA)
  clear hQ1 hg1 hr1 hv0 hvs hnA hgA hrb HB1z HB2z HB3z HGz
  go_wp2_with (with_reducible refine hold_ld 40 _ rfl ?_)
  apply Lib.hid
  with_reducible refine wpList_load_blk rfl 40 _ rfl _ ?o901 ?hx901 _ _ _ HB1a.out _ 3 ?hn901 Try.underlying40 rfl Try.size40 ?_
  case hx901 => exact rfl
  case hn901 => exact rfl
  go_wp2_with (with_reducible refine hold_st 40 _ _ rfl ?_)
  apply Lib.hid
  with_reducible refine wpList_store_all rfl 40 _ _ rfl _ ?cs902 ?hx902 ?hy902 _ _ HNA0.out ?hf902 _ ?hl902 Try.size40 ?h1902 ?_
  case hy902 => exact rfl
  case hx902 => exact rfl
  case hf902 => exact rfl
  case hl902 => exact rfl
  case h1902 => simp [allOne, Value.oneCell']
  intro w3 hb3 hg3
  have HB1c := Lib.hid ((hg3.block _ (lt_of_block HB1b.out) (by simp; omega)).trans HB1b.out)
  have HB2c := Lib.hid ((hg3.block _ (lt_of_block HB2b.out) (by simp; omega)).trans HB2b.out)
  have HB3c := Lib.hid ((hg3.block _ (lt_of_block HB3b.out) (by simp; omega)).trans HB3b.out)
  have HA := Lib.hid (show w3.heap[w1.heap.size]? = some (.cells r.cells 40 (0, 0)) from hb3)
  have hg3' := grown_new HGb.out hg3 (by omega)
  have HG3 := Lib.hid hg3'
  have HQ3 := Lib.hid (HQb.out.kept hg3 (fun k hk e => by cases e; have := HRB.out _ hk; omega))
  have hz3 := lt_of_block HA.out
  have HM1 := Lib.hid (show ∀ k, with_ M (fun k => w.heap.size ≤ k ∧ k < w3.heap.size) k → M k ∨ w.heap.size ≤ k from fun k hk => hk.imp id (fun h => h.1))
  have HMB1 := Lib.hid (show ∀ k, with_ M (fun k => w.heap.size ≤ k ∧ k < w3.heap.size) k → k < w3.heap.size from fun k hk => hk.elim (fun h => by have := HMB.out k h; omega) (fun h => h.2))
  have HR3 := Lib.hid ((HRS.out.more HM1.out).keptNone hg3')
  have HN3 := Lib.hid ((HNS.out.more (fun k hk => .inl hk) HM1.out).keptNone hg3')
  have HXI3 := Lib.hid ((HXI.out.more HM1.out).keeps (X := fun _ => False) (Keeps.keep hg3') (fun _ _ h => h.elim))
  have hc1 : w3.cell? ⟨w.heap.size + 1, 1, none⟩ = some (.slice ba bn bc) := cells_all HB2c.out 1
  have hc0 : w3.cell? ⟨w.heap.size + 1, 0, none⟩ = some (.int .i64 0) := cells_all HB2c.out 0
  clear hb3 hg3 hg3' HNA0 HGb HQb HB1a HB2a HB3a HB1b HB2b HB3b
  go_wp2_with (with_reducible refine hold_ld 40 _ rfl ?_)
  apply Lib.hid
  with_reducible refine wpList_load_blk rfl 40 _ rfl _ ?o903 ?hx903 _ _ _ HB1c.out _ 3 ?hn903 Try.underlying40 rfl Try.size40 ?_
  case hx903 => exact rfl
  case hn903 => exact rfl
  go_wp2_with fail
  refine (ref_push_any _ r g w3 HR3.out hb ba bn bc bs HMB1.out HN.out HXI3.out).mono ?_; rintro e u1 ⟨r', rfl, h1, hR1⟩
  have HB1u := Lib.hid ((h1.block _ (lt_of_block HB1c.out) (by simp)).trans HB1c.out)
  have HB2u := Lib.hid ((h1.block _ (lt_of_block HB2c.out) (by simp)).trans HB2c.out)
  have HB3u := Lib.hid ((h1.block _ (lt_of_block HB3c.out) (by simp)).trans HB3c.out)
  have HAu := Lib.hid ((h1.block _ (lt_of_block HA.out) (by simp)).trans HA.out)
  have HG1 := Lib.hid h1
  have HR1 := Lib.hid hR1
  clear h1 hR1 hc0 hc1
  go_wp2_with (with_reducible refine hold_st 40 _ _ rfl ?_)
  apply Lib.hid
  with_reducible refine wpList_store_all rfl 40 _ _ rfl _ ?cs904 ?hx904 ?hy904 _ _ HAu.out ?hf904 _ ?hl904 Try.size40 ?h1904 ?_
  case hy904 => exact rfl
  case hx904 => exact rfl
  case hf904 => exact rfl
  case hl904 => exact rfl
  case h1904 => simp [allOne, Value.oneCell']
  intro u2 hb2 hg2
  have HB1v := Lib.hid ((hg2.block _ (lt_of_block HB1u.out) (by simp; omega)).trans HB1u.out)
  have HB2v := Lib.hid ((hg2.block _ (lt_of_block HB2u.out) (by simp; omega)).trans HB2u.out)
  have HB3v := Lib.hid ((hg2.block _ (lt_of_block HB3u.out) (by simp; omega)).trans HB3u.out)
  have HAv := Lib.hid (show u2.heap[w1.heap.size]? = some (.cells r'.cells 40 (0, 0)) from hb2)
  have HZZ := Lib.hid (show ∀ k, (k = w1.heap.size ∨ k = w.heap.size + 1 + 1 ∨ rowOf (.slice va bn vcap) = some k) → w.heap.size ≤ k ∧ k < w3.heap.size from fun k hk => by
    rcases hk with rfl | rfl | h
    · omega
    · omega
    · have := HRB.out k h; omega)
  have hk2 : Keeps (fun k => k = w1.heap.size ∨ k = w.heap.size + 1 + 1 ∨ rowOf (.slice va bn vcap) = some k) u1 u2 := Keeps.row hg2 (.inl rfl)
  have HK2 := Lib.hid hk2
  have HN2 := Lib.hid ((HN3.out.keptNone HG1.out).keeps hk2 (fun k _ hk => .inr (HZZ.out k hk)) (fun k hk hz => by have := HNS.out.lt k hk; have := HZZ.out k hz; omega))
  have hzu := HG1.out.size
  have hzv := hk2.size
  have HMB2 := Lib.hid (show ∀ k, with_ M (fun k => w.heap.size ≤ k ∧ k < w3.heap.size) k → k < u2.heap.size from fun k hk => by have := HMB1.out k hk; omega)
  have HQ2 := Lib.hid ((HQ3.out.keptNone HG1.out).kept hg2 (fun k hk e => by cases e; have := HRB.out _ hk; omega))
  have HXS2 := Lib.hid (show Go.Proofs.Ytnglbneefkdfgaa.Src u2 ba bs from (HXS.out.keptNone (HG3.out.trans HG1.out)).keeps hk2 (fun he b o e hz => by have h1 := HZZ.out b hz; have h2 := Go.Proofs.Ytnglbneefkdfgaa.Src.lt (e ▸ HXS.out) he; omega))
  clear hb2 hg2 hk2
  have hsv : Go.Proofs.Ytnglbneefkdfgaa.Src u2 va bs := Gs.toSrc (cap := vcap) (by rw [← HN.out]; exact HQ2.out)
  have C5 := push_any _ B c g u2 HN2.out hb HMB2.out va bn vcap bs HN.out hsv
  clear hsv
  go_wp2_with fail
  refine C5.mono ?_; rintro e u3 ⟨c', rfl, hL⟩
  clear C5
  have hlo := HNS.out.lt
  have HB1t := Lib.hid ((hL.keep.block _ (lt_of_block HB1v.out) (fun e => by have := hlo _ e; omega)).trans HB1v.out)
  have HB2t := Lib.hid ((hL.keep.block _ (lt_of_block HB2v.out) (fun e => by have := hlo _ e; omega)).trans HB2v.out)
  have HB3t := Lib.hid ((hL.keep.block _ (lt_of_block HB3v.out) (fun e => by have := hlo _ e; omega)).trans HB3v.out)
  have HAt := Lib.hid ((hL.keep.block _ (lt_of_block HAv.out) (fun e => by have := hlo _ e; omega)).trans HAv.out)
  have hQ5 := HQ2.out.keeps hL.keep (fun k hk e => by have := hlo _ e; have := HRB.out k hk; omega)
  have hX5 : Go.Proofs.Ytnglbneefkdfgaa.Src u3 ba bs := HXS2.out.keeps hL.keep (fun he b o e hz => HXI.out.nm e he (HNS.out.ow b hz))
  have HL3 := Lib.hid hL
  have HQ5 := Lib.hid hQ5
  have HX5 := Lib.hid hX5
  have hsv : Go.Proofs.Ytnglbneefkdfgaa.Src u3 va bs := Gs.toSrc (cap := vcap) (by rw [← HN.out]; exact hQ5)
  have k1 := conv_srcn (c := vcap) HN.out hsv
  have k2 := conv_srcn (c := bc) HN.out hX5
  have hc1 : u3.cell? ⟨w.heap.size + 1, 1, none⟩ = some (.slice ba bn bc) := cells_all HB2t.out 1
  clear hL hX5 hQ5 hsv hlo
  go_wp2
  clear k1 k2 hc1
  go_loopw [17] (fun i wr => ∃ j : Nat, j ≤ bn ∧ i = .int .i64 j ∧ (∃ l : List UInt8, l.length = bn ∧ Gs eB wr (.slice va bn vcap) bn (bsV l)) ∧ Keeps (fun k => rowOf (.slice va bn vcap) = some k) u3 wr) (fun i _ => bn - (intOf i).toNat)
  case atStart => exact ⟨0, Nat.zero_le _, rfl, ⟨bs, HN.out.symm, HQ5.out⟩, Keeps.refl _ _⟩
  case round =>
    obtain ⟨j, hj, rfl, ⟨l, hll, hSr⟩, hKr⟩ := hrel
    rcases Nat.lt_or_ge j bn with hlt | hge
    · obtain ⟨gb, o, he⟩ := hSr.some_of (by omega)
      subst he
      have hjl : j < l.length := by omega
      have hcr := hSr.cell j _ (bV_get l j hjl)
      have hfr : wr.frozen? ⟨gb, o + j, none⟩ = false := hSr.free (o + j)
      have hlt' : (j : Int) < (bn : Nat) := by omega
      have hw8 := u8_succ (l[j]'hjl)
      have hS' := Lib.hid (hSr.setAt hll j hjl ((l[j]'hjl) + 1))
      have hK' := Lib.hid (hKr.trans (Keeps.row (grown_setCell wr gb (o + j) (.int .u8 (((l[j]'hjl) + 1).toNat : Int))) rfl))
      have hwj : IntKind.i64.wrap ((j : Int) + 1) = ((j + 1 : Nat) : Int) := by rw [IntKind.wrap_i64]; omega
      have hll' := Lib.hid (show (l.set j ((l[j]'hjl) + 1)).length = bn by simpa using hll)
      generalize hcl : (l[j]'hjl) = cl at *
      simp only [bV] at hcr
      clear hSr hKr hll
      go_wp2
      go_roundw
      case rel => exact ⟨j + 1, by omega, rfl, ⟨_, hll'.out, hS'.out⟩, hK'.out⟩
      case measure => simp [intOf]; omega
    · have hjn : j = bn := by omega
      have HB1r := Lib.hid ((hKr.block _ (lt_of_block HB1t.out) (fun e => by have := (HRB.out _ e).1; omega)).trans HB1t.out)
      have HB2r := Lib.hid ((hKr.block _ (lt_of_block HB2t.out) (fun e => by have := (HRB.out _ e).1; omega)).trans HB2t.out)
      have HB3r := Lib.hid ((hKr.block _ (lt_of_block HB3t.out) (fun e => by have := (HRB.out _ e).1; omega)).trans HB3t.out)
      have HAr := Lib.hid ((hKr.block _ (lt_of_block HAt.out) (fun e => by have := (HRB.out _ e).2; omega)).trans HAt.out)
      have HNA := Lib.hid (show some w1.heap.size ≠ some (w.heap.size + 1 + 1) from fun e => by injection e; omega)
      have HKw := Lib.hid (show Keeps (fun k => k = w1.heap.size ∨ k = w.heap.size + 1 + 1 ∨ rowOf (.slice va bn vcap) = some k) u3 wr from hKr.mono (fun k _ h => .inr (.inr h)))
      have hlt' : ¬ (j : Int) < (bn : Nat) := by omega
      clear hKr hSr hll hjn
      go_wp2
      refine reg_open (some (w.heap.size + 1 + 1)) (n := 15) rfl (by kernel_rfl) ?_
      refine reg_take 0 (some 87) (v := ?_) rfl rfl (by kernel_rfl) (by kernel_rfl) (by kernel_rfl) (fun _ _ _ h => h) (by rfl) ?_ ?_
      rotate_left
      · intro W hW; refine exec_ld40 (x := Operand.tmp 11) ?_ ?_ (((hW).block w1.heap.size (lt_of_block HAr.out) HNA.out).trans HAr.out) <;> rfl
      try simp only [Act.put, List.setIfInBounds_toArray, List.set_cons_zero, List.set_cons_succ]
      refine reg_take 1 (some 88) (v := ?_) rfl rfl (by kernel_rfl) (by kernel_rfl) (by kernel_rfl) (fun _ _ _ h => h) (by rfl) ?_ ?_
      rotate_left
      · intro W hW; go_simp; first | done | with_reducible rfl
      try simp only [Act.put, List.setIfInBounds_toArray, List.set_cons_zero, List.set_cons_succ]
      refine reg_take 2 (some 89) (v := ?_) rfl rfl (by kernel_rfl) (by kernel_rfl) (by kernel_rfl) (fun _ _ _ h => h) (by rfl) ?_ ?_
      rotate_left
      · intro W hW; go_simp; first | done | with_reducible rfl
      try simp only [Act.put, List.setIfInBounds_toArray, List.set_cons_zero, List.set_cons_succ]
      refine reg_take 3 (some 90) (v := ?_) rfl rfl (by kernel_rfl) (by kernel_rfl) (by kernel_rfl) (fun _ _ _ h => h) (by rfl) ?_ ?_
      rotate_left
      · intro W hW; go_simp; first | done | with_reducible rfl
      try simp only [Act.put, List.setIfInBounds_toArray, List.set_cons_zero, List.set_cons_succ]
      refine reg_take 4 (some 91) (v := ?_) rfl rfl (by kernel_rfl) (by kernel_rfl) (by kernel_rfl) (fun _ _ _ h => h) (by rfl) ?_ ?_
      rotate_left
      · intro W hW; go_simp; first | done | with_reducible rfl
      try simp only [Act.put, List.setIfInBounds_toArray, List.set_cons_zero, List.set_cons_succ]
      refine reg_take 5 (some 92) (v := ?_) rfl rfl (by kernel_rfl) (by kernel_rfl) (by kernel_rfl) (fun _ _ _ h => h) (by rfl) ?_ ?_
      rotate_left
      · intro W hW; go_simp; first | done | with_reducible rfl
      try simp only [Act.put, List.setIfInBounds_toArray, List.set_cons_zero, List.set_cons_succ]
      refine reg_take 7 (some 94) (v := ?_) rfl rfl (by kernel_rfl) (by kernel_rfl) (by kernel_rfl) (fun _ _ _ h => h) (by rfl) ?_ ?_
      rotate_left
      · intro W hW; go_simp; first | done | with_reducible rfl
      try simp only [Act.put, List.setIfInBounds_toArray, List.set_cons_zero, List.set_cons_succ]
      refine wpAnyH_ready (rs := [6]) (by kernel_rfl) (by simp) ?_
      refine (AllReadyH.cons (o := { dst := some 93, op := Op.call { callee := Callee.value (Operand.func 12), args := #[Operand.tmp 92], argTypes := #[26] }, type := 3, pos := "law.go:67", after := #[{ on := 5, ground := Ground.data }, { on := 4, ground := Ground.chain }, { on := 4, ground := Ground.guard }], guard := some (4, true) }) rfl (fun K hK => ?_) AllReadyH.nil)
      go_simp
      refine (num_any _ _).mono ?_; rintro e w' ⟨rfl, rfl⟩
      refine reg_same hK ?_
      clear hK K
      try simp only [Act.put, List.setIfInBounds_toArray, List.set_cons_zero, List.set_cons_succ]
      refine reg_take 8 (some 95) (v := ?_) rfl rfl (by kernel_rfl) (by kernel_rfl) (by kernel_rfl) (fun _ _ _ h => h) (by rfl) ?_ ?_
      rotate_left
      · intro W hW; go_simp; first | done | with_reducible rfl
      try simp only [Act.put, List.setIfInBounds_toArray, List.set_cons_zero, List.set_cons_succ]
      refine reg_take 9 (some 96) (v := ?_) rfl rfl (by kernel_rfl) (by kernel_rfl) (by kernel_rfl) (fun _ _ _ h => h) (by rfl) ?_ ?_
      rotate_left
      · intro W hW; go_simp; first | done | with_reducible rfl
      try simp only [Act.put, List.setIfInBounds_toArray, List.set_cons_zero, List.set_cons_succ]
      refine reg_take 10 (some 97) (v := ?_) rfl rfl (by kernel_rfl) (by kernel_rfl) (by kernel_rfl) (fun _ _ _ h => h) (by rfl) ?_ ?_
      rotate_left
      · intro W hW; go_simp; first | done | with_reducible rfl
      try simp only [Act.put, List.setIfInBounds_toArray, List.set_cons_zero, List.set_cons_succ]
      refine reg_take 11 (some 98) (v := ?_) rfl rfl (by kernel_rfl) (by kernel_rfl) (by kernel_rfl) (fun _ _ _ h => h) (by rfl) ?_ ?_
      rotate_left
      · intro W hW; go_simp; first | done | with_reducible rfl
      try simp only [Act.put, List.setIfInBounds_toArray, List.set_cons_zero, List.set_cons_succ]
      refine reg_take 12 (some 99) (v := ?_) rfl rfl (by kernel_rfl) (by kernel_rfl) (by kernel_rfl) (fun _ _ _ h => h) (by rfl) ?_ ?_
      rotate_left
      · intro W hW; go_simp; first | done | with_reducible rfl
      try simp only [Act.put, List.setIfInBounds_toArray, List.set_cons_zero, List.set_cons_succ]
      refine wpAnyH_ready (rs := [13]) (by kernel_rfl) (by simp) ?_
      refine (AllReadyH.cons (o := { dst := none, op := Op.store 40 (Operand.tmp 6) (Operand.tmp 87), type := 0, pos := "law.go:67", after := #[{ on := 0, ground := Ground.data }, { on := 10, ground := Ground.chain }, { on := 0, ground := Ground.phase }, { on := 1, ground := Ground.textOnly Departure.lateStores }, { on := 2, ground := Ground.textOnly Departure.lateStores }, { on := 3, ground := Ground.textOnly Departure.lateStores }, { on := 4, ground := Ground.textOnly Departure.lateStores }, { on := 5, ground := Ground.textOnly Departure.lateStores }, { on := 6, ground := Ground.textOnly Departure.lateStoresUnsure }, { on := 7, ground := Ground.textOnly Departure.lateStores }, { on := 8, ground := Ground.textOnly Departure.lateStores }, { on := 9, ground := Ground.textOnly Departure.lateStores }, { on := 10, ground := Ground.textOnly Departure.lateStores }, { on := 11, ground := Ground.textOnly Departure.lateStores }, { on := 12, ground := Ground.textOnly Departure.lateStores }], guard := none }) rfl (fun K hK => ?_) AllReadyH.nil)
      refine wp_store_all 40 _ _ rfl (w.heap.size + 1 + 1) ?csu3 ?hxu3 ?hyu3 _ _ HB3r.out ?hfu3 3 ?hnu3 Try.size40 ?h1u3 ?_
      case hyu3 => exact rfl
      case hxu3 => exact rfl
      case hfu3 => exact rfl
      case hnu3 => exact rfl
      case h1u3 => simp [allOne, Value.oneCell']
      intro u9 hb9 h9
      refine reg_next hK h9 ?_
      clear hK K
      try simp only [Act.put]
      refine reg_take 14 (some 7) (v := ?_) rfl rfl (by kernel_rfl) (by kernel_rfl) (by kernel_rfl) (fun _ _ _ h => h) (by rfl) ?_ ?_
      rotate_left
      · intro W hW; go_simp; first | done | with_reducible rfl
      try simp only [Act.put, List.setIfInBounds_toArray, List.set_cons_zero, List.set_cons_succ]
      refine wpAnyH_done (by kernel_rfl) ?_ _
      have HZ9 := Lib.hid hb9
      have HT9 := Lib.hid (drewl h9)
      clear h9 hb9
      go_wp2
      refine bodyPost_ret (results_c40t rfl _ _ _ _ (by rfl) (by rfl) HZ9.out) (by rfl) ?_
      refine ⟨c', r', with_ (with_ M (fun k => w.heap.size ≤ k ∧ k < w3.heap.size)) (own c' B), rfl, ?_⟩
      exact APost.make HMB.out HNS.out HG3.out HG1.out HZZ.out HR1.out HK2.out HL3.out (HKw.out.trans (Keeps.row HT9.out (.inr (.inl rfl))))
set_option maxRecDepth 100000 in
set_option maxHeartbeats 16000000 in
theorem act_send (M : Nat → Prop) (B : Nat) (c : Nc) (r : Rf) (g : Nh) (x : Ac) (bs : List UInt8) (w : World) (hNS : NS M w B c g) (hRS : RS M w r g) (hb : Nb g) (hMB : ∀ k, M k → k < w.heap.size) (hn : x.bn = bs.length) (hx : Inn M w (.slice x.ba x.bn x.bc) bs) (hbl : bs.length ≤ 140737488355328) (hw : (x.what == 0) = false ∧ (x.what == 1) = false) : Calls Try.prog 19 #[.pointer (some ⟨B, 0, none⟩), r.val, x.val] w fun e w' => ∃ c' r' M', e = .returned (.tuple #[r'.val, .bool true]) ∧ APost M M' w w' B c c' r' (g.send bs) := by
  obtain ⟨what, ba, bn, bc⟩ := x
  simp only at hw hn hx
  obtain ⟨e0, e1⟩ := hw
  obtain ⟨hg0, b1, b2, b3⟩ := three_new w (.cells r.cells 40) (.cells (⟨what, ba, bn, bc⟩ : Ac).cells 36) (.cells Rf.zero.cells 40)
  have HB1 := Lib.hid (show _ from b1)
  have HB2 := Lib.hid b2
  have HB3 := Lib.hid b3
  have HG0 := Lib.hid hg0
  have hga := World.grownBy_alloc (((w.alloc (.cells r.cells 40)).alloc (.cells (⟨what, ba, bn, bc⟩ : Ac).cells 36)).alloc (.cells Rf.zero.cells 40)) (.cells #[] 5) none
  have hv0 : Gs eB ((((w.alloc (.cells r.cells 40)).alloc (.cells (⟨what, ba, bn, bc⟩ : Ac).cells 36)).alloc (.cells Rf.zero.cells 40)).alloc (.cells #[] 5)) (.slice (some ⟨w.heap.size + 1 + 1 + 1, 0, none⟩) 0 0) 0 [] :=
    Gs.empty eB (show _ = some (Obj.cells #[] 5 (0, 0)) from by have := heap_alloc_new (((w.alloc (.cells r.cells 40)).alloc (.cells (⟨what, ba, bn, bc⟩ : Ac).cells 36)).alloc (.cells Rf.zero.cells 40)) (.cells #[] 5); simpa using this)
  have hsx : Go.Proofs.Ytnglbneefkdfgaa.Src w ba bs := hx.src
  have hvs : Go.Src Try.prog 1 22 (.slice ba bn bc) bn (bsV bs) ((((w.alloc (.cells r.cells 40)).alloc (.cells (⟨what, ba, bn, bc⟩ : Ac).cells 36)).alloc (.cells Rf.zero.cells 40)).alloc (.cells #[] 5)) := src_gon hn (hsx.keptNone (hg0.trans hga))
  have HN := Lib.hid hn
  have HNS := Lib.hid hNS
  have HRS := Lib.hid hRS
  have HMB := Lib.hid hMB
  have HXI := Lib.hid hx
  have HXS := Lib.hid hsx
  have HB1z := Lib.hid ((hga.block _ (lt_of_block HB1.out) (by simp)).trans HB1.out)
  have HB2z := Lib.hid ((hga.block _ (lt_of_block HB2.out) (by simp)).trans HB2.out)
  have HB3z := Lib.hid ((hga.block _ (lt_of_block HB3.out) (by simp)).trans HB3.out)
  have HGz := Lib.hid (hg0.trans hga)
  have hbn : bn ≤ 140737488355328 := by omega
  have HPS := Lib.hid (bs_one bs)
  have hMB' := hMB
  clear hga hg0 b1 b2 b3 hNS hRS hMB hx hsx hn
  clear hMB'
  go_enter Try.func19, Try.ntmps19
  go_wp2_with (at_builtin; refine wpList_gs_big eB rfl _ _ 22 rfl (.slice ba bn bc) 0 bn [] (bsV bs) rfl rfl hv0 hvs HPS.out (by omega) (by simp only [eB]; omega) ?_)
  intro v1 w1 hQ1 hg1 hr1
  replace hQ1 : Gs eB w1 v1 bn (bsV bs) := by simpa using hQ1
  obtain ⟨va, vcap, hv1, hvc⟩ := hQ1.shape
  subst hv1
  have hrb : ∀ k, rowOf (.slice va bn vcap) = some k → w.heap.size + 3 ≤ k := by
    rcases hr1 with h | h
    · rw [h]; rintro k ⟨⟩; exact Nat.le_refl _
    · rw [h]; rintro k ⟨⟩; omega
  have HB1a := Lib.hid ((hg1.block _ (lt_of_block HB1z.out) (by simp [rowOf]; try omega)).trans HB1z.out)
  have HB2a := Lib.hid ((hg1.block _ (lt_of_block HB2z.out) (by simp [rowOf]; try omega)).trans HB2z.out)
  have HB3a := Lib.hid ((hg1.block _ (lt_of_block HB3z.out) (by simp [rowOf]; try omega)).trans HB3z.out)
  have HGa := Lib.hid (grown_new HGz.out hg1 (by show w.heap.size ≤ w.heap.size + 1 + 1 + 1; omega))
  have HQa := Lib.hid hQ1
  have HRB := Lib.hid (show ∀ k, rowOf (.slice va bn vcap) = some k → w.heap.size + 3 ≤ k ∧ k < w1.heap.size from fun k hk => ⟨hrb k hk, hQ1.lt k hk⟩)
  have hsza := lt_of_block HB3a.out
  have hnA := heap_alloc_new w1 (.cells Rf.zero.cells 40)
  have hgA := World.grownBy_alloc w1 (.cells Rf.zero.cells 40) none
  have HB1b := Lib.hid ((hgA.block _ (lt_of_block HB1a.out) (by simp)).trans HB1a.out)
  have HB2b := Lib.hid ((hgA.block _ (lt_of_block HB2a.out) (by simp)).trans HB2a.out)
  have HB3b := Lib.hid ((hgA.block _ (lt_of_block HB3a.out) (by simp)).trans HB3a.out)
  have HNA0 := Lib.hid hnA
  have HGb := Lib.hid (HGa.out.trans hgA)
  have HQb := Lib.hid (HQa.out.keptNone hgA)
  clear hQ1 hg1 hr1 hv0 hvs hnA hgA hrb HB1z HB2z HB3z HGz
  go_wp2_with (with_reducible refine hold_ld 40 _ rfl ?_)
  apply Lib.hid
  with_reducible refine wpList_load_blk rfl 40 _ rfl _ ?o905 ?hx905 _ _ _ HB1a.out _ 3 ?hn905 Try.underlying40 rfl Try.size40 ?_
  case hx905 => exact rfl
  case hn905 => exact rfl
  go_wp2_with (with_reducible refine hold_st 40 _ _ rfl ?_)
  apply Lib.hid
  with_reducible refine wpList_store_all rfl 40 _ _ rfl _ ?cs906 ?hx906 ?hy906 _ _ HNA0.out ?hf906 _ ?hl906 Try.size40 ?h1906 ?_
  case hy906 => exact rfl
  case hx906 => exact rfl
  case hf906 => exact rfl
  case hl906 => exact rfl
  case h1906 => simp [allOne, Value.oneCell']
  intro w3 hb3 hg3
  have HB1c := Lib.hid ((hg3.block _ (lt_of_block HB1b.out) (by simp; omega)).trans HB1b.out)
  have HB2c := Lib.hid ((hg3.block _ (lt_of_block HB2b.out) (by simp; omega)).trans HB2b.out)
  have HB3c := Lib.hid ((hg3.block _ (lt_of_block HB3b.out) (by simp; omega)).trans HB3b.out)
  have HA := Lib.hid (show w3.heap[w1.heap.size]? = some (.cells r.cells 40 (0, 0)) from hb3)
  have hg3' := grown_new HGb.out hg3 (by omega)
  have HG3 := Lib.hid hg3'
  have HQ3 := Lib.hid (HQb.out.kept hg3 (fun k hk e => by cases e; have := HRB.out _ hk; omega))
  have hz3 := lt_of_block HA.out
  have HM1 := Lib.hid (show ∀ k, with_ M (fun k => w.heap.size ≤ k ∧ k < w3.heap.size) k → M k ∨ w.heap.size ≤ k from fun k hk => hk.imp id (fun h => h.1))
  have HMB1 := Lib.hid (show ∀ k, with_ M (fun k => w.heap.size ≤ k ∧ k < w3.heap.size) k → k < w3.heap.size from fun k hk => hk.elim (fun h => by have := HMB.out k h; omega) (fun h => h.2))
  have HR3 := Lib.hid ((HRS.out.more HM1.out).keptNone hg3')
  have HN3 := Lib.hid ((HNS.out.more (fun k hk => .inl hk) HM1.out).keptNone hg3')
  have HXI3 := Lib.hid ((HXI.out.more HM1.out).keeps (X := fun _ => False) (Keeps.keep hg3') (fun _ _ h => h.elim))
  have hc1 : w3.cell? ⟨w.heap.size + 1, 1, none⟩ = some (.slice ba bn bc) := cells_all HB2c.out 1
  have hc0 : w3.cell? ⟨w.heap.size + 1, 0, none⟩ = some (.int .i64 what) := cells_all HB2c.out 0
  clear hb3 hg3 hg3' HNA0 HGb HQb HB1a HB2a HB3a HB1b HB2b HB3b
  go_wp2_with (with_reducible refine hold_ld 40 _ rfl ?_)
  apply Lib.hid
  with_reducible refine wpList_load_blk rfl 40 _ rfl _ ?o907 ?hx907 _ _ _ HB1c.out _ 3 ?hn907 Try.underlying40 rfl Try.size40 ?_
  case hx907 => exact rfl
  case hn907 => exact rfl
  go_wp2_with fail
  refine (ref_send_any _ r g w3 HR3.out hb ba bn bc bs HMB1.out HN.out HXI3.out).mono ?_; rintro e u1 ⟨r', rfl, h1, hR1⟩
  have HB1u := Lib.hid ((h1.block _ (lt_of_block HB1c.out) (by simp)).trans HB1c.out)
  have HB2u := Lib.hid ((h1.block _ (lt_of_block HB2c.out) (by simp)).trans HB2c.out)
  have HB3u := Lib.hid ((h1.block _ (lt_of_block HB3c.out) (by simp)).trans HB3c.out)
  have HAu := Lib.hid ((h1.block _ (lt_of_block HA.out) (by simp)).trans HA.out)
  have HG1 := Lib.hid h1
  have HR1 := Lib.hid hR1
  clear h1 hR1 hc0 hc1
  go_wp2_with (with_reducible refine hold_st 40 _ _ rfl ?_)
  apply Lib.hid
  with_reducible refine wpList_store_all rfl 40 _ _ rfl _ ?cs908 ?hx908 ?hy908 _ _ HAu.out ?hf908 _ ?hl908 Try.size40 ?h1908 ?_
  case hy908 => exact rfl
  case hx908 => exact rfl
  case hf908 => exact rfl
  case hl908 => exact rfl
  case h1908 => simp [allOne, Value.oneCell']
  intro u2 hb2 hg2
  have HB1v := Lib.hid ((hg2.block _ (lt_of_block HB1u.out) (by simp; omega)).trans HB1u.out)
  have HB2v := Lib.hid ((hg2.block _ (lt_of_block HB2u.out) (by simp; omega)).trans HB2u.out)
  have HB3v := Lib.hid ((hg2.block _ (lt_of_block HB3u.out) (by simp; omega)).trans HB3u.out)
  have HAv := Lib.hid (show u2.heap[w1.heap.size]? = some (.cells r'.cells 40 (0, 0)) from hb2)
  have HZZ := Lib.hid (show ∀ k, (k = w1.heap.size ∨ k = w.heap.size + 1 + 1 ∨ rowOf (.slice va bn vcap) = some k) → w.heap.size ≤ k ∧ k < w3.heap.size from fun k hk => by
    rcases hk with rfl | rfl | h
    · omega
    · omega
    · have := HRB.out k h; omega)
  have hk2 : Keeps (fun k => k = w1.heap.size ∨ k = w.heap.size + 1 + 1 ∨ rowOf (.slice va bn vcap) = some k) u1 u2 := Keeps.row hg2 (.inl rfl)
  have HK2 := Lib.hid hk2
  have HN2 := Lib.hid ((HN3.out.keptNone HG1.out).keeps hk2 (fun k _ hk => .inr (HZZ.out k hk)) (fun k hk hz => by have := HNS.out.lt k hk; have := HZZ.out k hz; omega))
  have hzu := HG1.out.size
  have hzv := hk2.size
  have HMB2 := Lib.hid (show ∀ k, with_ M (fun k => w.heap.size ≤ k ∧ k < w3.heap.size) k → k < u2.heap.size from fun k hk => by have := HMB1.out k hk; omega)
  have HQ2 := Lib.hid ((HQ3.out.keptNone HG1.out).kept hg2 (fun k hk e => by cases e; have := HRB.out _ hk; omega))
  have HXS2 := Lib.hid (show Go.Proofs.Ytnglbneefkdfgaa.Src u2 ba bs from (HXS.out.keptNone (HG3.out.trans HG1.out)).keeps hk2 (fun he b o e hz => by have h1 := HZZ.out b hz; have h2 := Go.Proofs.Ytnglbneefkdfgaa.Src.lt (e ▸ HXS.out) he; omega))
  clear hb2 hg2 hk2
  have hsv : Go.Proofs.Ytnglbneefkdfgaa.Src u2 va bs := Gs.toSrc (cap := vcap) (by rw [← HN.out]; exact HQ2.out)
  have C5 := send_any _ B c g u2 HN2.out hb HMB2.out va bn vcap bs HN.out hsv
  clear hsv
  go_wp2_with fail
  refine C5.mono ?_; rintro e u3 ⟨c', rfl, hL⟩
  clear C5
  have hlo := HNS.out.lt
  have HB1t := Lib.hid ((hL.keep.block _ (lt_of_block HB1v.out) (fun e => by have := hlo _ e; omega)).trans HB1v.out)
  have HB2t := Lib.hid ((hL.keep.block _ (lt_of_block HB2v.out) (fun e => by have := hlo _ e; omega)).trans HB2v.out)
  have HB3t := Lib.hid ((hL.keep.block _ (lt_of_block HB3v.out) (fun e => by have := hlo _ e; omega)).trans HB3v.out)
  have HAt := Lib.hid ((hL.keep.block _ (lt_of_block HAv.out) (fun e => by have := hlo _ e; omega)).trans HAv.out)
  have hQ5 := HQ2.out.keeps hL.keep (fun k hk e => by have := hlo _ e; have := HRB.out k hk; omega)
  have hX5 : Go.Proofs.Ytnglbneefkdfgaa.Src u3 ba bs := HXS2.out.keeps hL.keep (fun he b o e hz => HXI.out.nm e he (HNS.out.ow b hz))
  have HL3 := Lib.hid hL
  have HQ5 := Lib.hid hQ5
  have HX5 := Lib.hid hX5
  have hsv : Go.Proofs.Ytnglbneefkdfgaa.Src u3 va bs := Gs.toSrc (cap := vcap) (by rw [← HN.out]; exact hQ5)
  have k1 := conv_srcn (c := vcap) HN.out hsv
  have k2 := conv_srcn (c := bc) HN.out hX5
  have hc1 : u3.cell? ⟨w.heap.size + 1, 1, none⟩ = some (.slice ba bn bc) := cells_all HB2t.out 1
  clear hL hX5 hQ5 hsv hlo
  go_wp2
  clear k1 k2 hc1
  go_loopw [17] (fun i wr => ∃ j : Nat, j ≤ bn ∧ i = .int .i64 j ∧ (∃ l : List UInt8, l.length = bn ∧ Gs eB wr (.slice va bn vcap) bn (bsV l)) ∧ Keeps (fun k => rowOf (.slice va bn vcap) = some k) u3 wr) (fun i _ => bn - (intOf i).toNat)
  case atStart => exact ⟨0, Nat.zero_le _, rfl, ⟨bs, HN.out.symm, HQ5.out⟩, Keeps.refl _ _⟩
  case round =>
    obtain ⟨j, hj, rfl, ⟨l, hll, hSr⟩, hKr⟩ := hrel
    rcases Nat.lt_or_ge j bn with hlt | hge
    · obtain ⟨gb, o, he⟩ := hSr.some_of (by omega)
      subst he
      have hjl : j < l.length := by omega
      have hcr := hSr.cell j _ (bV_get l j hjl)
      have hfr : wr.frozen? ⟨gb, o + j, none⟩ = false := hSr.free (o + j)
      have hlt' : (j : Int) < (bn : Nat) := by omega
      have hw8 := u8_succ (l[j]'hjl)
      have hS' := Lib.hid (hSr.setAt hll j hjl ((l[j]'hjl) + 1))
      have hK' := Lib.hid (hKr.trans (Keeps.row (grown_setCell wr gb (o + j) (.int .u8 (((l[j]'hjl) + 1).toNat : Int))) rfl))
      have hwj : IntKind.i64.wrap ((j : Int) + 1) = ((j + 1 : Nat) : Int) := by rw [IntKind.wrap_i64]; omega
      have hll' := Lib.hid (show (l.set j ((l[j]'hjl) + 1)).length = bn by simpa using hll)
      generalize hcl : (l[j]'hjl) = cl at *
      simp only [bV] at hcr
      clear hSr hKr hll
      go_wp2
      go_roundw
      case rel => exact ⟨j + 1, by omega, rfl, ⟨_, hll'.out, hS'.out⟩, hK'.out⟩
      case measure => simp [intOf]; omega
    · have hjn : j = bn := by omega
      have HB1r := Lib.hid ((hKr.block _ (lt_of_block HB1t.out) (fun e => by have := (HRB.out _ e).1; omega)).trans HB1t.out)
      have HB2r := Lib.hid ((hKr.block _ (lt_of_block HB2t.out) (fun e => by have := (HRB.out _ e).1; omega)).trans HB2t.out)
      have HB3r := Lib.hid ((hKr.block _ (lt_of_block HB3t.out) (fun e => by have := (HRB.out _ e).1; omega)).trans HB3t.out)
      have HAr := Lib.hid ((hKr.block _ (lt_of_block HAt.out) (fun e => by have := (HRB.out _ e).2; omega)).trans HAt.out)
      have HNA := Lib.hid (show some w1.heap.size ≠ some (w.heap.size + 1 + 1) from fun e => by injection e; omega)
      have HKw := Lib.hid (show Keeps (fun k => k = w1.heap.size ∨ k = w.heap.size + 1 + 1 ∨ rowOf (.slice va bn vcap) = some k) u3 wr from hKr.mono (fun k _ h => .inr (.inr h)))
      have hlt' : ¬ (j : Int) < (bn : Nat) := by omega
      clear hKr hSr hll hjn
      go_wp2
      refine reg_open (some (w.heap.size + 1 + 1)) (n := 15) rfl (by kernel_rfl) ?_
      refine reg_take 0 (some 87) (v := ?_) rfl rfl (by kernel_rfl) (by kernel_rfl) (by kernel_rfl) (fun _ _ _ h => h) (by rfl) ?_ ?_
      rotate_left
      · intro W hW; refine exec_ld40 (x := Operand.tmp 11) ?_ ?_ (((hW).block w1.heap.size (lt_of_block HAr.out) HNA.out).trans HAr.out) <;> rfl
      try simp only [Act.put, List.setIfInBounds_toArray, List.set_cons_zero, List.set_cons_succ]
      refine reg_take 1 (some 88) (v := ?_) rfl rfl (by kernel_rfl) (by kernel_rfl) (by kernel_rfl) (fun _ _ _ h => h) (by rfl) ?_ ?_
      rotate_left
      · intro W hW; go_simp; first | done | with_reducible rfl
      try simp only [Act.put, List.setIfInBounds_toArray, List.set_cons_zero, List.set_cons_succ]
      refine reg_take 2 (some 89) (v := ?_) rfl rfl (by kernel_rfl) (by kernel_rfl) (by kernel_rfl) (fun _ _ _ h => h) (by rfl) ?_ ?_
      rotate_left
      · intro W hW; go_simp; first | done | with_reducible rfl
      try simp only [Act.put, List.setIfInBounds_toArray, List.set_cons_zero, List.set_cons_succ]
      refine reg_take 3 (some 90) (v := ?_) rfl rfl (by kernel_rfl) (by kernel_rfl) (by kernel_rfl) (fun _ _ _ h => h) (by rfl) ?_ ?_
      rotate_left
      · intro W hW; go_simp; first | done | with_reducible rfl
      try simp only [Act.put, List.setIfInBounds_toArray, List.set_cons_zero, List.set_cons_succ]
      refine reg_take 4 (some 91) (v := ?_) rfl rfl (by kernel_rfl) (by kernel_rfl) (by kernel_rfl) (fun _ _ _ h => h) (by rfl) ?_ ?_
      rotate_left
      · intro W hW; go_simp; first | done | with_reducible rfl
      try simp only [Act.put, List.setIfInBounds_toArray, List.set_cons_zero, List.set_cons_succ]
      refine reg_take 5 (some 92) (v := ?_) rfl rfl (by kernel_rfl) (by kernel_rfl) (by kernel_rfl) (fun _ _ _ h => h) (by rfl) ?_ ?_
      rotate_left
      · intro W hW; go_simp; first | done | with_reducible rfl
      try simp only [Act.put, List.setIfInBounds_toArray, List.set_cons_zero, List.set_cons_succ]
      refine reg_take 7 (some 94) (v := ?_) rfl rfl (by kernel_rfl) (by kernel_rfl) (by kernel_rfl) (fun _ _ _ h => h) (by rfl) ?_ ?_
      rotate_left
      · intro W hW; go_simp; first | done | with_reducible rfl
      try simp only [Act.put, List.setIfInBounds_toArray, List.set_cons_zero, List.set_cons_succ]
      refine wpAnyH_ready (rs := [6]) (by kernel_rfl) (by simp) ?_
      refine (AllReadyH.cons (o := { dst := some 93, op := Op.call { callee := Callee.value (Operand.func 12), args := #[Operand.tmp 92], argTypes := #[26] }, type := 3, pos := "law.go:67", after := #[{ on := 5, ground := Ground.data }, { on := 4, ground := Ground.chain }, { on := 4, ground := Ground.guard }], guard := some (4, true) }) rfl (fun K hK => ?_) AllReadyH.nil)
      go_simp
      refine (num_any _ _).mono ?_; rintro e w' ⟨rfl, rfl⟩
      refine reg_same hK ?_
      clear hK K
      try simp only [Act.put, List.setIfInBounds_toArray, List.set_cons_zero, List.set_cons_succ]
      refine reg_take 8 (some 95) (v := ?_) rfl rfl (by kernel_rfl) (by kernel_rfl) (by kernel_rfl) (fun _ _ _ h => h) (by rfl) ?_ ?_
      rotate_left
      · intro W hW; go_simp; first | done | with_reducible rfl
      try simp only [Act.put, List.setIfInBounds_toArray, List.set_cons_zero, List.set_cons_succ]
      refine reg_take 9 (some 96) (v := ?_) rfl rfl (by kernel_rfl) (by kernel_rfl) (by kernel_rfl) (fun _ _ _ h => h) (by rfl) ?_ ?_
      rotate_left
      · intro W hW; go_simp; first | done | with_reducible rfl
      try simp only [Act.put, List.setIfInBounds_toArray, List.set_cons_zero, List.set_cons_succ]
      refine reg_take 10 (some 97) (v := ?_) rfl rfl (by kernel_rfl) (by kernel_rfl) (by kernel_rfl) (fun _ _ _ h => h) (by rfl) ?_ ?_
      rotate_left
      · intro W hW; go_simp; first | done | with_reducible rfl
      try simp only [Act.put, List.setIfInBounds_toArray, List.set_cons_zero, List.set_cons_succ]
      refine reg_take 11 (some 98) (v := ?_) rfl rfl (by kernel_rfl) (by kernel_rfl) (by kernel_rfl) (fun _ _ _ h => h) (by rfl) ?_ ?_
      rotate_left
      · intro W hW; go_simp; first | done | with_reducible rfl
      try simp only [Act.put, List.setIfInBounds_toArray, List.set_cons_zero, List.set_cons_succ]
      refine reg_take 12 (some 99) (v := ?_) rfl rfl (by kernel_rfl) (by kernel_rfl) (by kernel_rfl) (fun _ _ _ h => h) (by rfl) ?_ ?_
      rotate_left
      · intro W hW; go_simp; first | done | with_reducible rfl
      try simp only [Act.put, List.setIfInBounds_toArray, List.set_cons_zero, List.set_cons_succ]
      refine wpAnyH_ready (rs := [13]) (by kernel_rfl) (by simp) ?_
      refine (AllReadyH.cons (o := { dst := none, op := Op.store 40 (Operand.tmp 6) (Operand.tmp 87), type := 0, pos := "law.go:67", after := #[{ on := 0, ground := Ground.data }, { on := 10, ground := Ground.chain }, { on := 0, ground := Ground.phase }, { on := 1, ground := Ground.textOnly Departure.lateStores }, { on := 2, ground := Ground.textOnly Departure.lateStores }, { on := 3, ground := Ground.textOnly Departure.lateStores }, { on := 4, ground := Ground.textOnly Departure.lateStores }, { on := 5, ground := Ground.textOnly Departure.lateStores }, { on := 6, ground := Ground.textOnly Departure.lateStoresUnsure }, { on := 7, ground := Ground.textOnly Departure.lateStores }, { on := 8, ground := Ground.textOnly Departure.lateStores }, { on := 9, ground := Ground.textOnly Departure.lateStores }, { on := 10, ground := Ground.textOnly Departure.lateStores }, { on := 11, ground := Ground.textOnly Departure.lateStores }, { on := 12, ground := Ground.textOnly Departure.lateStores }], guard := none }) rfl (fun K hK => ?_) AllReadyH.nil)
      refine wp_store_all 40 _ _ rfl (w.heap.size + 1 + 1) ?csu8 ?hxu8 ?hyu8 _ _ HB3r.out ?hfu8 3 ?hnu8 Try.size40 ?h1u8 ?_
      case hyu8 => exact rfl
      case hxu8 => exact rfl
      case hfu8 => exact rfl
      case hnu8 => exact rfl
      case h1u8 => simp [allOne, Value.oneCell']
      intro u9 hb9 h9
      refine reg_next hK h9 ?_
      clear hK K
      try simp only [Act.put]
      refine reg_take 14 (some 7) (v := ?_) rfl rfl (by kernel_rfl) (by kernel_rfl) (by kernel_rfl) (fun _ _ _ h => h) (by rfl) ?_ ?_
      rotate_left
      · intro W hW; go_simp; first | done | with_reducible rfl
      try simp only [Act.put, List.setIfInBounds_toArray, List.set_cons_zero, List.set_cons_succ]
      refine wpAnyH_done (by kernel_rfl) ?_ _
      have HZ9 := Lib.hid hb9
      have HT9 := Lib.hid (drewl h9)
      clear h9 hb9
      go_wp2
      refine bodyPost_ret (results_c40t rfl _ _ _ _ (by rfl) (by rfl) HZ9.out) (by rfl) ?_
      refine ⟨c', r', with_ (with_ M (fun k => w.heap.size ≤ k ∧ k < w3.heap.size)) (own c' B), rfl, ?_⟩
      exact APost.make HMB.out HNS.out HG3.out HG1.out HZZ.out HR1.out HK2.out HL3.out (HKw.out.trans (Keeps.row HT9.out (.inr (.inl rfl))))
end Go.Proofs.Ytnglbneefkdfgaa
