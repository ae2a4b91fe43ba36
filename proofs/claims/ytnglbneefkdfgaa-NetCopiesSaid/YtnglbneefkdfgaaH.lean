import Derived.Test.YtnglbneefkdfgaaG
set_option linter.unusedVariables false
namespace Go.Proofs.Ytnglbneefkdfgaa
open Go.RowKit
theorem Gs.empty (E : El) {w : World} {b : Nat} (h : w.heap[b]? = some (.cells #[] E.e (0, 0))) : Gs E w (.slice (some ⟨b, 0, none⟩) 0 0) 0 [] :=
  ⟨by simp, by simp, .inr ⟨b, 0, 0, [], rfl, Nat.le_refl _, Nat.zero_le _, h, by simp, by simp⟩⟩
set_option maxHeartbeats 4000000 in
theorem ref_send_one (M : Nat → Prop) (r : Rf) (g : Nh) (w : World) (h : RS M w r g) (xa : Option Addr) (xcap : Nat) (bs : List UInt8) (hMB : ∀ k, M k → k < w.heap.size) (hx : Inn M w (.slice xa bs.length xcap) bs) (hm : bs.length ≤ 64) (hl : g.sent.length < 1000000) (hbd : tot g.sent ≤ 1000000000) :
    Calls Try.prog 33 #[r.val, .slice xa bs.length xcap] w fun e w' => ∃ r' : Rf, e = .returned (.tuple #[r'.val, .int .i64 (tot g.sent : Nat), .int .i64 0]) ∧ w.grownBy w' none ∧ RS M w' r' { g with sent := g.sent ++ [bs] } := by
  obtain ⟨vs, hp, hb⟩ := h.t
  have hsn := h.sn
  have htk := h.tk
  obtain ⟨ca, cn, cc, tk, sa, sn, sc⟩ := r
  simp only at hsn htk hp
  subst hsn htk
  obtain ⟨hg, h1, h2⟩ := two_new w (.cells #[.slice ca cn cc, .int .i64 (g.taken : Nat), .slice sa g.sent.length sc] 40) (.cells Rf.zero.cells 40)
  have CB := bytes_any M sa sc vs g.sent _ (hp.keptNone hg) (hb.keeps (X := fun _ => False) (Keeps.keep hg) (fun _ _ h => h.elim)) (by omega) hbd
  have HP := Lib.hid hp
  have HB := Lib.hid hb
  have HX := Lib.hid (show _ from h1)
  have HR := Lib.hid h2
  have HG := Lib.hid hg
  have HI := Lib.hid h
  have HMB := Lib.hid hMB
  have HXI := Lib.hid hx
  have hm' : ¬ (64 : Int) < (bs.length : Nat) := by omega
  clear hg h1 h2 hp hb h hMB hx
  go_enter Try.func33, Try.ntmps33
  go_wp2_with fail
  refine CB.mono ?_; rintro e w' ⟨rfl, rfl⟩
  clear CB
  have hn3 := heap_alloc_new ((w.alloc (.cells #[.slice ca cn cc, .int .i64 (g.taken : Nat), .slice sa g.sent.length sc] 40)).alloc (.cells Rf.zero.cells 40)) (.cells #[] 22)
  rw [World.size_alloc, World.size_alloc] at hn3
  have hs3 := ((HP.out.keptNone HG.out).keptNone (World.grownBy_alloc _ (.cells #[] 22) none))
  have HS3 := Lib.hid hs3.src
  have HO3 := Lib.hid hs3.2.1
  have HE3 := Lib.hid (Gs.empty eL hn3)
  clear hn3 hs3
  go_wp2_with (at_builtin; refine wpList_gs eL rfl _ _ 34 rfl _ 0 g.sent.length [] vs rfl rfl HE3.out HS3.out HO3.out (by omega) ?_)
  intro v4 w4 hQ4 hg4 hr4
  have hQ4 : Gs eL w4 v4 g.sent.length vs := by simpa using hQ4
  obtain ⟨a4, c4, rfl, _⟩ := hQ4.shape
  have hr4' : ∀ k, rowOf (.slice a4 g.sent.length c4) = some k → w.heap.size + 2 ≤ k := fun k hk => by
    rcases hr4 with e | e
    · rw [e] at hk; injection hk with hk; change w.heap.size + 1 + 1 = k at hk; omega
    · rw [e] at hk; injection hk with hk; omega
  have hG4 : w.grownBy w4 none := grown_new (HG.out.trans (World.grownBy_alloc _ (.cells #[] 22) none)) hg4 (by show w.heap.size ≤ w.heap.size + 1 + 1; omega)
  have hX4 : w4.heap[w.heap.size]? = _ := (hg4.block _ (by simp; omega) (by simp [rowOf]; omega)).trans ((heap_alloc_old _ _ (by simp; omega)).trans HX.out)
  have hR4 : w4.heap[w.heap.size + 1]? = _ := (hg4.block _ (by simp) (by simp [rowOf])).trans ((heap_alloc_old _ _ (by simp)).trans HR.out)
  have hn5 := heap_alloc_new w4 (.cells #[.slice xa bs.length xcap] 22)
  have hg5 := World.grownBy_alloc w4 (.cells #[.slice xa bs.length xcap] 22) none
  have HQ5 := Lib.hid (hQ4.keptNone hg5)
  have HS5 := Lib.hid (src_ls hn5)
  have HG5 := Lib.hid (hG4.trans hg5)
  have HX5 := Lib.hid ((hg5.block _ (lt_of_block hX4) (by simp)).trans hX4)
  have HR5 := Lib.hid ((hg5.block _ (lt_of_block hR4) (by simp)).trans hR4)
  have HR4 := Lib.hid hr4'
  clear hQ4 hg4 hr4 hr4' hG4 hX4 hR4 hn5 hg5 HE3 HS3 HX HR HG
  go_wp2_with (at_builtin; refine wpList_gs eL rfl _ _ 34 rfl _ g.sent.length 1 vs [.slice xa bs.length xcap] rfl rfl HQ5.out HS5.out (by simp [Value.oneCell']) (by omega) ?_)
  intro v6 w6 hQ6 hg6 hr6
  obtain ⟨a6, c6, rfl, _⟩ := hQ6.shape
  have hX6 := (hg6.block _ (lt_of_block HX5.out) (fun e => by have := HR4.out _ e.symm; omega)).trans HX5.out
  have hR6 := (hg6.block _ (lt_of_block HR5.out) (fun e => by have := HR4.out _ e.symm; omega)).trans HR5.out
  have HG6 := Lib.hid (grown_new3 HG5.out hg6 (fun k e => by have := HR4.out _ e; omega))
  have k6 := cells_all hX6 2
  have f6 := frozen_all hX6 2
  have HX7 := Lib.hid (heap_setCell_at (j := 2) (.slice a6 (g.sent.length + 1) c6) hX6)
  have HR7 := Lib.hid (((grown_setCell w6 w.heap.size 2 (.slice a6 (g.sent.length + 1) c6)).block (w.heap.size + 1) (lt_of_block hR6) (by simp)).trans hR6)
  have HG7 := Lib.hid (grown_new HG6.out (grown_setCell w6 w.heap.size 2 (.slice a6 (g.sent.length + 1) c6)) (Nat.le_refl _))
  have HQ6 := Lib.hid hQ6
  have HR6 := Lib.hid hr6
  have HH6 := Lib.hid hg6
  clear hQ6 hr6 hg6 hX6 hR6
  have HR6' := Lib.hid (show ∀ k, rowOf (.slice a6 (g.sent.length + 1) c6) = some k → w.heap.size + 2 ≤ k from fun k hk => by
    rcases HR6.out with e | e
    · exact HR4.out k (e ▸ hk)
    · have h1 := lt_of_block HR5.out
      have h3 := Option.some.inj (e.symm.trans hk)
      rw [World.size_alloc] at h1
      omega)
  go_wp2_with (with_reducible refine hold_ld 40 _ rfl ?_)
  apply Lib.hid
  with_reducible refine wpList_load_blk rfl 40 _ rfl _ ?o1 ?hx1 _ _ _ HX7.out _ 3 ?hn1 Try.underlying40 rfl Try.size40 ?_
  case hx1 => exact rfl
  case hn1 => exact rfl
  go_wp2_with (with_reducible refine hold_st 40 _ _ rfl ?_)
  apply Lib.hid
  with_reducible refine wpList_store_all rfl 40 _ _ rfl _ ?cs2 ?hx2 ?hy2 _ _ HR7.out ?hf2 _ ?hl2 Try.size40 ?h12 ?_
  case hy2 => exact rfl
  case hx2 => exact rfl
  case hf2 => exact rfl
  case hl2 => exact rfl
  case h12 => simp [allOne, Value.oneCell']
  intro w2 hb2 hg2
  have HR2 := Lib.hid hb2
  have HG2 := Lib.hid (grown_new HG7.out hg2 (by omega))
  have HQ2 := Lib.hid ((HQ6.out.kept (grown_setCell w6 w.heap.size 2 (.slice a6 (g.sent.length + 1) c6)) (fun k hk e => by injection e with e; have := HR6'.out k hk; omega)).kept hg2 (fun k hk e => by injection e with e; have := HR6'.out k hk; omega))
  clear hb2 hg2
  go_wp2
  refine bodyPost_ret (results_c40tt rfl _ _ _ _ (by rfl) (by rfl) HR2.out) (by rfl) ?_
  have hK : Keeps (fun _ => False) w w2 := Keeps.keep HG2.out
  have h0 := HI.out.keptNone HG2.out
  refine ⟨⟨ca, cn, cc, g.taken, a6, g.sent.length + 1, c6⟩, rfl, HG2.out, ⟨h0.tkl, h0.p, h0.tk, ⟨vs ++ [.slice xa bs.length xcap], ?_, ?_⟩, h0.rp, ?_⟩⟩
  · have := HQ2.out
    rw [show g.sent.length + 1 = (g.sent ++ [bs]).length from by simp] at this
    simpa using this
  · exact (HB.out.keeps hK (fun _ _ h => h.elim)).snoc (HXI.out.keeps hK (fun _ _ h => h.elim))
  · intro k hk hM
    have h1 := HR6'.out k hk
    have h2 := HMB.out k hM
    omega
set_option maxHeartbeats 4000000 in
theorem ref_send_refused (r : Rf) (w : World) (xa : Option Addr) (xcap m : Nat) (hm : 64 < m) :
    Calls Try.prog 33 #[r.val, .slice xa m xcap] w fun e w' => e = .returned (.tuple #[r.val, .int .i64 0, .int .i64 3]) ∧ w.grownBy w' none := by
  obtain ⟨ca, cn, cc, tk, sa, sn, sc⟩ := r
  obtain ⟨hg, h1, h2⟩ := two_new w (.cells #[.slice ca cn cc, .int .i64 tk, .slice sa sn sc] 40) (.cells Rf.zero.cells 40)
  have HX := Lib.hid (show _ from h1)
  have HR := Lib.hid h2
  have HG := Lib.hid hg
  have hm' : (64 : Int) < (m : Nat) := by omega
  clear hg h1 h2
  go_enter Try.func33, Try.ntmps33
  go_wp2_with (with_reducible refine hold_ld 40 _ rfl ?_)
  apply Lib.hid
  with_reducible refine wpList_load_blk rfl 40 _ rfl _ ?o1 ?hx1 _ _ _ HX.out _ 3 ?hn1 Try.underlying40 rfl Try.size40 ?_
  case hx1 => exact rfl
  case hn1 => exact rfl
  go_wp2_with (with_reducible refine hold_st 40 _ _ rfl ?_)
  apply Lib.hid
  with_reducible refine wpList_store_all rfl 40 _ _ rfl _ ?cs2 ?hx2 ?hy2 _ _ HR.out ?hf2 _ ?hl2 Try.size40 ?h12 ?_
  case hy2 => exact rfl
  case hx2 => exact rfl
  case hf2 => exact rfl
  case hl2 => exact rfl
  case h12 => simp [allOne, Value.oneCell']
  intro w2 hb2 hg2
  have HR2 := Lib.hid hb2
  have HG2 := Lib.hid (grown_new HG.out hg2 (by simp))
  clear hb2 hg2
  go_wp2
  refine bodyPost_ret (results_c40tt rfl _ _ _ _ (by rfl) (by rfl) HR2.out) (by rfl) ?_
  exact ⟨rfl, HG2.out⟩
end Go.Proofs.Ytnglbneefkdfgaa
