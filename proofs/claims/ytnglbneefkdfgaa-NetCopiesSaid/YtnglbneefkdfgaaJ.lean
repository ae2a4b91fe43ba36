import Derived.Test.YtnglbneefkdfgaaI
set_option linter.unusedVariables false
namespace Go.Proofs.Ytnglbneefkdfgaa
open Go.RowKit
set_option maxRecDepth 100000 in
set_option maxHeartbeats 4000000 in
theorem ref_push_many (M : Nat → Prop) (r : Rf) (g : Nh) (w : World) (h : RS M w r g) (xa : Option Addr) (xcap : Nat) (bs : List UInt8) (hMB : ∀ k, M k → k < w.heap.size) (hx : Inn M w (.slice xa bs.length xcap) bs) (hm : bs.length ≤ 64) (hk : 256 ≤ g.came.length - g.taken) (hl : g.came.length < 1000000) (hbd : tot g.came ≤ 1000000000) :
    Calls Try.prog 21 #[r.val, .slice xa bs.length xcap] w fun e w' => e = .returned (.tuple #[r.val, .int .i64 0, .int .i64 3]) ∧ w.grownBy w' none := by
  obtain ⟨vs, hp, hb⟩ := h.p
  have hsn := h.cn
  have htk := h.tk
  obtain ⟨ca, cn, cc, tk, sa, sn, sc⟩ := r
  simp only at hsn htk hp
  subst hsn htk
  obtain ⟨hg, h1, h2⟩ := two_new w (.cells #[.slice ca g.came.length cc, .int .i64 (g.taken : Nat), .slice sa sn sc] 40) (.cells Rf.zero.cells 40)
  have CQ := ref_queue M _ g _ (h.keptNone hg)
  have CB := fun (u : World) (hgu : ((w.alloc (.cells #[.slice ca g.came.length cc, .int .i64 (g.taken : Nat), .slice sa sn sc] 40)).alloc (.cells Rf.zero.cells 40)).grownBy u none) => bytes_any M ca cc vs g.came u (hp.keptNone (hg.trans hgu)) (hb.keeps (X := fun _ => False) (Keeps.keep (hg.trans hgu)) (fun _ _ h => h.elim)) (by omega) hbd
  have HP := Lib.hid hp
  have HB := Lib.hid hb
  have HX := Lib.hid (show _ from h1)
  have HR := Lib.hid h2
  have HG := Lib.hid hg
  have HI := Lib.hid h
  have HMB := Lib.hid hMB
  have HXI := Lib.hid hx
  have hm' : ¬ (64 : Int) < (bs.length : Nat) := by omega
  have hk' : (256 : Int) ≤ ((g.came.length - g.taken : Nat) : Int) := by omega
  clear hg h1 h2 hp hb h hMB hx hk
  go_enter Try.func21, Try.ntmps21
  go_wp2_with fail
  refine CQ.mono ?_; rintro e w5 ⟨v5, vs5, rfl, hv5, hb5, hg5⟩
  obtain ⟨a5, c5, rfl, _⟩ := hv5.shape
  have HX5 := Lib.hid ((hg5.block _ (lt_of_block HX.out) (by simp)).trans HX.out)
  have HR5 := Lib.hid ((hg5.block _ (lt_of_block HR.out) (by simp)).trans HR.out)
  have HG5 := Lib.hid (HG.out.trans hg5)
  have z5 := lt_of_block HR5.out
  clear CQ CB hv5 hb5 hg5 HX HR HG
  go_wp2_with (with_reducible refine hold_ldn 40 _ rfl rfl ?_)
  apply Lib.hid
  with_reducible refine wpList_load_blk rfl 40 _ rfl _ ?o1 ?hx1 _ _ _ HX5.out _ 3 ?hn1 Try.underlying40 rfl Try.size40 ?_
  case hx1 => exact rfl
  case hn1 => exact rfl
  go_wp2_with (with_reducible refine hold_st 40 _ _ rfl ?_)
  apply Lib.hid
  with_reducible refine wpList_store_all rfl 40 _ _ rfl _ ?cs2 ?hx2 ?hy2 _ _ HR5.out ?hf2 _ ?hl2 Try.size40 ?h12 ?_
  case hy2 => exact rfl
  case hx2 => exact rfl
  case hf2 => exact rfl
  case hl2 => exact rfl
  case h12 => simp [allOne, Value.oneCell']
  intro w2 hb2 hg2
  have HR2 := Lib.hid hb2
  have HG2 := Lib.hid (grown_new HG5.out hg2 (by omega))
  clear hb2 hg2
  go_wp2
  refine bodyPost_ret (results_c40tt rfl _ _ _ _ (by rfl) (by rfl) HR2.out) (by rfl) ?_
  exact ⟨rfl, HG2.out⟩
end Go.Proofs.Ytnglbneefkdfgaa
