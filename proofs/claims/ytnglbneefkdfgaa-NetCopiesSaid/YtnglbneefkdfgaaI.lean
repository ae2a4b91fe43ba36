import Derived.Test.YtnglbneefkdfgaaH
set_option linter.unusedVariables false
namespace Go.Proofs.Ytnglbneefkdfgaa
open Go.RowKit
set_option maxRecDepth 100000 in
set_option maxHeartbeats 4000000 in
theorem ref_push_one (M : Nat → Prop) (r : Rf) (g : Nh) (w : World) (h : RS M w r g) (xa : Option Addr) (xcap : Nat) (bs : List UInt8) (hMB : ∀ k, M k → k < w.heap.size) (hx : Inn M w (.slice xa bs.length xcap) bs) (hm : bs.length ≤ 64) (hk : g.came.length - g.taken < 256) (hl : g.came.length < 1000000) (hbd : tot g.came ≤ 1000000000) :
    Calls Try.prog 21 #[r.val, .slice xa bs.length xcap] w fun e w' => ∃ r' : Rf, e = .returned (.tuple #[r'.val, .int .i64 (tot g.came : Nat), .int .i64 0]) ∧ w.grownBy w' none ∧ RS M w' r' { g with came := g.came ++ [bs] } := by
  obtain ⟨vs, hp, hb⟩ := h.p
  have hsn := h.cn
  have htk := h.tk
  obtain ⟨ca, cn, cc, tk, sa, sn, sc⟩ := r
  simp only at hsn htk hp
  subst hsn htk
  obtain ⟨hg, h1, h2⟩ := two_new w (.cells #[.slice ca g.came.length cc, .int .i64 (g.taken : Nat), .slice sa sn sc] 40) (.cells Rf.zero.cells 40)
  have CQ := ref_queue M _ g _ (h.keptNone hg)
  have CB := fun (u : World) (hgu : ((w.alloc (.cells #[.slice ca g.came.length cc, .int .i64 (g.taken : Nat), .slice sa sn sc] 40)).alloc (.cells Rf.zero.cells 40)).grownBy u none) => bytes_any M ca cc vs g.came u (hp.keptNone (hg.trans hgu)) (hb.keeps (X := fun _ => False) (Keeps.keep (hg.trans hgu)) (fun _ _ h => h.elim)) (by omega) hbd
  have HP := Lib.hid hp
  have HB := Lib.hid hb
  have HX := Lib.hid (show _ from h1)
  have HR := Lib.hid h2
  have HG := Lib.hid hg
  have HI := Lib.hid h
  have HMB := Lib.hid hMB
  have HXI := Lib.hid hx
  have hm' : ¬ (64 : Int) < (bs.length : Nat) := by omega
  have hk' : ¬ (256 : Int) ≤ ((g.came.length - g.taken : Nat) : Int) := by omega
  clear hg h1 h2 hp hb h hMB hx hk
  go_enter Try.func21, Try.ntmps21
  go_wp2_with fail
  refine CQ.mono ?_; rintro e w5 ⟨v5, vs5, rfl, hv5, hb5, hg5⟩
  obtain ⟨a5, c5, rfl, _⟩ := hv5.shape
  have HX5 := Lib.hid ((hg5.block _ (lt_of_block HX.out) (by simp)).trans HX.out)
  have HR5 := Lib.hid ((hg5.block _ (lt_of_block HR.out) (by simp)).trans HR.out)
  have HG5 := Lib.hid (HG.out.trans hg5)
  have CB5 := CB w5 hg5
  have p0 := cells_all HX5.out 0
  have z5 := lt_of_block HR5.out
  have HZ := Lib.hid z5
  clear CQ CB hv5 hb5 hg5 HX HR HG z5
  go_wp2_with fail
  refine CB5.mono ?_; rintro e w' ⟨rfl, rfl⟩
  clear CB5
  have hn3 := heap_alloc_new w5 (.cells #[] 22)
  have hs3 := ((HP.out.keptNone HG5.out).keptNone (World.grownBy_alloc w5 (.cells #[] 22) none))
  have HS3 := Lib.hid hs3.src
  have HO3 := Lib.hid hs3.2.1
  have p1 : (w5.alloc (.cells #[] 22)).cell? ⟨w.heap.size, 0, none⟩ = some (.slice ca g.came.length cc) := cells_all ((heap_alloc_old w5 (.cells #[] 22) (Nat.lt_of_succ_lt HZ.out)).trans HX5.out) 0
  have HE3 := Lib.hid (Gs.empty eL hn3)
  clear hn3 hs3
  go_wp2_with (at_builtin; refine wpList_gs eL rfl _ _ 34 rfl _ 0 g.came.length [] vs rfl rfl HE3.out HS3.out HO3.out (by omega) ?_)
  intro v4 w4 hQ4 hg4 hr4
  have hQ4 : Gs eL w4 v4 g.came.length vs := by simpa using hQ4
  obtain ⟨a4, c4, rfl, _⟩ := hQ4.shape
  have hZ := HZ.out
  have hr4' : ∀ k, rowOf (.slice a4 g.came.length c4) = some k → w.heap.size + 2 ≤ k := fun k hk => by
    rcases hr4 with e | e
    · have h3 : w5.heap.size = k := Option.some.inj (e.symm.trans hk)
      omega
    · have h3 : w5.heap.size + 1 = k := Option.some.inj (e.symm.trans hk)
      omega
  have hG4 : w.grownBy w4 none := grown_new (HG5.out.trans (World.grownBy_alloc w5 (.cells #[] 22) none)) hg4 (by show w.heap.size ≤ w5.heap.size; omega)
  have hX4 : w4.heap[w.heap.size]? = _ := (hg4.block _ (by simp; omega) (by simp [rowOf]; omega)).trans ((heap_alloc_old _ _ (by omega)).trans HX5.out)
  have hR4 : w4.heap[w.heap.size + 1]? = _ := (hg4.block _ (by simp; omega) (by simp [rowOf]; omega)).trans ((heap_alloc_old _ _ (by omega)).trans HR5.out)
  clear hZ HX5 HR5 HG5
  have hn5 := heap_alloc_new w4 (.cells #[.slice xa bs.length xcap] 22)
  have hg5 := World.grownBy_alloc w4 (.cells #[.slice xa bs.length xcap] 22) none
  have HQ5 := Lib.hid (hQ4.keptNone hg5)
  have HS5 := Lib.hid (src_ls hn5)
  have HG5 := Lib.hid (hG4.trans hg5)
  have HX5 := Lib.hid ((hg5.block _ (lt_of_block hX4) (by simp)).trans hX4)
  have HR5 := Lib.hid ((hg5.block _ (lt_of_block hR4) (by simp)).trans hR4)
  have HR4 := Lib.hid hr4'
  clear hQ4 hg4 hr4 hr4' hG4 hX4 hR4 hn5 hg5 HE3 HS3
  go_wp2_with (at_builtin; refine wpList_gs eL rfl _ _ 34 rfl _ g.came.length 1 vs [.slice xa bs.length xcap] rfl rfl HQ5.out HS5.out (by simp [Value.oneCell']) (by omega) ?_)
  intro v6 w6 hQ6 hg6 hr6
  obtain ⟨a6, c6, rfl, _⟩ := hQ6.shape
  have hX6 := (hg6.block _ (lt_of_block HX5.out) (fun e => by have := HR4.out _ e.symm; omega)).trans HX5.out
  have hR6 := (hg6.block _ (lt_of_block HR5.out) (fun e => by have := HR4.out _ e.symm; omega)).trans HR5.out
  have HG6 := Lib.hid (grown_new3 HG5.out hg6 (fun k e => by have := HR4.out _ e; omega))
  have k6 := cells_all hX6 0
  have f6 := frozen_all hX6 0
  have HX7 := Lib.hid (heap_setCell_at (j := 0) (.slice a6 (g.came.length + 1) c6) hX6)
  have HR7 := Lib.hid (((grown_setCell w6 w.heap.size 0 (.slice a6 (g.came.length + 1) c6)).block (w.heap.size + 1) (lt_of_block hR6) (by simp)).trans hR6)
  have HG7 := Lib.hid (grown_new HG6.out (grown_setCell w6 w.heap.size 0 (.slice a6 (g.came.length + 1) c6)) (Nat.le_refl _))
  have HQ6 := Lib.hid hQ6
  have HR6 := Lib.hid hr6
  have HH6 := Lib.hid hg6
  clear hQ6 hr6 hg6 hX6 hR6
  have HR6' := Lib.hid (show ∀ k, rowOf (.slice a6 (g.came.length + 1) c6) = some k → w.heap.size + 2 ≤ k from fun k hk => by
    rcases HR6.out with e | e
    · exact HR4.out k (e ▸ hk)
    · have h1 := lt_of_block HR5.out
      have h3 := Option.some.inj (e.symm.trans hk)
      rw [World.size_alloc] at h1
      omega)
  go_wp2_with (with_reducible refine hold_ld 40 _ rfl ?_)
  apply Lib.hid
  with_reducible refine wpList_load_blk rfl 40 _ rfl _ ?o1 ?hx1 _ _ _ HX7.out _ 3 ?hn1 Try.underlying40 rfl Try.size40 ?_
  case hx1 => exact rfl
  case hn1 => exact rfl
  go_wp2_with (with_reducible refine hold_st 40 _ _ rfl ?_)
  apply Lib.hid
  with_reducible refine wpList_store_all rfl 40 _ _ rfl _ ?cs2 ?hx2 ?hy2 _ _ HR7.out ?hf2 _ ?hl2 Try.size40 ?h12 ?_
  case hy2 => exact rfl
  case hx2 => exact rfl
  case hf2 => exact rfl
  case hl2 => exact rfl
  case h12 => simp [allOne, Value.oneCell']
  intro w2 hb2 hg2
  have HR2 := Lib.hid hb2
  have HG2 := Lib.hid (grown_new HG7.out hg2 (by omega))
  have HQ2 := Lib.hid ((HQ6.out.kept (grown_setCell w6 w.heap.size 0 (.slice a6 (g.came.length + 1) c6)) (fun k hk e => by injection e with e; have := HR6'.out k hk; omega)).kept hg2 (fun k hk e => by injection e with e; have := HR6'.out k hk; omega))
  clear hb2 hg2
  go_wp2
  refine bodyPost_ret (results_c40tt rfl _ _ _ _ (by rfl) (by rfl) HR2.out) (by rfl) ?_
  have hK : Keeps (fun _ => False) w w2 := Keeps.keep HG2.out
  have h0 := HI.out.keptNone HG2.out
  refine ⟨⟨a6, g.came.length + 1, c6, g.taken, sa, sn, sc⟩, rfl, HG2.out, ⟨Nat.le_trans h0.tkl (by simp), ⟨vs ++ [.slice xa bs.length xcap], ?_, ?_⟩, h0.tk, h0.t, ?_, h0.rt⟩⟩
  · have := HQ2.out
    rw [show g.came.length + 1 = (g.came ++ [bs]).length from by simp] at this
    simpa using this
  · exact (HB.out.keeps hK (fun _ _ h => h.elim)).snoc (HXI.out.keeps hK (fun _ _ h => h.elim))
  · intro k hk hM
    have h1 := HR6'.out k hk
    have h2 := HMB.out k hM
    omega
theorem hold_ldn {P : Program} {ops : Array Oper} {rest : List Oper} {op : Oper} {a : Act} {w : World} {Q : Exit → Act → World → Prop} (ty : TypeId) (x : Operand) (_ : op.guard = none) (_ : op.op = .load ty x) (h : Hid (wpList P ops Q (op :: rest) a w)) : wpList P ops Q (op :: rest) a w := h.out
set_option maxHeartbeats 4000000 in
theorem ref_push_long (r : Rf) (w : World) (xa : Option Addr) (xcap m : Nat) (hm : 64 < m) :
    Calls Try.prog 21 #[r.val, .slice xa m xcap] w fun e w' => e = .returned (.tuple #[r.val, .int .i64 0, .int .i64 3]) ∧ w.grownBy w' none := by
  obtain ⟨ca, cn, cc, tk, sa, sn, sc⟩ := r
  obtain ⟨hg, h1, h2⟩ := two_new w (.cells #[.slice ca cn cc, .int .i64 tk, .slice sa sn sc] 40) (.cells Rf.zero.cells 40)
  have HX := Lib.hid (show _ from h1)
  have HR := Lib.hid h2
  have HG := Lib.hid hg
  have hm' : (64 : Int) < (m : Nat) := by omega
  clear hg h1 h2
  go_enter Try.func21, Try.ntmps21
  go_wp2_with (with_reducible refine hold_ldn 40 _ rfl rfl ?_)
  apply Lib.hid
  with_reducible refine wpList_load_blk rfl 40 _ rfl _ ?o1 ?hx1 _ _ _ HX.out _ 3 ?hn1 Try.underlying40 rfl Try.size40 ?_
  case hx1 => exact rfl
  case hn1 => exact rfl
  go_wp2_with (with_reducible refine hold_st 40 _ _ rfl ?_)
  apply Lib.hid
  with_reducible refine wpList_store_all rfl 40 _ _ rfl _ ?cs2 ?hx2 ?hy2 _ _ HR.out ?hf2 _ ?hl2 Try.size40 ?h12 ?_
  case hy2 => exact rfl
  case hx2 => exact rfl
  case hf2 => exact rfl
  case hl2 => exact rfl
  case h12 => simp [allOne, Value.oneCell']
  intro w2 hb2 hg2
  have HR2 := Lib.hid hb2
  have HG2 := Lib.hid (grown_new HG.out hg2 (by simp))
  clear hb2 hg2
  go_wp2
  refine bodyPost_ret (results_c40tt rfl _ _ _ _ (by rfl) (by rfl) HR2.out) (by rfl) ?_
  exact ⟨rfl, HG2.out⟩
end Go.Proofs.Ytnglbneefkdfgaa
